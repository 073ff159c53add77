/- The library's functions that are met: contracts of the kit's shelf, laid over this program. -/
import Derived.Test.YtomkgfdigldhcaaGreatDoorMF
import Derived.Shelf.Strings.Trim
import Derived.Shelf.Small.Bits
import Derived.Shelf.Small.Strs
import Derived.Shelf.Small.Wraps
import Derived.Shelf.Strconv.Itoa3
import Derived.Shelf.Strconv.Itoa4
import Derived.Shelf.Strings.Cut
import Derived.Shelf.Sort.Plain
import Derived.Shelf.Strings.Prefix
import Derived.Shelf.Strings.Runes
import Derived.Shelf.Bits.Mul64
import Derived.Shelf.Strings.Repeat
import Derived.Shelf.Slices.Turned
import Derived.Shelf.Slices.CompactS
import Derived.Shelf.Slices.In.SortNone
import Derived.Test.YtomkgfdigldhcaaGreatDoorProg
import Derived.Shelf.Pu.Lays
import Derived.ProofKit
import Derived.OpenShut
import Derived.Test.YtomkgfdigldhcaaGreatDoorRows
import Derived.Lib.LaidU8
import Derived.Shelf.Vars
import Derived.Handed
import Derived.Lay
import Derived.MakeChecks
namespace Go.Proofs
open Go.Shelf
def Tryz.lays162_ren : Go.Shelf.Ren := ⟨fun | 162 => 119 | 232 => 172 | 227 => 173 | 234 => 174 | 236 => 175 | 228 => 263 | 271 => 264 | 151 => 265 | 120 => 306 | 197 => 307 | 152 => 308 | 260 => 323 | 137 => 170 | 119 => 324 | 224 => 325 | 225 => 326 | 217 => 258 | 266 => 301 | n => n, fun | 9 => 9 | 4 => 4 | 3 => 3 | 5 => 5 | 117 => 218 | 116 => 217 | 0 => 0 | 124 => 221 | 21 => 21 | 105 => 269 | 46 => 172 | 119 => 331 | 139 => 334 | 138 => 333 | n => n, fun | 3 => 8 | 4 => 9 | n => n⟩
theorem Tryz.lays162 : Go.Proofs.Lays.n162 Tryz.prog Tryz.lays162_ren := {
  mixed := by kernel_rfl
  f119 := Tryz.func324.trans (congrArg some (by kernel_rfl))
  f120 := Tryz.func306.trans (congrArg some (by kernel_rfl))
  f137 := Tryz.func170.trans (congrArg some (by kernel_rfl))
  f151 := Tryz.func265.trans (congrArg some (by kernel_rfl))
  f152 := Tryz.func308.trans (congrArg some (by kernel_rfl))
  f162 := Tryz.func119.trans (congrArg some (by kernel_rfl))
  f197 := Tryz.func307.trans (congrArg some (by kernel_rfl))
  f217 := Tryz.func258.trans (congrArg some (by kernel_rfl))
  f224 := Tryz.func325.trans (congrArg some (by kernel_rfl))
  f225 := Tryz.func326.trans (congrArg some (by kernel_rfl))
  f227 := Tryz.func173.trans (congrArg some (by kernel_rfl))
  f228 := Tryz.func263.trans (congrArg some (by kernel_rfl))
  f232 := Tryz.func172.trans (congrArg some (by kernel_rfl))
  f234 := Tryz.func174.trans (congrArg some (by kernel_rfl))
  f236 := Tryz.func175.trans (congrArg some (by kernel_rfl))
  f260 := Tryz.func323.trans (congrArg some (by kernel_rfl))
  f266 := Tryz.func301.trans (congrArg some (by kernel_rfl))
  f271 := Tryz.func264.trans (congrArg some (by kernel_rfl))
  t0 := Tryz.underlying0
  a0 := Tryz.isAgg0
  z0 := Tryz.sizeOf0
  v0 := Tryz.zeroValue0
  t3 := Tryz.underlying3
  a3 := Tryz.isAgg3
  z3 := Tryz.sizeOf3
  v3 := Tryz.zeroValue3
  t4 := Tryz.underlying4
  a4 := Tryz.isAgg4
  z4 := Tryz.sizeOf4
  v4 := Tryz.zeroValue4
  t5 := Tryz.underlying5
  a5 := Tryz.isAgg5
  z5 := Tryz.sizeOf5
  v5 := Tryz.zeroValue5
  t9 := Tryz.underlying9
  a9 := Tryz.isAgg9
  z9 := Tryz.sizeOf9
  v9 := Tryz.zeroValue9
  t21 := Tryz.underlying21
  a21 := Tryz.isAgg21
  z21 := Tryz.sizeOf21
  v21 := Tryz.zeroValue21
  t46 := Tryz.underlying172
  a46 := Tryz.isAgg172
  z46 := Tryz.sizeOf172
  v46 := Tryz.zeroValue172
  t105 := Tryz.underlying269
  a105 := Tryz.isAgg269
  z105 := Tryz.sizeOf269
  v105 := Tryz.zeroValue269
  t116 := Tryz.underlying217
  a116 := Tryz.isAgg217
  z116 := Tryz.sizeOf217
  t117 := Tryz.underlying218
  a117 := Tryz.isAgg218
  z117 := Tryz.sizeOf218
  v117 := Tryz.zeroValue218
  t119 := Tryz.underlying331
  a119 := Tryz.isAgg331
  z119 := Tryz.sizeOf331
  t124 := Tryz.underlying221
  a124 := Tryz.isAgg221
  z124 := Tryz.sizeOf221
  v124 := Tryz.zeroValue221
  t138 := Tryz.underlying333
  a138 := Tryz.isAgg333
  z138 := Tryz.sizeOf333
  v138 := Tryz.zeroValue333
  t139 := Tryz.underlying334
  a139 := Tryz.isAgg334
  z139 := Tryz.sizeOf334
  v139 := Tryz.zeroValue334
  g3 := by kernel_rfl
  g4 := by kernel_rfl }
open Go.RowKit in
theorem Tryz.strings_TrimRight_one (s : ByteArray) (c : UInt8) (hc : c.toNat < 128) (w : World) (hs : s.size ≤ 9223372036854775807) :
    Calls Tryz.prog 119 #[.string s, .string ⟨#[c]⟩] w fun e w' => e = .returned (.string ⟨(Lib.trimRightB s.data.toList c).toArray⟩) ∧ w' = w := Any.strings_TrimRight_one Tryz.lays162 s c hc w hs
def Tryz.lays134_ren : Go.Shelf.Ren := ⟨fun | 134 => 319 | 129 => 186 | n => n, fun | 53 => 234 | 3 => 3 | 4 => 4 | 46 => 172 | 5 => 5 | 9 => 9 | n => n, fun | n => n⟩
theorem Tryz.lays134 : Go.Proofs.Lays.n134 Tryz.prog Tryz.lays134_ren := {
  mixed := by kernel_rfl
  f129 := Tryz.func186.trans (congrArg some (by kernel_rfl))
  f134 := Tryz.func319.trans (congrArg some (by kernel_rfl))
  t3 := Tryz.underlying3
  a3 := Tryz.isAgg3
  z3 := Tryz.sizeOf3
  v3 := Tryz.zeroValue3
  t4 := Tryz.underlying4
  a4 := Tryz.isAgg4
  z4 := Tryz.sizeOf4
  v4 := Tryz.zeroValue4
  t5 := Tryz.underlying5
  a5 := Tryz.isAgg5
  z5 := Tryz.sizeOf5
  v5 := Tryz.zeroValue5
  t9 := Tryz.underlying9
  a9 := Tryz.isAgg9
  z9 := Tryz.sizeOf9
  v9 := Tryz.zeroValue9
  t46 := Tryz.underlying172
  a46 := Tryz.isAgg172
  z46 := Tryz.sizeOf172
  v46 := Tryz.zeroValue172
  t53 := Tryz.underlying234
  a53 := Tryz.isAgg234
  z53 := Tryz.sizeOf234
  v53 := Tryz.zeroValue234 }
theorem Tryz.bits_LeadingZeros64 (x : Int) (w : World) (h0 : 0 ≤ x) (h1 : x ≤ 18446744073709551615) :
    Calls Tryz.prog 319 #[.int .u64 x] w fun e w' => e = .returned (.int .i64 (64 - (Lib.bitLen x.toNat : Int))) ∧ w' = w := Any.bits_LeadingZeros64 Tryz.lays134 x w h0 h1
def Tryz.lays106_ren : Go.Shelf.Ren := ⟨fun | 106 => 154 | 213 => 224 | 265 => 286 | n => n, fun | 9 => 9 | 3 => 3 | n => n, fun | n => n⟩
theorem Tryz.lays106 : Go.Proofs.Lays.n106 Tryz.prog Tryz.lays106_ren := {
  mixed := by kernel_rfl
  f106 := Tryz.func154.trans (congrArg some (by kernel_rfl))
  f213 := Tryz.func224.trans (congrArg some (by kernel_rfl))
  f265 := Tryz.func286.trans (congrArg some (by kernel_rfl))
  t3 := Tryz.underlying3
  a3 := Tryz.isAgg3
  z3 := Tryz.sizeOf3
  v3 := Tryz.zeroValue3
  t9 := Tryz.underlying9
  a9 := Tryz.isAgg9
  z9 := Tryz.sizeOf9
  v9 := Tryz.zeroValue9 }
open Go.RowKit in
theorem Tryz.strings_Compare (a b : ByteArray) (w : World) :
    Calls Tryz.prog 154 #[.string a, .string b] w fun e w' => e = .returned (.int .i64 (Lib.compareBytes a.data.toList b.data.toList)) ∧ w' = w := Any.strings_Compare Tryz.lays106 a b w
def Tryz.lays137_ren : Go.Shelf.Ren := ⟨fun | 137 => 170 | 217 => 258 | 266 => 301 | n => n, fun | 9 => 9 | 5 => 5 | 3 => 3 | n => n, fun | n => n⟩
theorem Tryz.lays137 : Go.Proofs.Lays.n137 Tryz.prog Tryz.lays137_ren := {
  mixed := by kernel_rfl
  f137 := Tryz.func170.trans (congrArg some (by kernel_rfl))
  f217 := Tryz.func258.trans (congrArg some (by kernel_rfl))
  f266 := Tryz.func301.trans (congrArg some (by kernel_rfl))
  t3 := Tryz.underlying3
  a3 := Tryz.isAgg3
  z3 := Tryz.sizeOf3
  v3 := Tryz.zeroValue3
  t5 := Tryz.underlying5
  a5 := Tryz.isAgg5
  z5 := Tryz.sizeOf5
  v5 := Tryz.zeroValue5
  t9 := Tryz.underlying9
  a9 := Tryz.isAgg9
  z9 := Tryz.sizeOf9
  v9 := Tryz.zeroValue9 }
open Go.RowKit in
theorem Tryz.strings_IndexByte (s : ByteArray) (c : Int) (w : World) :
    Calls Tryz.prog 170 #[.string s, .int .u8 c] w fun e w' => e = .returned (.int .i64 (Lib.indexByte s.data.toList c.toNat.toUInt8)) ∧ w' = w := Any.strings_IndexByte Tryz.lays137 s c w
def Tryz.lays103_ren : Go.Shelf.Ren := ⟨fun | 103 => 332 | 210 => 343 | 206 => 300 | n => n, fun | 9 => 9 | 4 => 4 | 24 => 210 | 3 => 3 | n => n, fun | n => n⟩
theorem Tryz.lays103 : Go.Proofs.Lays.n103 Tryz.prog Tryz.lays103_ren := {
  mixed := by kernel_rfl
  f103 := Tryz.func332.trans (congrArg some (by kernel_rfl))
  f206 := Tryz.func300.trans (congrArg some (by kernel_rfl))
  f210 := Tryz.func343.trans (congrArg some (by kernel_rfl))
  t3 := Tryz.underlying3
  a3 := Tryz.isAgg3
  z3 := Tryz.sizeOf3
  v3 := Tryz.zeroValue3
  t4 := Tryz.underlying4
  a4 := Tryz.isAgg4
  z4 := Tryz.sizeOf4
  v4 := Tryz.zeroValue4
  t9 := Tryz.underlying9
  a9 := Tryz.isAgg9
  z9 := Tryz.sizeOf9
  v9 := Tryz.zeroValue9
  t24 := Tryz.underlying210
  a24 := Tryz.isAgg210
  z24 := Tryz.sizeOf210
  v24 := Tryz.zeroValue210 }
open Go.RowKit in
theorem Tryz.strings_CutPrefix (s p : ByteArray) (w : World) :
    Calls Tryz.prog 332 #[.string s, .string p] w fun e w' => e = .returned (.tuple #[.string ⟨(Lib.trimPrefix s.data.toList p.data.toList).toArray⟩, .bool (Lib.hasPrefix s.data.toList p.data.toList)]) ∧ w' = w := Any.strings_CutPrefix Tryz.lays103 s p w
def Tryz.laysM171_ren : Go.Shelf.Ren := ⟨fun | 171 => 365 | 243 => 369 | 246 => 171 | 283 => 259 | 284 => 260 | 285 => 261 | 286 => 262 | 129 => 186 | 317 => 302 | 318 => 303 | 319 => 304 | 320 => 305 | 337 => 321 | 338 => 322 | n => n, fun | 3 => 3 | 9 => 9 | 2 => 2 | 4 => 4 | 171 => 264 | 0 => 0 | 53 => 234 | 37 => 266 | 5 => 5 | 173 => 267 | 212 => 304 | 51 => 232 | 20 => 20 | 213 => 305 | 46 => 172 | 232 => 329 | 233 => 330 | n => n, fun | 17 => 3 | 18 => 6 | 19 => 7 | n => n⟩
theorem Tryz.laysM171 : Go.Proofs.LaysM.n171 Tryz.prog Tryz.laysM171_ren := {
  mixed := by kernel_rfl
  f129 := Tryz.func186.trans (congrArg some (by kernel_rfl))
  f171 := Tryz.func365.trans (congrArg some (by kernel_rfl))
  f243 := Tryz.func369.trans (congrArg some (by kernel_rfl))
  f246 := Tryz.func171.trans (congrArg some (by kernel_rfl))
  f283 := Tryz.func259.trans (congrArg some (by kernel_rfl))
  f284 := Tryz.func260.trans (congrArg some (by kernel_rfl))
  f285 := Tryz.func261.trans (congrArg some (by kernel_rfl))
  f286 := Tryz.func262.trans (congrArg some (by kernel_rfl))
  f317 := Tryz.func302.trans (congrArg some (by kernel_rfl))
  f318 := Tryz.func303.trans (congrArg some (by kernel_rfl))
  f319 := Tryz.func304.trans (congrArg some (by kernel_rfl))
  f320 := Tryz.func305.trans (congrArg some (by kernel_rfl))
  f337 := Tryz.func321.trans (congrArg some (by kernel_rfl))
  f338 := Tryz.func322.trans (congrArg some (by kernel_rfl))
  t0 := Tryz.underlying0
  a0 := Tryz.isAgg0
  z0 := Tryz.sizeOf0
  v0 := Tryz.zeroValue0
  t2 := Tryz.underlying2
  a2 := Tryz.isAgg2
  z2 := Tryz.sizeOf2
  v2 := Tryz.zeroValue2
  t3 := Tryz.underlying3
  a3 := Tryz.isAgg3
  z3 := Tryz.sizeOf3
  v3 := Tryz.zeroValue3
  t4 := Tryz.underlying4
  a4 := Tryz.isAgg4
  z4 := Tryz.sizeOf4
  v4 := Tryz.zeroValue4
  t5 := Tryz.underlying5
  a5 := Tryz.isAgg5
  z5 := Tryz.sizeOf5
  v5 := Tryz.zeroValue5
  t9 := Tryz.underlying9
  a9 := Tryz.isAgg9
  z9 := Tryz.sizeOf9
  v9 := Tryz.zeroValue9
  t20 := Tryz.underlying20
  a20 := Tryz.isAgg20
  z20 := Tryz.sizeOf20
  v20 := Tryz.zeroValue20
  t37 := Tryz.underlying266
  a37 := Tryz.isAgg266
  z37 := Tryz.sizeOf266
  v37 := Tryz.zeroValue266
  t46 := Tryz.underlying172
  a46 := Tryz.isAgg172
  z46 := Tryz.sizeOf172
  v46 := Tryz.zeroValue172
  t51 := Tryz.underlying232
  a51 := Tryz.isAgg232
  z51 := Tryz.sizeOf232
  v51 := Tryz.zeroValue232
  t53 := Tryz.underlying234
  a53 := Tryz.isAgg234
  z53 := Tryz.sizeOf234
  v53 := Tryz.zeroValue234
  t171 := Tryz.underlying264
  a171 := Tryz.isAgg264
  z171 := Tryz.sizeOf264
  v171 := Tryz.zeroValue264
  t173 := Tryz.underlying267
  a173 := Tryz.isAgg267
  z173 := Tryz.sizeOf267
  v173 := Tryz.zeroValue267
  t212 := Tryz.underlying304
  a212 := Tryz.isAgg304
  z212 := Tryz.sizeOf304
  v212 := Tryz.zeroValue304
  t213 := Tryz.underlying305
  a213 := Tryz.isAgg305
  z213 := Tryz.sizeOf305
  t232 := Tryz.underlying329
  a232 := Tryz.isAgg329
  z232 := Tryz.sizeOf329
  v232 := Tryz.zeroValue329
  t233 := Tryz.underlying330
  a233 := Tryz.isAgg330
  z233 := Tryz.sizeOf330
  v233 := Tryz.zeroValue330
  g17 := by kernel_rfl
  g18 := by kernel_rfl
  g19 := by kernel_rfl
  i0 := by kernel_rfl
  i2 := by kernel_rfl
  i3 := by kernel_rfl
  i4 := by kernel_rfl
  i5 := by kernel_rfl
  i9 := by kernel_rfl
  i20 := by kernel_rfl
  i37 := by kernel_rfl
  i46 := by kernel_rfl
  i51 := by kernel_rfl
  i53 := by kernel_rfl
  i171 := by kernel_rfl
  i173 := by kernel_rfl
  i212 := by kernel_rfl
  i232 := by kernel_rfl
  i233 := by kernel_rfl
  m17 := by kernel_rfl
  m18 := by kernel_rfl
  m19 := by kernel_rfl }
open Go.RowKit Go.Sort Go.Lib in
theorem Tryz.strconv_Itoa (n : Int) (h0 : -9223372036854775808 ≤ n) (h1 : n ≤ 9223372036854775807) (w : World) (htab : Lib.TabIs Tryz.prog w "internal/strconv.uint64pow10" .u64 Lib.pow10Tab) :
    Calls Tryz.prog 365 #[.int .i64 n] w fun e w' => e = .returned (.string ⟨(Lib.itoa n).toArray⟩) ∧ ∃ k os, w' = grow (w.drewN k) os := Any.strconv_Itoa Tryz.laysM171 n h0 h1 w htab
def Tryz.laysM173_ren : Go.Shelf.Ren := ⟨fun | 173 => 118 | 246 => 171 | 283 => 259 | 284 => 260 | 285 => 261 | 286 => 262 | 129 => 186 | 317 => 302 | 318 => 303 | 319 => 304 | 320 => 305 | 337 => 321 | 338 => 322 | n => n, fun | 2 => 2 | 3 => 3 | 9 => 9 | 4 => 4 | 171 => 264 | 0 => 0 | 53 => 234 | 37 => 266 | 5 => 5 | 173 => 267 | 212 => 304 | 51 => 232 | 20 => 20 | 213 => 305 | 46 => 172 | 232 => 329 | 233 => 330 | n => n, fun | 17 => 3 | 18 => 6 | 19 => 7 | n => n⟩
theorem Tryz.laysM173 : Go.Proofs.LaysM.n173 Tryz.prog Tryz.laysM173_ren := {
  mixed := by kernel_rfl
  f129 := Tryz.func186.trans (congrArg some (by kernel_rfl))
  f173 := Tryz.func118.trans (congrArg some (by kernel_rfl))
  f246 := Tryz.func171.trans (congrArg some (by kernel_rfl))
  f283 := Tryz.func259.trans (congrArg some (by kernel_rfl))
  f284 := Tryz.func260.trans (congrArg some (by kernel_rfl))
  f285 := Tryz.func261.trans (congrArg some (by kernel_rfl))
  f286 := Tryz.func262.trans (congrArg some (by kernel_rfl))
  f317 := Tryz.func302.trans (congrArg some (by kernel_rfl))
  f318 := Tryz.func303.trans (congrArg some (by kernel_rfl))
  f319 := Tryz.func304.trans (congrArg some (by kernel_rfl))
  f320 := Tryz.func305.trans (congrArg some (by kernel_rfl))
  f337 := Tryz.func321.trans (congrArg some (by kernel_rfl))
  f338 := Tryz.func322.trans (congrArg some (by kernel_rfl))
  t0 := Tryz.underlying0
  a0 := Tryz.isAgg0
  z0 := Tryz.sizeOf0
  v0 := Tryz.zeroValue0
  t2 := Tryz.underlying2
  a2 := Tryz.isAgg2
  z2 := Tryz.sizeOf2
  v2 := Tryz.zeroValue2
  t3 := Tryz.underlying3
  a3 := Tryz.isAgg3
  z3 := Tryz.sizeOf3
  v3 := Tryz.zeroValue3
  t4 := Tryz.underlying4
  a4 := Tryz.isAgg4
  z4 := Tryz.sizeOf4
  v4 := Tryz.zeroValue4
  t5 := Tryz.underlying5
  a5 := Tryz.isAgg5
  z5 := Tryz.sizeOf5
  v5 := Tryz.zeroValue5
  t9 := Tryz.underlying9
  a9 := Tryz.isAgg9
  z9 := Tryz.sizeOf9
  v9 := Tryz.zeroValue9
  t20 := Tryz.underlying20
  a20 := Tryz.isAgg20
  z20 := Tryz.sizeOf20
  v20 := Tryz.zeroValue20
  t37 := Tryz.underlying266
  a37 := Tryz.isAgg266
  z37 := Tryz.sizeOf266
  v37 := Tryz.zeroValue266
  t46 := Tryz.underlying172
  a46 := Tryz.isAgg172
  z46 := Tryz.sizeOf172
  v46 := Tryz.zeroValue172
  t51 := Tryz.underlying232
  a51 := Tryz.isAgg232
  z51 := Tryz.sizeOf232
  v51 := Tryz.zeroValue232
  t53 := Tryz.underlying234
  a53 := Tryz.isAgg234
  z53 := Tryz.sizeOf234
  v53 := Tryz.zeroValue234
  t171 := Tryz.underlying264
  a171 := Tryz.isAgg264
  z171 := Tryz.sizeOf264
  v171 := Tryz.zeroValue264
  t173 := Tryz.underlying267
  a173 := Tryz.isAgg267
  z173 := Tryz.sizeOf267
  v173 := Tryz.zeroValue267
  t212 := Tryz.underlying304
  a212 := Tryz.isAgg304
  z212 := Tryz.sizeOf304
  v212 := Tryz.zeroValue304
  t213 := Tryz.underlying305
  a213 := Tryz.isAgg305
  z213 := Tryz.sizeOf305
  t232 := Tryz.underlying329
  a232 := Tryz.isAgg329
  z232 := Tryz.sizeOf329
  v232 := Tryz.zeroValue329
  t233 := Tryz.underlying330
  a233 := Tryz.isAgg330
  z233 := Tryz.sizeOf330
  v233 := Tryz.zeroValue330
  g17 := by kernel_rfl
  g18 := by kernel_rfl
  g19 := by kernel_rfl
  i0 := by kernel_rfl
  i2 := by kernel_rfl
  i3 := by kernel_rfl
  i4 := by kernel_rfl
  i5 := by kernel_rfl
  i9 := by kernel_rfl
  i20 := by kernel_rfl
  i37 := by kernel_rfl
  i46 := by kernel_rfl
  i51 := by kernel_rfl
  i53 := by kernel_rfl
  i171 := by kernel_rfl
  i173 := by kernel_rfl
  i212 := by kernel_rfl
  i232 := by kernel_rfl
  i233 := by kernel_rfl
  m17 := by kernel_rfl
  m18 := by kernel_rfl
  m19 := by kernel_rfl }
open Go.RowKit Go.Sort Go.Lib in
theorem Tryz.strconv_FormatInt_10 (n : Int) (h0 : -9223372036854775808 ≤ n) (h1 : n ≤ 9223372036854775807) (w : World) (htab : Lib.TabIs Tryz.prog w "internal/strconv.uint64pow10" .u64 Lib.pow10Tab) :
    Calls Tryz.prog 118 #[.int .i64 n, .int .i64 10] w fun e w' => e = .returned (.string ⟨(Lib.itoa n).toArray⟩) ∧ ∃ k os, w' = grow (w.drewN k) os := Any.strconv_FormatInt_10 Tryz.laysM173 n h0 h1 w htab
def Tryz.laysPu14_ren : Go.Shelf.Ren := ⟨fun | 14 => 334 | 16 => 345 | 17 => 346 | 19 => 353 | 20 => 354 | 21 => 355 | 22 => 356 | 23 => 357 | 24 => 358 | 25 => 363 | 27 => 365 | 26 => 364 | 28 => 369 | 29 => 171 | 30 => 259 | 31 => 260 | 32 => 261 | 33 => 262 | 35 => 186 | 34 => 302 | 36 => 303 | 37 => 304 | 38 => 305 | 39 => 321 | 40 => 322 | n => n, fun | 9 => 9 | 3 => 3 | 22 => 234 | 24 => 318 | 25 => 326 | 4 => 4 | 34 => 345 | 5 => 5 | 36 => 172 | 37 => 266 | 0 => 0 | 39 => 347 | 21 => 21 | 44 => 353 | 47 => 350 | 50 => 361 | 48 => 359 | 2 => 2 | 52 => 264 | 55 => 267 | 59 => 304 | 60 => 232 | 20 => 20 | 61 => 305 | 65 => 329 | 66 => 330 | 67 => 118 | n => n, fun | 0 => 10 | 1 => 11 | 2 => 3 | 3 => 6 | 4 => 7 | n => n⟩
theorem Tryz.laysPu14 : Go.Proofs.LaysPu.n14 Tryz.prog Tryz.laysPu14_ren := {
  mixed := by kernel_rfl
  f14 := Tryz.func334.trans (congrArg some (by kernel_rfl))
  f16 := Tryz.func345.trans (congrArg some (by kernel_rfl))
  f17 := Tryz.func346.trans (congrArg some (by kernel_rfl))
  f19 := Tryz.func353.trans (congrArg some (by kernel_rfl))
  f20 := Tryz.func354.trans (congrArg some (by kernel_rfl))
  f21 := Tryz.func355.trans (congrArg some (by kernel_rfl))
  f22 := Tryz.func356.trans (congrArg some (by kernel_rfl))
  f23 := Tryz.func357.trans (congrArg some (by kernel_rfl))
  f24 := Tryz.func358.trans (congrArg some (by kernel_rfl))
  f25 := Tryz.func363.trans (congrArg some (by kernel_rfl))
  f26 := Tryz.func364.trans (congrArg some (by kernel_rfl))
  f27 := Tryz.func365.trans (congrArg some (by kernel_rfl))
  f28 := Tryz.func369.trans (congrArg some (by kernel_rfl))
  f29 := Tryz.func171.trans (congrArg some (by kernel_rfl))
  f30 := Tryz.func259.trans (congrArg some (by kernel_rfl))
  f31 := Tryz.func260.trans (congrArg some (by kernel_rfl))
  f32 := Tryz.func261.trans (congrArg some (by kernel_rfl))
  f33 := Tryz.func262.trans (congrArg some (by kernel_rfl))
  f34 := Tryz.func302.trans (congrArg some (by kernel_rfl))
  f35 := Tryz.func186.trans (congrArg some (by kernel_rfl))
  f36 := Tryz.func303.trans (congrArg some (by kernel_rfl))
  f37 := Tryz.func304.trans (congrArg some (by kernel_rfl))
  f38 := Tryz.func305.trans (congrArg some (by kernel_rfl))
  f39 := Tryz.func321.trans (congrArg some (by kernel_rfl))
  f40 := Tryz.func322.trans (congrArg some (by kernel_rfl))
  t0 := Tryz.underlying0
  a0 := Tryz.isAgg0
  z0 := Tryz.sizeOf0
  v0 := Tryz.zeroValue0
  i0 := by kernel_rfl
  t2 := Tryz.underlying2
  a2 := Tryz.isAgg2
  z2 := Tryz.sizeOf2
  v2 := Tryz.zeroValue2
  i2 := by kernel_rfl
  t3 := Tryz.underlying3
  a3 := Tryz.isAgg3
  z3 := Tryz.sizeOf3
  v3 := Tryz.zeroValue3
  i3 := by kernel_rfl
  t4 := Tryz.underlying4
  a4 := Tryz.isAgg4
  z4 := Tryz.sizeOf4
  v4 := Tryz.zeroValue4
  i4 := by kernel_rfl
  t5 := Tryz.underlying5
  a5 := Tryz.isAgg5
  z5 := Tryz.sizeOf5
  v5 := Tryz.zeroValue5
  i5 := by kernel_rfl
  t9 := Tryz.underlying9
  a9 := Tryz.isAgg9
  z9 := Tryz.sizeOf9
  v9 := Tryz.zeroValue9
  i9 := by kernel_rfl
  t20 := Tryz.underlying20
  a20 := Tryz.isAgg20
  z20 := Tryz.sizeOf20
  v20 := Tryz.zeroValue20
  i20 := by kernel_rfl
  t21 := Tryz.underlying21
  a21 := Tryz.isAgg21
  z21 := Tryz.sizeOf21
  v21 := Tryz.zeroValue21
  i21 := by kernel_rfl
  t22 := Tryz.underlying234
  a22 := Tryz.isAgg234
  z22 := Tryz.sizeOf234
  v22 := Tryz.zeroValue234
  i22 := by kernel_rfl
  t24 := Tryz.underlying318
  a24 := Tryz.isAgg318
  z24 := Tryz.sizeOf318
  v24 := Tryz.zeroValue318
  i24 := by kernel_rfl
  t25 := Tryz.underlying326
  a25 := Tryz.isAgg326
  z25 := Tryz.sizeOf326
  v25 := Tryz.zeroValue326
  i25 := by kernel_rfl
  t34 := Tryz.underlying345
  a34 := Tryz.isAgg345
  z34 := Tryz.sizeOf345
  v34 := Tryz.zeroValue345
  i34 := by kernel_rfl
  c34 := by kernel_rfl
  t36 := Tryz.underlying172
  a36 := Tryz.isAgg172
  z36 := Tryz.sizeOf172
  v36 := Tryz.zeroValue172
  i36 := by kernel_rfl
  t37 := Tryz.underlying266
  a37 := Tryz.isAgg266
  z37 := Tryz.sizeOf266
  v37 := Tryz.zeroValue266
  i37 := by kernel_rfl
  t39 := Tryz.underlying347
  a39 := Tryz.isAgg347
  z39 := Tryz.sizeOf347
  v39 := Tryz.zeroValue347
  i39 := by kernel_rfl
  t44 := Tryz.underlying353
  a44 := Tryz.isAgg353
  z44 := Tryz.sizeOf353
  v44 := Tryz.zeroValue353
  i44 := by kernel_rfl
  t47 := Tryz.underlying350
  a47 := Tryz.isAgg350
  z47 := Tryz.sizeOf350
  v47 := Tryz.zeroValue350
  i47 := by kernel_rfl
  t48 := Tryz.underlying359
  a48 := Tryz.isAgg359
  z48 := Tryz.sizeOf359
  v48 := Tryz.zeroValue359
  i48 := by kernel_rfl
  t50 := Tryz.underlying361
  a50 := Tryz.isAgg361
  z50 := Tryz.sizeOf361
  v50 := Tryz.zeroValue361
  i50 := by kernel_rfl
  t52 := Tryz.underlying264
  a52 := Tryz.isAgg264
  z52 := Tryz.sizeOf264
  v52 := Tryz.zeroValue264
  i52 := by kernel_rfl
  t55 := Tryz.underlying267
  a55 := Tryz.isAgg267
  z55 := Tryz.sizeOf267
  v55 := Tryz.zeroValue267
  i55 := by kernel_rfl
  t59 := Tryz.underlying304
  a59 := Tryz.isAgg304
  z59 := Tryz.sizeOf304
  v59 := Tryz.zeroValue304
  i59 := by kernel_rfl
  t60 := Tryz.underlying232
  a60 := Tryz.isAgg232
  z60 := Tryz.sizeOf232
  v60 := Tryz.zeroValue232
  i60 := by kernel_rfl
  t61 := Tryz.underlying305
  a61 := Tryz.isAgg305
  z61 := Tryz.sizeOf305
  t65 := Tryz.underlying329
  a65 := Tryz.isAgg329
  z65 := Tryz.sizeOf329
  v65 := Tryz.zeroValue329
  i65 := by kernel_rfl
  t66 := Tryz.underlying330
  a66 := Tryz.isAgg330
  z66 := Tryz.sizeOf330
  v66 := Tryz.zeroValue330
  i66 := by kernel_rfl
  t67 := Tryz.underlying118
  a67 := Tryz.isAgg118
  z67 := Tryz.sizeOf118
  v67 := Tryz.zeroValue118
  i67 := by kernel_rfl
  g0 := by kernel_rfl
  m0 := by kernel_rfl
  g1 := by kernel_rfl
  m1 := by kernel_rfl
  g2 := by kernel_rfl
  m2 := by kernel_rfl
  g3 := by kernel_rfl
  m3 := by kernel_rfl
  g4 := by kernel_rfl
  m4 := by kernel_rfl }
def Tryz.lays145_ren : Go.Shelf.Ren := ⟨fun | 145 => 333 | 220 => 344 | 219 => 352 | 217 => 258 | 225 => 326 | 224 => 325 | 267 => 362 | 266 => 301 | 314 => 368 | n => n, fun | 9 => 9 | 4 => 4 | 59 => 324 | 3 => 3 | 5 => 5 | 46 => 172 | 146 => 292 | 51 => 232 | n => n, fun | 1 => 2 | n => n⟩
theorem Tryz.lays145 : Go.Proofs.Lays.n145 Tryz.prog Tryz.lays145_ren := {
  mixed := by kernel_rfl
  f145 := Tryz.func333.trans (congrArg some (by kernel_rfl))
  f217 := Tryz.func258.trans (congrArg some (by kernel_rfl))
  f219 := Tryz.func352.trans (congrArg some (by kernel_rfl))
  f220 := Tryz.func344.trans (congrArg some (by kernel_rfl))
  f224 := Tryz.func325.trans (congrArg some (by kernel_rfl))
  f225 := Tryz.func326.trans (congrArg some (by kernel_rfl))
  f266 := Tryz.func301.trans (congrArg some (by kernel_rfl))
  f267 := Tryz.func362.trans (congrArg some (by kernel_rfl))
  f314 := Tryz.func368.trans (congrArg some (by kernel_rfl))
  t3 := Tryz.underlying3
  a3 := Tryz.isAgg3
  z3 := Tryz.sizeOf3
  v3 := Tryz.zeroValue3
  t4 := Tryz.underlying4
  a4 := Tryz.isAgg4
  z4 := Tryz.sizeOf4
  v4 := Tryz.zeroValue4
  t5 := Tryz.underlying5
  a5 := Tryz.isAgg5
  z5 := Tryz.sizeOf5
  v5 := Tryz.zeroValue5
  t9 := Tryz.underlying9
  a9 := Tryz.isAgg9
  z9 := Tryz.sizeOf9
  v9 := Tryz.zeroValue9
  t46 := Tryz.underlying172
  a46 := Tryz.isAgg172
  z46 := Tryz.sizeOf172
  v46 := Tryz.zeroValue172
  t51 := Tryz.underlying232
  a51 := Tryz.isAgg232
  z51 := Tryz.sizeOf232
  v51 := Tryz.zeroValue232
  t59 := Tryz.underlying324
  a59 := Tryz.isAgg324
  z59 := Tryz.sizeOf324
  v59 := Tryz.zeroValue324
  t146 := Tryz.underlying292
  a146 := Tryz.isAgg292
  z146 := Tryz.sizeOf292
  v146 := Tryz.zeroValue292
  g1 := by kernel_rfl }
open Go.RowKit Go.Lib in
theorem Tryz.strings_Cut (s sep : ByteArray) (m : Int) (w : World) (hs : s.size < 4294967281) (hm : w.cell? ⟨2, 0, none⟩ = some (.int .i64 m)) :
    Calls Tryz.prog 333 #[.string s, .string sep] w fun e w' => e = .returned (.tuple #[.string ⟨(Lib.cut s.data.toList sep.data.toList).1.toArray⟩, .string ⟨(Lib.cut s.data.toList sep.data.toList).2.1.toArray⟩, .bool (Lib.cut s.data.toList sep.data.toList).2.2]) ∧ ∃ n, w' = w.drewN n := Any.strings_Cut Tryz.lays145 s sep m w hs hm
def Tryz.lays190_ren : Go.Shelf.Ren := ⟨fun | 190 => 68 | 125 => 121 | 258 => 120 | 128 => 185 | 129 => 186 | 302 => 176 | 303 => 177 | 304 => 178 | 305 => 179 | 306 => 180 | 307 => 181 | 308 => 182 | 309 => 183 | 310 => 184 | 333 => 266 | 329 => 267 | 330 => 268 | 334 => 269 | 335 => 270 | 336 => 271 | 344 => 309 | n => n, fun | 31 => 48 | 9 => 9 | 3 => 3 | 46 => 172 | 0 => 0 | 51 => 232 | 53 => 234 | 4 => 4 | 183 => 224 | 182 => 223 | 131 => 229 | 5 => 5 | 218 => 272 | 222 => 276 | 228 => 308 | 229 => 309 | n => n, fun | n => n⟩
theorem Tryz.lays190 : Go.Proofs.Lays.n190 Tryz.prog Tryz.lays190_ren := {
  mixed := by kernel_rfl
  f125 := Tryz.func121.trans (congrArg some (by kernel_rfl))
  f128 := Tryz.func185.trans (congrArg some (by kernel_rfl))
  f129 := Tryz.func186.trans (congrArg some (by kernel_rfl))
  f190 := Tryz.func68.trans (congrArg some (by kernel_rfl))
  f258 := Tryz.func120.trans (congrArg some (by kernel_rfl))
  f302 := Tryz.func176.trans (congrArg some (by kernel_rfl))
  f303 := Tryz.func177.trans (congrArg some (by kernel_rfl))
  f304 := Tryz.func178.trans (congrArg some (by kernel_rfl))
  f305 := Tryz.func179.trans (congrArg some (by kernel_rfl))
  f306 := Tryz.func180.trans (congrArg some (by kernel_rfl))
  f307 := Tryz.func181.trans (congrArg some (by kernel_rfl))
  f308 := Tryz.func182.trans (congrArg some (by kernel_rfl))
  f309 := Tryz.func183.trans (congrArg some (by kernel_rfl))
  f310 := Tryz.func184.trans (congrArg some (by kernel_rfl))
  f329 := Tryz.func267.trans (congrArg some (by kernel_rfl))
  f330 := Tryz.func268.trans (congrArg some (by kernel_rfl))
  f333 := Tryz.func266.trans (congrArg some (by kernel_rfl))
  f334 := Tryz.func269.trans (congrArg some (by kernel_rfl))
  f335 := Tryz.func270.trans (congrArg some (by kernel_rfl))
  f336 := Tryz.func271.trans (congrArg some (by kernel_rfl))
  f344 := Tryz.func309.trans (congrArg some (by kernel_rfl))
  t0 := Tryz.underlying0
  a0 := Tryz.isAgg0
  z0 := Tryz.sizeOf0
  v0 := Tryz.zeroValue0
  t3 := Tryz.underlying3
  a3 := Tryz.isAgg3
  z3 := Tryz.sizeOf3
  v3 := Tryz.zeroValue3
  t4 := Tryz.underlying4
  a4 := Tryz.isAgg4
  z4 := Tryz.sizeOf4
  v4 := Tryz.zeroValue4
  t5 := Tryz.underlying5
  a5 := Tryz.isAgg5
  z5 := Tryz.sizeOf5
  v5 := Tryz.zeroValue5
  t9 := Tryz.underlying9
  a9 := Tryz.isAgg9
  z9 := Tryz.sizeOf9
  v9 := Tryz.zeroValue9
  t31 := Tryz.underlying48
  a31 := Tryz.isAgg48
  z31 := Tryz.sizeOf48
  v31 := Tryz.zeroValue48
  t46 := Tryz.underlying172
  a46 := Tryz.isAgg172
  z46 := Tryz.sizeOf172
  v46 := Tryz.zeroValue172
  t51 := Tryz.underlying232
  a51 := Tryz.isAgg232
  z51 := Tryz.sizeOf232
  v51 := Tryz.zeroValue232
  t53 := Tryz.underlying234
  a53 := Tryz.isAgg234
  z53 := Tryz.sizeOf234
  v53 := Tryz.zeroValue234
  t131 := Tryz.underlying229
  a131 := Tryz.isAgg229
  z131 := Tryz.sizeOf229
  v131 := Tryz.zeroValue229
  t182 := Tryz.underlying223
  a182 := Tryz.isAgg223
  z182 := Tryz.sizeOf223
  v182 := Tryz.zeroValue223
  t183 := Tryz.underlying224
  a183 := Tryz.isAgg224
  z183 := Tryz.sizeOf224
  v183 := Tryz.zeroValue224
  t218 := Tryz.underlying272
  a218 := Tryz.isAgg272
  z218 := Tryz.sizeOf272
  v218 := Tryz.zeroValue272
  t222 := Tryz.underlying276
  a222 := Tryz.isAgg276
  z222 := Tryz.sizeOf276
  v222 := Tryz.zeroValue276
  t228 := Tryz.underlying308
  a228 := Tryz.isAgg308
  z228 := Tryz.sizeOf308
  v228 := Tryz.zeroValue308
  t229 := Tryz.underlying309
  a229 := Tryz.isAgg309
  z229 := Tryz.sizeOf309
  v229 := Tryz.zeroValue309 }
open Go.Sort Go.RowKit in
theorem Tryz.slices_Sort_string (blk off cap : Nat) (ss : List (List UInt8)) (w : World) (hH : Holds encStr w blk off ss.toArray) (hblk : blk < w.heap.size) (hsz : ss.length < 4611686018427387904) :
    Calls Tryz.prog 68 #[.slice (some ⟨blk, off, none⟩) ss.length cap] w fun e w' =>
      e = .returned (.tuple #[]) ∧ ∃ n os, w' = grow (putRow encStr (Sort.ahead w n) blk off (ss.mergeSort fun x y => decide (x ≤ y)).toArray) os := Any.slices_Sort_string Tryz.lays190 blk off cap ss w hH hblk hsz
def Tryz.lays99_ren : Go.Shelf.Ren := ⟨fun | 99 => 257 | 206 => 300 | n => n, fun | 9 => 9 | 4 => 4 | 3 => 3 | n => n, fun | n => n⟩
theorem Tryz.lays99 : Go.Proofs.Lays.n99 Tryz.prog Tryz.lays99_ren := {
  mixed := by kernel_rfl
  f99 := Tryz.func257.trans (congrArg some (by kernel_rfl))
  f206 := Tryz.func300.trans (congrArg some (by kernel_rfl))
  t3 := Tryz.underlying3
  a3 := Tryz.isAgg3
  z3 := Tryz.sizeOf3
  v3 := Tryz.zeroValue3
  t4 := Tryz.underlying4
  a4 := Tryz.isAgg4
  z4 := Tryz.sizeOf4
  v4 := Tryz.zeroValue4
  t9 := Tryz.underlying9
  a9 := Tryz.isAgg9
  z9 := Tryz.sizeOf9
  v9 := Tryz.zeroValue9 }
open Go.RowKit Go.Lib in
theorem Tryz.strings_HasPrefix (s p : ByteArray) (w : World) :
    Calls Tryz.prog 257 #[.string s, .string p] w fun e w' => e = .returned (.bool (Lib.hasPrefix s.data.toList p.data.toList)) ∧ w' = w := Any.strings_HasPrefix Tryz.lays99 s p w
def Tryz.lays151_ren : Go.Shelf.Ren := ⟨fun | 151 => 265 | 152 => 308 | 137 => 170 | 119 => 324 | 224 => 325 | 225 => 326 | 217 => 258 | 266 => 301 | n => n, fun | 9 => 9 | 21 => 21 | 4 => 4 | 3 => 3 | 5 => 5 | 0 => 0 | 46 => 172 | n => n, fun | n => n⟩
theorem Tryz.lays151 : Go.Proofs.Lays.n151 Tryz.prog Tryz.lays151_ren := {
  mixed := by kernel_rfl
  f119 := Tryz.func324.trans (congrArg some (by kernel_rfl))
  f137 := Tryz.func170.trans (congrArg some (by kernel_rfl))
  f151 := Tryz.func265.trans (congrArg some (by kernel_rfl))
  f152 := Tryz.func308.trans (congrArg some (by kernel_rfl))
  f217 := Tryz.func258.trans (congrArg some (by kernel_rfl))
  f224 := Tryz.func325.trans (congrArg some (by kernel_rfl))
  f225 := Tryz.func326.trans (congrArg some (by kernel_rfl))
  f266 := Tryz.func301.trans (congrArg some (by kernel_rfl))
  t0 := Tryz.underlying0
  a0 := Tryz.isAgg0
  z0 := Tryz.sizeOf0
  v0 := Tryz.zeroValue0
  t3 := Tryz.underlying3
  a3 := Tryz.isAgg3
  z3 := Tryz.sizeOf3
  v3 := Tryz.zeroValue3
  t4 := Tryz.underlying4
  a4 := Tryz.isAgg4
  z4 := Tryz.sizeOf4
  v4 := Tryz.zeroValue4
  t5 := Tryz.underlying5
  a5 := Tryz.isAgg5
  z5 := Tryz.sizeOf5
  v5 := Tryz.zeroValue5
  t9 := Tryz.underlying9
  a9 := Tryz.isAgg9
  z9 := Tryz.sizeOf9
  v9 := Tryz.zeroValue9
  t21 := Tryz.underlying21
  a21 := Tryz.isAgg21
  z21 := Tryz.sizeOf21
  v21 := Tryz.zeroValue21
  t46 := Tryz.underlying172
  a46 := Tryz.isAgg172
  z46 := Tryz.sizeOf172
  v46 := Tryz.zeroValue172 }
open Go.RowKit Go.Lib in
theorem Tryz.strings_ContainsRune_ascii (s : ByteArray) (r : Int) (w : World) (h0 : 0 ≤ r) (h1 : r < 128) :
    Calls Tryz.prog 265 #[.string s, .int .i32 r] w fun e w' => e = .returned (.bool (decide (0 ≤ Lib.indexByte s.data.toList r.toNat.toUInt8))) ∧ w' = w := Any.strings_ContainsRune_ascii Tryz.lays151 s r w h0 h1
def Tryz.lays264_ren : Go.Shelf.Ren := ⟨fun | 264 => 288 | n => n, fun | 53 => 234 | 46 => 172 | n => n, fun | n => n⟩
theorem Tryz.lays264 : Go.Proofs.Lays.n264 Tryz.prog Tryz.lays264_ren := {
  mixed := by kernel_rfl
  f264 := Tryz.func288.trans (congrArg some (by kernel_rfl))
  t46 := Tryz.underlying172
  a46 := Tryz.isAgg172
  z46 := Tryz.sizeOf172
  v46 := Tryz.zeroValue172
  t53 := Tryz.underlying234
  a53 := Tryz.isAgg234
  z53 := Tryz.sizeOf234
  v53 := Tryz.zeroValue234 }
open Go.RowKit Go.Lib in
theorem Tryz.bits_Mul64 (x y : Nat) (hx : x < 18446744073709551616) (hy : y < 18446744073709551616) (w : World) :
    Calls Tryz.prog 288 #[.int .u64 x, .int .u64 y] w fun e w' => e = .returned (.tuple #[.int .u64 ((x * y / 18446744073709551616 : Nat) : Int), .int .u64 ((x * y % 18446744073709551616 : Nat) : Int)]) ∧ w' = w := Any.bits_Mul64 Tryz.lays264 x y hx hy w
def Tryz.lays105_ren : Go.Shelf.Ren := ⟨fun | 105 => 335 | 212 => 225 | 99 => 257 | 165 => 347 | 166 => 348 | 170 => 349 | 169 => 350 | 263 => 287 | 264 => 288 | 206 => 300 | 240 => 359 | 241 => 360 | 276 => 366 | 277 => 367 | n => n, fun | 9 => 9 | 3 => 3 | 4 => 4 | 20 => 20 | 0 => 0 | 46 => 172 | 109 => 251 | 5 => 5 | 72 => 341 | 76 => 342 | 51 => 232 | 146 => 292 | 53 => 234 | 148 => 294 | 70 => 339 | 37 => 266 | 75 => 318 | 127 => 350 | 164 => 355 | 80 => 118 | n => n, fun | n => n⟩
theorem Tryz.lays105 : Go.Proofs.Lays.n105 Tryz.prog Tryz.lays105_ren := {
  mixed := by kernel_rfl
  f99 := Tryz.func257.trans (congrArg some (by kernel_rfl))
  f105 := Tryz.func335.trans (congrArg some (by kernel_rfl))
  f165 := Tryz.func347.trans (congrArg some (by kernel_rfl))
  f166 := Tryz.func348.trans (congrArg some (by kernel_rfl))
  f169 := Tryz.func350.trans (congrArg some (by kernel_rfl))
  f170 := Tryz.func349.trans (congrArg some (by kernel_rfl))
  f206 := Tryz.func300.trans (congrArg some (by kernel_rfl))
  f212 := Tryz.func225.trans (congrArg some (by kernel_rfl))
  f240 := Tryz.func359.trans (congrArg some (by kernel_rfl))
  f241 := Tryz.func360.trans (congrArg some (by kernel_rfl))
  f263 := Tryz.func287.trans (congrArg some (by kernel_rfl))
  f264 := Tryz.func288.trans (congrArg some (by kernel_rfl))
  f276 := Tryz.func366.trans (congrArg some (by kernel_rfl))
  f277 := Tryz.func367.trans (congrArg some (by kernel_rfl))
  t0 := Tryz.underlying0
  a0 := Tryz.isAgg0
  z0 := Tryz.sizeOf0
  v0 := Tryz.zeroValue0
  t3 := Tryz.underlying3
  a3 := Tryz.isAgg3
  z3 := Tryz.sizeOf3
  v3 := Tryz.zeroValue3
  t4 := Tryz.underlying4
  a4 := Tryz.isAgg4
  z4 := Tryz.sizeOf4
  v4 := Tryz.zeroValue4
  t5 := Tryz.underlying5
  a5 := Tryz.isAgg5
  z5 := Tryz.sizeOf5
  v5 := Tryz.zeroValue5
  t9 := Tryz.underlying9
  a9 := Tryz.isAgg9
  z9 := Tryz.sizeOf9
  v9 := Tryz.zeroValue9
  t20 := Tryz.underlying20
  a20 := Tryz.isAgg20
  z20 := Tryz.sizeOf20
  v20 := Tryz.zeroValue20
  t37 := Tryz.underlying266
  a37 := Tryz.isAgg266
  z37 := Tryz.sizeOf266
  v37 := Tryz.zeroValue266
  t46 := Tryz.underlying172
  a46 := Tryz.isAgg172
  z46 := Tryz.sizeOf172
  v46 := Tryz.zeroValue172
  t51 := Tryz.underlying232
  a51 := Tryz.isAgg232
  z51 := Tryz.sizeOf232
  v51 := Tryz.zeroValue232
  t53 := Tryz.underlying234
  a53 := Tryz.isAgg234
  z53 := Tryz.sizeOf234
  v53 := Tryz.zeroValue234
  t70 := Tryz.underlying339
  a70 := Tryz.isAgg339
  z70 := Tryz.sizeOf339
  v70 := Tryz.zeroValue339
  t72 := Tryz.underlying341
  a72 := Tryz.isAgg341
  z72 := Tryz.sizeOf341
  v72 := Tryz.zeroValue341
  t75 := Tryz.underlying318
  a75 := Tryz.isAgg318
  z75 := Tryz.sizeOf318
  v75 := Tryz.zeroValue318
  t76 := Tryz.underlying342
  a76 := Tryz.isAgg342
  z76 := Tryz.sizeOf342
  v76 := Tryz.zeroValue342
  t109 := Tryz.underlying251
  a109 := Tryz.isAgg251
  z109 := Tryz.sizeOf251
  v109 := Tryz.zeroValue251
  t127 := Tryz.underlying350
  a127 := Tryz.isAgg350
  z127 := Tryz.sizeOf350
  v127 := Tryz.zeroValue350
  t146 := Tryz.underlying292
  a146 := Tryz.isAgg292
  z146 := Tryz.sizeOf292
  v146 := Tryz.zeroValue292
  t148 := Tryz.underlying294
  a148 := Tryz.isAgg294
  z148 := Tryz.sizeOf294
  v148 := Tryz.zeroValue294
  t164 := Tryz.underlying355
  a164 := Tryz.isAgg355
  z164 := Tryz.sizeOf355
  v164 := Tryz.zeroValue355 }
theorem Tryz.Builder_Extra_105 : Builder.Extra Tryz.prog Tryz.lays105_ren := {
  sizeBuilder := by kernel_rfl
  liesBuilder := by kernel_rfl
  t5 := Tryz.underlying5
  a5 := Tryz.isAgg5
  z5 := Tryz.sizeOf5
  v5 := Tryz.zeroValue5
  infoByte := by kernel_rfl
  cellsByte := by kernel_rfl
  sizeByte := by kernel_rfl
  neB5 := by decide }
open Go.RowKit Go.Lib in
theorem Tryz.strings_Repeat_main (s : ByteArray) (c : Nat) (w : World) (hc2 : 2 ≤ c) (hc : c ≤ 9223372036854775807) (hlen : s.size * c ≤ 140737488355328) (h0 : 0 < s.size) :
    Calls Tryz.prog 335 #[.string s, .int .i64 c] w fun e w' => e = .returned (.string ⟨(Lib.repeatL s.data.toList c).toArray⟩) ∧ Below w.heap.size w w' := Any.strings_Repeat_main Tryz.lays105 Tryz.Builder_Extra_105 s c w hc2 hc hlen h0
open Go.RowKit Go.Lib in
theorem Tryz.strings_Repeat_zero (s : ByteArray) (w : World) :
    Calls Tryz.prog 335 #[.string s, .int .i64 0] w fun e w' => e = .returned (.string ⟨#[]⟩) ∧ w' = w := Any.strings_Repeat_zero Tryz.lays105 s w
open Go.RowKit Go.Lib in
theorem Tryz.strings_Repeat_one (s : ByteArray) (w : World) :
    Calls Tryz.prog 335 #[.string s, .int .i64 1] w fun e w' => e = .returned (.string s) ∧ w' = w := Any.strings_Repeat_one Tryz.lays105 s w
def Tryz.lays109_ren : Go.Shelf.Ren := ⟨fun | 109 => 133 | n => n, fun | 31 => 48 | 9 => 9 | 3 => 3 | 0 => 0 | 4 => 4 | n => n, fun | n => n⟩
theorem Tryz.lays109 : Go.Proofs.Lays.n109 Tryz.prog Tryz.lays109_ren := {
  mixed := by kernel_rfl
  f109 := Tryz.func133.trans (congrArg some (by kernel_rfl))
  t0 := Tryz.underlying0
  a0 := Tryz.isAgg0
  z0 := Tryz.sizeOf0
  v0 := Tryz.zeroValue0
  t3 := Tryz.underlying3
  a3 := Tryz.isAgg3
  z3 := Tryz.sizeOf3
  v3 := Tryz.zeroValue3
  t4 := Tryz.underlying4
  a4 := Tryz.isAgg4
  z4 := Tryz.sizeOf4
  v4 := Tryz.zeroValue4
  t9 := Tryz.underlying9
  a9 := Tryz.isAgg9
  z9 := Tryz.sizeOf9
  v9 := Tryz.zeroValue9
  t31 := Tryz.underlying48
  a31 := Tryz.isAgg48
  z31 := Tryz.sizeOf48
  v31 := Tryz.zeroValue48 }
open Go.Lib in
theorem Tryz.slices_Index_string (b off n c : Nat) (zs : List ByteArray) (x : ByteArray) (w : World) (hz : n ≤ zs.length) (hbig : n ≤ 9223372036854775807) (hc : ∀ j, j < zs.length → w.cell? ⟨b, off + j, none⟩ = some (.string (zs.getD j ByteArray.empty))) :
    Calls Tryz.prog 133 #[.slice (some ⟨b, off, none⟩) n c, .string x] w fun e w' => e = .returned (.int .i64 (Lib.idxOfS (zs.take n) x)) ∧ w' = w := Any.slices_Index_string Tryz.lays109 b off n c zs x w hz hbig hc
def Tryz.lays110_ren : Go.Shelf.Ren := ⟨fun | 110 => 81 | 109 => 133 | n => n, fun | 31 => 48 | 9 => 9 | 4 => 4 | 3 => 3 | 0 => 0 | n => n, fun | n => n⟩
theorem Tryz.lays110 : Go.Proofs.Lays.n110 Tryz.prog Tryz.lays110_ren := {
  mixed := by kernel_rfl
  f109 := Tryz.func133.trans (congrArg some (by kernel_rfl))
  f110 := Tryz.func81.trans (congrArg some (by kernel_rfl))
  t0 := Tryz.underlying0
  a0 := Tryz.isAgg0
  z0 := Tryz.sizeOf0
  v0 := Tryz.zeroValue0
  t3 := Tryz.underlying3
  a3 := Tryz.isAgg3
  z3 := Tryz.sizeOf3
  v3 := Tryz.zeroValue3
  t4 := Tryz.underlying4
  a4 := Tryz.isAgg4
  z4 := Tryz.sizeOf4
  v4 := Tryz.zeroValue4
  t9 := Tryz.underlying9
  a9 := Tryz.isAgg9
  z9 := Tryz.sizeOf9
  v9 := Tryz.zeroValue9
  t31 := Tryz.underlying48
  a31 := Tryz.isAgg48
  z31 := Tryz.sizeOf48
  v31 := Tryz.zeroValue48 }
open Go.Lib in
theorem Tryz.slices_Contains_string (b off n c : Nat) (zs : List ByteArray) (x : ByteArray) (w : World) (hz : n ≤ zs.length) (hbig : n ≤ 9223372036854775807) (hc : ∀ j, j < zs.length → w.cell? ⟨b, off + j, none⟩ = some (.string (zs.getD j ByteArray.empty))) :
    Calls Tryz.prog 81 #[.slice (some ⟨b, off, none⟩) n c, .string x] w fun e w' => e = .returned (.bool (Lib.containsS (zs.take n) x)) ∧ w' = w := Any.slices_Contains_string Tryz.lays110 b off n c zs x w hz hbig hc
open Go.Lib in
theorem Tryz.slices_Contains_string_empty (a : Option Addr) (c : Nat) (x : ByteArray) (w : World) :
    Calls Tryz.prog 81 #[.slice a 0 c, .string x] w fun e w' => e = .returned (.bool false) ∧ w' = w := Any.slices_Contains_string_empty Tryz.lays110 a c x w
def Tryz.lays194_ren : Go.Shelf.Ren := ⟨fun | 194 => 69 | n => n, fun | 31 => 48 | 9 => 9 | 3 => 3 | 4 => 4 | 0 => 0 | n => n, fun | n => n⟩
theorem Tryz.lays194 : Go.Proofs.Lays.n194 Tryz.prog Tryz.lays194_ren := {
  mixed := by kernel_rfl
  f194 := Tryz.func69.trans (congrArg some (by kernel_rfl))
  t0 := Tryz.underlying0
  a0 := Tryz.isAgg0
  z0 := Tryz.sizeOf0
  v0 := Tryz.zeroValue0
  t3 := Tryz.underlying3
  a3 := Tryz.isAgg3
  z3 := Tryz.sizeOf3
  v3 := Tryz.zeroValue3
  t4 := Tryz.underlying4
  a4 := Tryz.isAgg4
  z4 := Tryz.sizeOf4
  v4 := Tryz.zeroValue4
  t9 := Tryz.underlying9
  a9 := Tryz.isAgg9
  z9 := Tryz.sizeOf9
  v9 := Tryz.zeroValue9
  t31 := Tryz.underlying48
  a31 := Tryz.isAgg48
  z31 := Tryz.sizeOf48
  v31 := Tryz.zeroValue48 }
open Go.RowKit Go.Lib Go.Sort in
theorem Tryz.slices_Compact_string (blk off cap : Nat) (zs : List (List UInt8)) (w : World) (hH : Holds encStr w blk off zs.toArray) (hsz : zs.length ≤ 9223372036854775807) (hcap : zs.length ≤ cap) :
    Calls Tryz.prog 69 #[.slice (some ⟨blk, off, none⟩) zs.length cap] w fun e w' => e = .returned (.slice (some ⟨blk, off, none⟩) (Lib.compact zs).length cap) ∧ ∃ q, w' = putRow encStr (Sort.ahead w q) blk off (Lib.compact zs ++ List.replicate (zs.length - (Lib.compact zs).length) []).toArray := Any.slices_Compact_string Tryz.lays194 blk off cap zs w hH hsz hcap
open Go.RowKit Go.Lib Go.Sort in
theorem Tryz.slices_Compact_string_empty (a : Option Addr) (cap : Nat) (w : World) :
    Calls Tryz.prog 69 #[.slice a 0 cap] w fun e w' => e = .returned (.slice a 0 cap) ∧ w' = w := Any.slices_Compact_string_empty Tryz.lays194 a cap w
open Go.RowKit Go.Sort in
theorem Tryz.slices_Sort_string_none (p : Option Addr) (cap : Nat) (w : World) :
    Calls Tryz.prog 68 #[.slice p 0 cap] w fun e w' => e = .returned (.tuple #[]) ∧ w' = w := Any.slices_Sort_string_none Tryz.lays190 p cap w

end Go.Proofs
/- What the world holds from the start on. -/
namespace Go.Proofs.YtomkgfdigldhcaaGreatDoor
open Go.KX Go.RowKit Go.Sort
structure GlF (w : World) : Prop where
  pow10 : Lib.TabIs Tryz.prog w "internal/strconv.uint64pow10" .u64 Lib.pow10Tab
  maxlen : ∃ m, w.cell? ⟨2, 0, none⟩ = some (.int .i64 m)
  esyn : ∃ ev, w.cell? ⟨10, 0, none⟩ = some ev ∧ (ev = .nilIface ∨ ∃ te pe, ev = .iface te pe)
  signs : ∀ (j : Nat) x, signsT[j]? = some x → w.cell? ⟨1, j, none⟩ = some (str x)
  levels : ∀ (j : Nat) ls, levelsT[j]? = some ls → ∃ b o c, w.cell? ⟨0, j, none⟩ = some (.slice (some ⟨b, o, none⟩) ls.length c) ∧ ls.length ≤ c ∧ ∀ (k : Nat) x, ls[k]? = some x → w.cell? ⟨b, o + k, none⟩ = some (str x)
theorem GlF.below {w w' : World} (h : GlF w) (hb : Below w.heap.size w w') : GlF w' :=
  ⟨tab_below (b := 3) (by kernel_rfl) h.pow10 hb, h.maxlen.elim fun m hm => ⟨m, KX.cell_below hb hm⟩, h.esyn.elim fun ev he => ⟨ev, KX.cell_below hb he.1, he.2⟩,
    fun j x hj => KX.cell_below hb (h.signs j x hj), fun j ls hj => by
      obtain ⟨b, o, c, h1, h2, h3⟩ := h.levels j ls hj
      exact ⟨b, o, c, KX.cell_below hb h1, h2, fun k x hk => KX.cell_below hb (h3 k x hk)⟩⟩
abbrev gT : List MF := [factF GlF]
theorem glf {g : GW} (h : All gT g) : GlF g.w := factF_at (fun _ _ => GlF.below) (h _ (.head _))
theorem callable {f : FuncId} {fn : Func} (hf : Tryz.prog.funcs[f]? = some fn) (hb : fn.body.isSome = true) (hn : (fn.name == "runtime.NumGoroutine") = false) : Callable Tryz.prog f := ⟨fn, hf, hb, hn⟩
theorem fmt_ok {n : Int} (h0 : -9223372036854775808 ≤ n) (h1 : n ≤ 9223372036854775807) : Fc Tryz.prog gT 118 [nI n, nI 10] (.str (Lib.itoa n)) :=
  Fc_lib ⟨_, Tryz.func118, rfl, by kernel_rfl⟩ fun ρ g vs hf ha => by
    rw [args_v (xs := [.int .i64 n, .int .i64 10]) rfl ha]
    refine (Tryz.strconv_FormatInt_10 n h0 h1 g.w (glf hf).pow10).mono ?_
    rintro e w' ⟨rfl, k, os, rfl⟩
    exact ⟨_, rfl, (below_drewN _ k).trans (show Below g.w.heap.size _ _ from below_grow (g.w.drewN k) os), fun _ _ => .str⟩
theorem fmtI {p : Int} {x : Nat} (hp : p = x) (hx : x < 10000000000000000) : Fc Tryz.prog gT 118 [nI p, nI 10] (.str (Lib.decDigits x)) := by
  subst hp
  rw [← Lib.itoa_nonneg]
  exact fmt_ok (by omega) (by omega)
theorem trim0_ok {s : Bytes} (hs : s.length ≤ 9223372036854775807) : Fc Tryz.prog gT 119 [.str s, .str [48]] (.str (Lib.trimRightB s 48)) :=
  Fc_lib ⟨_, Tryz.func119, rfl, by kernel_rfl⟩ fun ρ g vs hf ha => by
    rw [args_v (xs := [str s, str [48]]) rfl ha]
    refine (Tryz.strings_TrimRight_one ⟨s.toArray⟩ 48 (by decide) g.w (by simpa [ByteArray.size] using hs)).mono ?_
    rintro e w' ⟨rfl, rfl⟩
    exact ⟨_, rfl, Below.refl _ _, fun _ _ => .str⟩
theorem cutp_ok {s p : Bytes} : Fc Tryz.prog gT 332 [.str s, .str p] (.t [.str (Lib.trimPrefix s p), bS (Lib.hasPrefix s p)]) :=
  Fc_lib ⟨_, Tryz.func332, rfl, by kernel_rfl⟩ fun ρ g vs hf ha => by
    rw [args_v (xs := [str s, str p]) rfl ha]
    refine (Tryz.strings_CutPrefix ⟨s.toArray⟩ ⟨p.toArray⟩ g.w).mono ?_
    rintro e w' ⟨rfl, rfl⟩
    exact ⟨_, rfl, Below.refl _ _, fun _ _ => .t [_, _] rfl (DenL.cons .str (DenL.cons .v DenL.nil)).2⟩
theorem cut_ok {s p : Bytes} (hs : s.length < 4294967281) : Fc Tryz.prog gT 333 [.str s, .str p] (.t [.str (Lib.cut s p).1, .str (Lib.cut s p).2.1, bS (Lib.cut s p).2.2]) :=
  Fc_lib ⟨_, Tryz.func333, rfl, by kernel_rfl⟩ fun ρ g vs hf ha => by
    rw [args_v (xs := [str s, str p]) rfl ha]
    obtain ⟨m, hm⟩ := (glf hf).maxlen
    refine (Tryz.strings_Cut ⟨s.toArray⟩ ⟨p.toArray⟩ m g.w (by simpa [ByteArray.size] using hs) hm).mono ?_
    rintro e w' ⟨rfl, n, rfl⟩
    exact ⟨_, rfl, below_drewN _ n, fun _ _ => .t [_, _, _] rfl (DenL.cons .str (DenL.cons .str (DenL.cons .v DenL.nil))).2⟩
abbrev nU (n : Int) : SV := .v (.int .u64 n)
theorem mul64_ok {x y : Nat} (hx : x < 18446744073709551616) (hy : y < 18446744073709551616) : Fc Tryz.prog gT 288 [nU x, nU y] (.t [nU ((x * y / 18446744073709551616 : Nat) : Int), nU ((x * y % 18446744073709551616 : Nat) : Int)]) :=
  Fc_lib ⟨_, Tryz.func288, rfl, by kernel_rfl⟩ fun ρ g vs hf ha => by
    rw [args_v (xs := [.int .u64 x, .int .u64 y]) rfl ha]
    refine (Tryz.bits_Mul64 x y hx hy g.w).mono ?_
    rintro e w' ⟨rfl, rfl⟩
    exact ⟨_, rfl, Below.refl _ _, fun _ _ => .t [_, _] rfl (DenL.cons .v (DenL.cons .v DenL.nil)).2⟩
theorem mul64I_ok {p q : Int} {x y : Nat} (hp : p = x) (hq : q = y) (hx : x < 18446744073709551616) (hy : y < 18446744073709551616) : Fc Tryz.prog gT 288 [nU p, nU q] (.t [nU ((x * y / 18446744073709551616 : Nat) : Int), nU ((x * y % 18446744073709551616 : Nat) : Int)]) := by
  subst hp hq
  exact mul64_ok hx hy
theorem lz1000_ok : Fc Tryz.prog gT 319 [nU 1000] (nI 54) :=
  Fc_lib ⟨_, Tryz.func319, rfl, by kernel_rfl⟩ fun ρ g vs hf ha => by
    rw [args_v (xs := [.int .u64 1000]) rfl ha]
    refine (Tryz.bits_LeadingZeros64 1000 g.w (by decide) (by decide)).mono ?_
    rintro e w' ⟨rfl, rfl⟩
    exact ⟨_, rfl, Below.refl _ _, fun _ _ => by rw [show (64 : Int) - Lib.bitLen (1000 : Int).toNat = 54 by decide]; exact .v⟩
theorem rep_ok {s : Bytes} {c : Nat} (hlen : s.length * c ≤ 140737488355328) (hc : c ≤ 9223372036854775807) (h0 : 0 < s.length) : Fc Tryz.prog gT 335 [.str s, nI c] (.str (Lib.repeatL s c)) :=
  Fc_lib ⟨_, Tryz.func335, rfl, by kernel_rfl⟩ fun ρ g vs hf ha => by
    rw [args_v (xs := [str s, .int .i64 c]) rfl ha]
    rcases c with _ | _ | c
    · refine (Tryz.strings_Repeat_zero ⟨s.toArray⟩ g.w).mono ?_
      rintro e w' ⟨rfl, rfl⟩
      exact ⟨_, rfl, Below.refl _ _, fun _ _ => .str⟩
    · refine (Tryz.strings_Repeat_one ⟨s.toArray⟩ g.w).mono ?_
      rintro e w' ⟨rfl, rfl⟩
      exact ⟨_, rfl, Below.refl _ _, fun _ _ => by rw [show Lib.repeatL s (0 + 1) = s by simp [Lib.repeatL]]; exact .str⟩
    · refine (Tryz.strings_Repeat_main ⟨s.toArray⟩ (c + 2) g.w (by omega) hc (by simpa [ByteArray.size] using hlen) (by simpa [ByteArray.size] using h0)).mono ?_
      rintro e w' ⟨rfl, hb⟩
      exact ⟨_, rfl, hb, fun _ _ => .str⟩
/-- A package-level variable's block is never written. -/
theorem glfz {g : GW} (h : All gT g) {b o : Nat} (hc : ∀ w, GlF w → ∃ v, w.cell? ⟨b, o, none⟩ = some v) : g.fz b := by
  obtain ⟨w0, h1, h2, h3⟩ := h (factF GlF) (.head _)
  obtain ⟨v, hv⟩ := hc w0 h1
  exact h3 b (World.block_lt_of_cell? w0 _ hv)
theorem signs_den : ∀ g ρ, All gT g → Den g ρ (.p (signsT.map .str)) (.pointer (some ⟨1, 0, none⟩)) := fun g ρ h => by
  refine .p (signsT.map str) (by simp) (glfz (o := 0) h fun w hw => ⟨_, hw.signs 0 _ rfl⟩) (fun k x hk => ?_) (fun ρ' j sv x h1 h2 => ?_)
  · simp only [List.getElem?_map, Option.map_eq_some_iff] at hk
    obtain ⟨s, hs, rfl⟩ := hk
    have := (glf h).signs k s hs
    simpa using this
  · simp only [List.getElem?_map, Option.map_eq_some_iff] at h1 h2
    obtain ⟨s, hs, rfl⟩ := h1
    obtain ⟨s', hs', rfl⟩ := h2
    rw [hs] at hs'
    cases hs'
    exact .str
theorem levels_den : ∀ g ρ, All gT g → Den g ρ (.p (levelsT.map rB)) (.pointer (some ⟨0, 0, none⟩)) := fun g ρ h => by
  obtain ⟨w0, h1, h2, h3⟩ := h (factF GlF) (.head _)
  have key : ∀ (j : Nat) ls, levelsT[j]? = some ls → ∃ v, g.w.cell? ⟨0, j, none⟩ = some v ∧ ∀ ρ', Den g ρ' (rB ls) v := by
    intro j ls hj
    obtain ⟨b, o, c, e1, e2, e3⟩ := h1.levels j ls hj
    have hlen : ls.length ≤ 6 ∧ ls ≠ [] := by
      have : ∀ ls ∈ levelsT, ls.length ≤ 6 ∧ ls ≠ [] := by decide
      exact this ls (List.mem_of_getElem? hj)
    obtain ⟨s0, hs0⟩ : ∃ s0, ls[0]? = some s0 := by
      cases ls with
      | nil => exact absurd rfl hlen.2
      | cons a _ => exact ⟨a, rfl⟩
    have hfz : g.fz b := h3 b (World.block_lt_of_cell? w0 _ (e3 0 s0 hs0))
    refine ⟨_, KX.cell_below h2 e1, fun ρ' => ?_⟩
    have : Den g ρ' (.s 1 (ls.map fun s => [.str s])) (.slice (some ⟨b, o, none⟩) (ls.map fun s => [SV.str s]).length c) := .s (ls.map str) (by simp [maxLen]; omega) (by simpa using e2) (by simp) (fun r hr => by
        obtain ⟨s, _, rfl⟩ := List.mem_map.1 hr
        rfl) ⟨fun u hu => by
        obtain ⟨s, _, rfl⟩ := List.mem_map.1 hu
        rfl, fun h => absurd h (by decide)⟩ (fun _ => ⟨b, o, rfl, hfz, fun k x hk => ?_⟩) (fun ρ'' i j r sv x hi hj hx => ?_)
    · simpa using this
    · simp only [List.getElem?_map, Option.map_eq_some_iff] at hk
      obtain ⟨s, hs, rfl⟩ := hk
      exact KX.cell_below h2 (e3 k s hs)
    · simp only [List.getElem?_map, Option.map_eq_some_iff] at hi
      obtain ⟨s, hs, rfl⟩ := hi
      cases j with
      | zero =>
        simp only [List.getElem?_cons_zero, Option.some.injEq] at hj
        subst hj
        simp only [Nat.mul_one, Nat.add_zero, List.getElem?_map, hs, Option.map_some, Option.some.injEq] at hx
        subst hx
        exact .str
      | succ j => simp at hj
  have hx : ∃ xs : List Value, xs.length = 5 ∧ ∀ (j : Nat) ls x, levelsT[j]? = some ls → xs[j]? = some x → g.w.cell? ⟨0, j, none⟩ = some x ∧ ∀ ρ', Den g ρ' (rB ls) x := by
    obtain ⟨v0, a0, b0⟩ := key 0 _ rfl
    obtain ⟨v1, a1, b1⟩ := key 1 _ rfl
    obtain ⟨v2, a2, b2⟩ := key 2 _ rfl
    obtain ⟨v3, a3, b3⟩ := key 3 _ rfl
    obtain ⟨v4, a4, b4⟩ := key 4 _ rfl
    refine ⟨[v0, v1, v2, v3, v4], rfl, fun j ls x hj hx => ?_⟩
    match j, hj, hx with
    | 0, hj, hx => cases hj; cases hx; exact ⟨a0, b0⟩
    | 1, hj, hx => cases hj; cases hx; exact ⟨a1, b1⟩
    | 2, hj, hx => cases hj; cases hx; exact ⟨a2, b2⟩
    | 3, hj, hx => cases hj; cases hx; exact ⟨a3, b3⟩
    | 4, hj, hx => cases hj; cases hx; exact ⟨a4, b4⟩
    | n + 5, hj, hx => simp at hx
  obtain ⟨xs, hxl, hxs⟩ := hx
  have at5 : ∀ {j : Nat} {x : Value}, xs[j]? = some x → ∃ ls, levelsT[j]? = some ls := by
    intro j x hj
    have : j < xs.length := by
      rcases Nat.lt_or_ge j xs.length with h | h
      · exact h
      · rw [List.getElem?_eq_none h] at hj; cases hj
    have h5 : j < levelsT.length := by rw [hxl] at this; exact this
    exact ⟨levelsT[j], List.getElem?_eq_getElem h5⟩
  refine .p xs (by rw [hxl]; rfl) (glfz (o := 0) h fun w hw => (hw.levels 0 _ rfl).elim fun b hb => hb.elim fun o ho => ho.elim fun c hc => ⟨_, hc.1⟩) (fun k x hk => ?_) (fun ρ' j sv x h1 h2 => ?_)
  · obtain ⟨ls, hls⟩ := at5 hk
    have := (hxs k ls x hls hk).1
    simpa using this
  · simp only [List.getElem?_map, Option.map_eq_some_iff] at h1
    obtain ⟨ls, hls, rfl⟩ := h1
    exact (hxs j ls x hls h2).2 ρ'
theorem ib_ok {g : Bytes} {n : Int} {c : UInt8} (hn : n = c.toNat) : Fc Tryz.prog gT 170 [.str g, .v (.int .u8 n)] (nI (Lib.indexByte g c)) :=
  Fc_lib ⟨_, Tryz.func170, rfl, by kernel_rfl⟩ fun ρ w vs hf ha => by
    rw [args_v (xs := [str g, .int .u8 n]) rfl ha]
    refine (Tryz.strings_IndexByte ⟨g.toArray⟩ n w.w).mono ?_
    rintro e w' ⟨rfl, rfl⟩
    exact ⟨_, rfl, Below.refl _ _, fun _ _ => by rw [hn, show ((c.toNat : Int)).toNat.toUInt8 = c by simp]; exact .v⟩
theorem hp_ok {s p : Bytes} : Fc Tryz.prog gT 257 [.str s, .str p] (bS (Lib.hasPrefix s p)) :=
  Fc_lib ⟨_, Tryz.func257, rfl, by kernel_rfl⟩ fun ρ w vs hf ha => by
    rw [args_v (xs := [str s, str p]) rfl ha]
    refine (Tryz.strings_HasPrefix ⟨s.toArray⟩ ⟨p.toArray⟩ w.w).mono ?_
    rintro e w' ⟨rfl, rfl⟩
    exact ⟨_, rfl, Below.refl _ _, fun _ _ => .v⟩
theorem uintG_ok {t : Bytes} {n : Nat} (h0 : t ≠ []) (h16 : t.length ≤ 16) (h : Lib.parseUintM M62 0 t = .ok n) : Fc Tryz.prog gT 334 [.str t, nI 10, nI 62] (.t [nU n, .v .nilIface]) :=
  Fc_lib ⟨_, Tryz.func334, rfl, by kernel_rfl⟩ fun ρ w vs hf ha => by
    rw [args_v (xs := [str t, .int .i64 10, .int .i64 62]) rfl ha]
    refine (uint_ok Tryz.laysPu14 ⟨t.toArray⟩ (by simpa [ByteArray.size] using h0) (by simpa [ByteArray.size] using h16) n (by simpa using h) w.w).mono ?_
    rintro e w' ⟨rfl, rfl⟩
    exact ⟨_, rfl, Lib.bytesWorld_below _ _ _, fun _ _ => .t [_, _] rfl (DenL.cons .v (DenL.cons .v DenL.nil)).2⟩
theorem uintG_bad {t : Bytes} (h0 : t ≠ []) (h16 : t.length ≤ 16) (h : Lib.parseUintM M62 0 t = synU) : Fc Tryz.prog gT 334 [.str t, nI 10, nI 62] (.t [nU 0, .ni]) :=
  Fc_lib ⟨_, Tryz.func334, rfl, by kernel_rfl⟩ fun ρ w vs hf ha => by
    rw [args_v (xs := [str t, .int .i64 10, .int .i64 62]) rfl ha]
    obtain ⟨ev, hv, hev⟩ := (glf hf).esyn
    refine (uint_bad Tryz.laysPu14 ⟨t.toArray⟩ (by simpa [ByteArray.size] using h0) (by simpa [ByteArray.size] using h16) (by simpa using h) ev w.w hv hev).mono ?_
    rintro e w' ⟨v, rfl, hb⟩
    exact ⟨_, rfl, hb, fun _ _ => .t [_, _] rfl (DenL.cons .v (DenL.cons .ni DenL.nil)).2⟩
end Go.Proofs.YtomkgfdigldhcaaGreatDoor
/- BaseQ BaseR BaseS. -/
/- Out of a contract: the row of a law. What was there reads as it did. No program in sight. -/
namespace Go.KX
open Go.RowKit
/-- What was there is as it was. -/
structure OldSame (W W' : World) : Prop where
  os : W'.os = W.os
  output : W'.output = W.output
  size : W.heap.size ≤ W'.heap.size
  same : ∀ b, b < W.heap.size → W'.heap[b]? = W.heap[b]?
/-- All that is there is never written again. -/
def gAll (W : World) : GW := ⟨W, fun b => b < W.heap.size, fun _ h => h⟩
theorem calls_law {P : Program} {f : FuncId} {args : Array Value} {fs : List MF} {W : World} (h : Spx P f args fs [] (fun v fs' own' => v = .bool true ∧ fs' = [] ∧ own' = [])) (hf : All fs (gAll W)) :
    Calls P f args W fun e W' => e = .returned (.bool true) ∧ OldSame W W' := by
  refine (h.2 (gAll W) hf ⟨(fun r hr => by cases hr), List.nodup_nil, (fun b hb => by cases hb), (fun b hb => by cases hb)⟩).mono ?_
  rintro e w' ⟨v, fs', own', g', rfl, ⟨rfl, rfl, rfl⟩, rfl, hE, _, _, _⟩
  exact ⟨rfl, hE.os, hE.output, hE.size, fun b hb => hE.same b hb⟩
theorem OldSame.kept {W W' : World} (h : OldSame W W') (may : MemPlace → Prop) : W.keptBut W' may := by
  refine ⟨h.os, h.output, fun i hi => ?_⟩
  rw [h.same i hi]
  cases hq : W.heap[i]? with
  | none => rfl
  | some o => cases o <;> first | exact ⟨rfl, rfl, rfl, fun _ _ => rfl⟩ | exact .inr ⟨rfl, rfl⟩ | rfl
section
variable {H : Type} {enc : TypeId × Value → H} {P : Program} {W W' : World}
theorem mapM_keep {α β : Type} {f f' : α → Option β} : ∀ (l : List α) (ys : List β), l.mapM f = some ys → (∀ i ∈ l, ∀ y ∈ ys, f i = some y → f' i = some y) → l.mapM f' = some ys
  | [], ys, h, _ => by simpa using h
  | a :: l, ys, h, hk => by
    simp only [List.mapM_cons] at h ⊢
    cases hfa : f a with
    | none => rw [hfa] at h; cases h
    | some y =>
      rw [hfa] at h
      cases hl : l.mapM f with
      | none => rw [hl] at h; cases h
      | some zs =>
        rw [hl] at h
        cases h
        have h1 := hk a (.head _) y (.head _) hfa
        have h2 := mapM_keep l zs hl (fun i hi z hz hz2 => hk i (.tail _ hi) z (.tail _ hz) hz2)
        rw [h1, h2]; rfl
theorem mapM_len {α β : Type} {f : α → Option β} : ∀ (l : List α) (ys : List β), l.mapM f = some ys → ys.length = l.length
  | [], ys, h => by simp at h; subst h; rfl
  | a :: l, ys, h => by
    simp only [List.mapM_cons] at h
    cases hfa : f a with
    | none => rw [hfa] at h; cases h
    | some y =>
      rw [hfa] at h
      cases hl : l.mapM f with
      | none => rw [hl] at h; cases h
      | some zs =>
        rw [hl] at h
        cases h
        simp [mapM_len l zs hl]
theorem mapM_at {α β : Type} {f : α → Option β} : ∀ (l : List α) (ys : List β), l.mapM f = some ys → ∀ (i : Nat) a, l[i]? = some a → ∃ y, ys[i]? = some y ∧ f a = some y
  | [], ys, h, i, a, ha => by simp at ha
  | b :: l, ys, h, i, a, ha => by
    simp only [List.mapM_cons] at h
    cases hfa : f b with
    | none => rw [hfa] at h; cases h
    | some y =>
      rw [hfa] at h
      cases hl : l.mapM f with
      | none => rw [hl] at h; cases h
      | some zs =>
        rw [hl] at h
        cases h
        cases i with
        | zero => simp at ha; subst ha; exact ⟨y, rfl, hfa⟩
        | succ i => simp at ha; obtain ⟨y', h1, h2⟩ := mapM_at l zs hl i a ha; exact ⟨y', by simpa using h1, h2⟩
theorem cells_at {w : World} {base : Nat} {a : Addr} {n : Nat} {cs : List Value} (h : w.cells? base a n = some cs) : cs.length = n ∧ ∀ (j : Nat) v, cs[j]? = some v → w.cell? (a.add j) = some v := by
  unfold World.cells? at h
  split at h
  · refine ⟨by have := mapM_len _ _ h; simpa using this, fun j v hj => ?_⟩
    have hlt : j < n := by
      have := mapM_len _ _ h
      have h2 := (List.getElem?_eq_some_iff.1 hj).1
      simp at this; omega
    obtain ⟨y, h1, h2⟩ := mapM_at _ _ h j j (by simp [hlt])
    rw [hj] at h1
    cases h1
    exact h2
  · cases h
theorem add_block (a : Addr) (i : Nat) : (a.add i).block = a.block := by unfold Addr.add; split <;> rfl
theorem cells_keep {base n : Nat} {a : Addr} {cs : List Value} (hW : OldSame W W') (h : W.cells? base a n = some cs) : W'.cells? base a n = some cs := by
  unfold World.cells? at h ⊢
  split
  · rename_i hb
    rw [if_pos hb] at h
    refine mapM_keep _ _ h (fun i _ y _ hy => ?_)
    unfold World.cell? at hy ⊢
    have hlt : (a.add i).block < W.heap.size := by
      rcases Nat.lt_or_ge (a.add i).block W.heap.size with h | h
      · exact h
      · rw [Array.getElem?_eq_none h] at hy; cases hy
    rw [hW.same _ hlt]; exact hy
  · rename_i hb; rw [if_neg hb] at h; cases h
/-- Types that lead to no interface, map, function, pointer. -/
def plainT (P : Program) : Nat → TypeId → Bool
  | 0, _ => false
  | f + 1, t => match P.underlying t with
    | some .bool => true
    | some (.int _) => true
    | some .string => true
    | some (.slice e) => decide (0 < P.cellsOf e) && plainT P f e
    | some (.struct fs) => fs.toList.all fun fd => plainT P f fd.type
    | _ => false
theorem row_mem {a : Addr} {n j : Nat} (h : j < n) : MemPlace.cell a.block (a.off + j) ∈ MemPlace.row a n := List.mem_map.2 ⟨j, by simp [h], rfl⟩
theorem trod_keep (hW : OldSame W W') {base : Nat} {held : Bool} {sp : Nat → Bool} : ∀ (k fuel : Nat) (t : TypeId) (cs : List Value) (x : DataW H × List MemPlace), plainT P k t = true → (∀ p ∈ x.2, sp p.block = true) →
    DataW.trod enc P W base (fun _ => true) held fuel t cs = some x → DataW.trod enc P W' base sp held fuel t cs = some x
  | 0, _, _, _, _, hp, _, _ => by cases hp
  | _ + 1, 0, _, _, _, _, _, h => by cases h
  | k + 1, fuel + 1, t, cs, x, hp, hs, h => by
    rw [plainT] at hp
    unfold DataW.trod at h ⊢
    split at hp
    · rename_i u; rw [u] at h ⊢; revert h; split <;> intro h <;> first | exact h | (rename_i hq; cases hq; done) | (rename_i hq _; cases hq; done) | (cases h; done)
    · rename_i u; rw [u] at h ⊢; revert h; split <;> intro h <;> first | exact h | (rename_i hq; cases hq; done) | (rename_i hq _; cases hq; done) | (cases h; done)
    · rename_i u; rw [u] at h ⊢; revert h; split <;> intro h <;> first | exact h | (rename_i hq; cases hq; done) | (rename_i hq _; cases hq; done) | (cases h; done)
    · rename_i e u
      simp only [Bool.and_eq_true, decide_eq_true_eq] at hp
      obtain ⟨hz, hpe⟩ := hp
      rw [u] at h ⊢
      revert h
      split <;> intro h <;> first | exact h | (rename_i hq; cases hq; done) | (rename_i hq _; cases hq; done) | (cases h; done) | skip
      rename_i e2 a len cap heq
      injection heq with heq
      injection heq with heq
      subst heq
      dsimp only at h ⊢
      split at h
      · rename_i hc
        rw [if_pos hc]
        simp only [if_true, Option.bind_eq_some_iff, Option.map_eq_some_iff] at h ⊢
        obtain ⟨elems, h1, rest, h2, h3⟩ := h
        subst h3
        have hel : ∀ (i : Nat) y, y ∈ elems ++ rest → ((W.cells? base (a.add (i * P.cellsOf e)) (P.cellsOf e)).bind (DataW.trod enc P W base (fun _ => true) held fuel e)) = some y → ((W'.cells? base (a.add (i * P.cellsOf e)) (P.cellsOf e)).bind (DataW.trod enc P W' base sp held fuel e)) = some y := by
          intro i y hy hyx
          simp only [Option.bind_eq_some_iff] at hyx ⊢
          obtain ⟨c, hc1, hc2⟩ := hyx
          refine ⟨c, cells_keep hW hc1, trod_keep hW k fuel e c y hpe (fun p hp => hs p ?_) hc2⟩
          exact List.mem_append_right _ (List.mem_flatMap.2 ⟨y, hy, hp⟩)
        refine ⟨elems, mapM_keep _ _ h1 (fun i _ y hy => hel i y (List.mem_append_left _ hy)), rest, ?_, rfl⟩
        have hl1 := mapM_len _ _ h1
        have hl2 := mapM_len _ _ h2
        simp only [List.length_range] at hl1 hl2
        by_cases hsb : sp a.block = true
        · rw [if_pos hsb]
          exact mapM_keep _ _ h2 (fun i _ y hy => hel (len + i) y (List.mem_append_right _ hy))
        · have h0 : (elems.length + rest.length) * P.cellsOf e = 0 := by
            rcases Nat.eq_zero_or_pos ((elems.length + rest.length) * P.cellsOf e) with h | h
            · exact h
            · exact absurd (hs _ (List.mem_append_left _ (row_mem h))) hsb
          have h00 : elems.length + rest.length = 0 := by
            rcases Nat.mul_eq_zero.1 h0 with h | h
            · exact h
            · omega
          have : rest = [] := List.eq_nil_of_length_eq_zero (by omega)
          subst this
          rw [if_neg hsb]
      · cases h
    · rename_i fs u
      simp only [List.all_eq_true] at hp
      rw [u] at h ⊢
      dsimp only at h ⊢
      split at h
      · rename_i hc
        rw [if_pos hc]
        simp only [Option.map_eq_some_iff] at h ⊢
        obtain ⟨xs, h1, h2⟩ := h
        subst h2
        refine ⟨xs, mapM_keep _ _ h1 (fun fd hfd y hy hyx => trod_keep hW k fuel _ _ y (hp fd hfd) (fun p hp => hs p (List.mem_flatMap.2 ⟨y, hy, hp⟩)) hyx), rfl⟩
      · cases h
    · cases hp
theorem trodAll_keep (hW : OldSame W W') {base : Nat} {held : Bool} {sp : Nat → Bool} (k : Nat) : ∀ (ts : List TypeId) (vs : List Value) (ds : List (DataW H)) (ps : List MemPlace), (ts.all fun t => plainT P k t) = true → (∀ p ∈ ps, sp p.block = true) →
    DataW.TrodAll enc P W base (fun _ => true) held ts vs ds ps → DataW.TrodAll enc P W' base sp held ts vs ds ps
  | [], [], [], ps, _, _, h => h
  | t :: ts, v :: vs, d :: ds, ps, hp, hs, h => by
    obtain ⟨p, q, ⟨fuel, h1⟩, h2, h3⟩ := h
    subst h3
    simp only [List.all_cons, Bool.and_eq_true] at hp
    exact ⟨p, q, ⟨fuel, trod_keep hW k fuel t _ _ hp.1 (fun p' hp' => hs p' (List.mem_append_left _ hp')) h1⟩, trodAll_keep hW k ts vs ds q hp.2 (fun p' hp' => hs p' (List.mem_append_right _ hp')) h2, rfl⟩
/-- The row of a law whose arguments are plain data, out of its walk. -/
theorem law_post {f : Func} {s : ChangeSpec} {apart fresh : Bool} {args : Array Value} {ds gs : List (DataW H)} {before : List MemPlace} {ds' : List (DataW H)} (k : Nat) (hv : s.vars = [])
    (hW : DataW.Whole enc P f.params.toList s.vars apart W args.toList ds gs before) (hs : OldSame W W') (hpl : (f.params.toList.all fun t => plainT P k t) = true)
    (hr : ∃ t, f.resultTypes = #[t] ∧ P.underlying t = some .bool) (hds : ds = ds') (hfn : s.fn H (ds' ++ []) = { results := [.lit (.bool true)], args := ds' }) :
    s.post enc P f apart fresh false false W args (.bool true) W' := by
  have hW' := hW
  obtain ⟨p, q, hA, hV, rfl, hfz, hnd⟩ := hW
  subst hds
  rw [hv] at hV
  have hg : gs = [] ∧ q = [] := by
    cases gs with
    | nil => exact ⟨rfl, hV⟩
    | cons _ _ => exact hV.elim
  obtain ⟨rfl, rfl⟩ := hg
  obtain ⟨tb, hr1, hr2⟩ := hr
  refine ⟨ds, [], p ++ [], [], p, [], hW', ?_, ?_, ?_, hs.kept _, fun h => (by cases h)⟩
  · rw [hfn, hr1]
    exact ⟨[], [], ⟨1, by unfold DataW.trod; rw [hr2]; rfl⟩, rfl, rfl⟩
  · rw [hfn]
    refine trodAll_keep hs k _ _ _ _ hpl (fun pl hpl => ?_) hA
    have := hW'.lt pl (List.mem_append_left _ hpl)
    simpa using this
  · rw [hfn, hv]; rfl
end
end Go.KX

/- A slice out of a slice of slices, where the order is drawn. No program in sight. -/
namespace Go.KX
section
variable {X : Cx} {k : List It} {L : LL} {fs : List MF} {own : List Res} {arr : Array Oper} {l : List Oper} {o : Oper}
theorem C_sl {α : Type} {E : El α} {xs : List (SlE α)} {i : Nat} {y : SlE α} (hf : Has fs (AllSl E xs)) (hy : xs[i]? = some y) (h : C X k L (SlM E y.1 y.2.1 y.2.2 :: fs) own) : C X k L fs own :=
  C_fact (fun _ hA => hA _ hf.mem y (List.mem_of_getElem? hy)) h
end
theorem sum_take {α : Type} (f : α → Nat) {xs : List α} {i : Nat} {y : α} (h : xs[i]? = some y) : ((xs.take (i + 1)).map f).sum = ((xs.take i).map f).sum + f y := by
  rw [List.take_add_one, h]; simp
theorem mem_sum {α : Type} (f : α → Nat) : ∀ {xs : List α} {y : α}, y ∈ xs → f y ≤ (xs.map f).sum
  | x :: xs, y, h => by
    rcases List.mem_cons.1 h with rfl | h
    · simp
    · have := mem_sum f h; simp; omega
end Go.KX

/- What is handed in, read: numbers, texts, slices; all that is there counts as never written again. No program in sight. -/
namespace Go.KX
open Go.RowKit
section
variable {H : Type} {enc : TypeId × Value → H} {P : Program} {W : World}
theorem ofNat_toNat_lt {n : Nat} (h : n < 256) : (UInt8.ofNat n).toNat = n := by
  show n % 256 = n
  omega
/-- No part of it takes more room than there is. -/
def Light (P : Program) (t : TypeId) (d : DataW H) : Prop := (d.weights P t).all (· ≤ reachBytes) = true
/-- How cells of a type read: as some α that is as Q says. -/
def Rd (enc : TypeId × Value → H) (P : Program) (W : World) (t : TypeId) {α : Type} (e : α → List Value) (Q : α → Prop) : Prop :=
  ∀ (fuel : Nat) (cs : List Value) (x : DataW H × List MemPlace), DataW.trod enc P W 0 (fun _ => true) true fuel t cs = some x → Light P t x.1 → ∃ y, cs = e y ∧ Q y
theorem rd_int {t : TypeId} {k : IntKind} (u : P.underlying t = some (.int k)) : Rd enc P W t (fun z : Int => [.int k z]) (fun z => (Lit.int k z).wf = true) := by
  intro fuel cs x h _
  cases fuel with
  | zero => cases h
  | succ fuel =>
    unfold DataW.trod at h
    rw [u] at h
    revert h
    split <;> intro h <;> first | (rename_i hq; cases hq; done) | (rename_i hq _; cases hq; done) | (cases h; done) | skip
    rename_i e2
    split at h
    · rename_i hw
      obtain ⟨hk, hw⟩ := hw
      injection e2 with e2
      injection e2 with e2
      subst hk
      subst e2
      exact ⟨_, rfl, hw⟩
    · cases h
theorem rd_byte {t : TypeId} (u : P.underlying t = some (.int .u8)) : Rd enc P W t elB.enc (fun _ => True) := by
  intro fuel cs x h hl
  obtain ⟨z, rfl, hz⟩ := rd_int u fuel cs x h hl
  have hb := bounds_u8 hz
  refine ⟨UInt8.ofNat z.toNat, ?_, trivial⟩
  show _ = [Value.int .u8 ((UInt8.ofNat z.toNat).toNat : Int)]
  rw [ofNat_toNat_lt (by omega)]
  congr 2
  omega
theorem rd_str {t : TypeId} (u : P.underlying t = some .string) : Rd enc P W t (fun s : Bytes => [str s]) (fun s => s.length ≤ 140737488351232) := by
  intro fuel cs x h hl
  cases fuel with
  | zero => cases h
  | succ fuel =>
    unfold DataW.trod at h
    rw [u] at h
    revert h
    split <;> intro h <;> first | (rename_i hq; cases hq; done) | (rename_i hq _; cases hq; done) | (cases h; done) | skip
    rename_i s _
    split at h
    · cases h
      obtain ⟨b, hb⟩ := exists_str s
      refine ⟨b, by rw [hb], ?_⟩
      have hs : s = ⟨b.toArray⟩ := by unfold str at hb; injection hb
      simp only [Light, DataW.weights, List.all_cons, List.all_nil, Bool.and_true, decide_eq_true_eq] at hl
      rw [hs] at hl
      simp only [reachBytes] at hl
      simpa using hl
    · cases h
theorem exists_list {α : Type} (R : Nat → α → Prop) : ∀ (n : Nat), (∀ i, i < n → ∃ y, R i y) → ∃ ys : List α, ys.length = n ∧ ∀ (i : Nat) y, ys[i]? = some y → R i y
  | 0, _ => ⟨[], rfl, fun i y h => by simp at h⟩
  | n + 1, h => by
    obtain ⟨ys, h1, h2⟩ := exists_list R n (fun i hi => h i (by omega))
    obtain ⟨y, hy⟩ := h n (Nat.lt_succ_self n)
    refine ⟨ys ++ [y], by simp [h1], fun i z hz => ?_⟩
    rw [List.getElem?_append] at hz
    split at hz
    · exact h2 i z hz
    · rename_i hge
      have hi : i = n := by
        have := (List.getElem?_eq_some_iff.1 hz).1
        simp at this; omega
      subst hi
      rw [h1] at hz
      simp at hz; subst hz; exact hy
theorem weightsAll_mem {e : TypeId} : ∀ {l : List (DataW H)}, (DataW.weightsAll P e l).all (· ≤ reachBytes) = true → ∀ d ∈ l, Light P e d
  | a :: l, h, d, hd => by
    simp only [DataW.weightsAll, List.all_append, Bool.and_eq_true] at h
    rcases List.mem_cons.1 hd with rfl | hd
    · exact h.1
    · exact weightsAll_mem h.2 d hd
/-- A slice that is handed in. -/
def SlQ {α : Type} (E : El α) (W : World) (by_ : Nat) (Q : α → Prop) (y : SlE α) : Prop := (SlM E y.1 y.2.1 y.2.2).p (gAll W) ∧ (∀ z ∈ y.2.2, Q z) ∧ y.2.2.length * by_ ≤ 140737488351232
theorem rd_slice {α : Type} {E : El α} {Q : α → Prop} {t e : TypeId} (u : P.underlying t = some (.slice e)) (hsz : P.cellsOf e = E.sz) (hE : Rd enc P W e E.enc Q) : Rd enc P W t (elSl α).enc (SlQ E W (P.bytesOf e) Q) := by
  intro fuel cs x h hl
  cases fuel with
  | zero => cases h
  | succ fuel =>
    unfold DataW.trod at h
    rw [u] at h
    revert h
    split <;> intro h <;> first | (rename_i hq; cases hq; done) | (rename_i hq _; cases hq; done) | (cases h; done) | skip
    · exact ⟨(none, 0, []), rfl, SlM.nil _ _ _ _, (fun z hz => by cases hz), by simp⟩
    · rename_i e2 a len cap heq
      injection heq with heq
      injection heq with heq
      subst heq
      dsimp only at h
      split at h
      · rename_i hc
        simp only [if_true, Option.bind_eq_some_iff, Option.map_eq_some_iff] at h
        obtain ⟨elems, h1, rest, h2, h3⟩ := h
        subst h3
        simp only [Light, DataW.weights, u, List.all_cons, List.all_append, Bool.and_eq_true, decide_eq_true_eq, List.length_map] at hl
        obtain ⟨hl1, hl2, _⟩ := hl
        have hlen := mapM_len _ _ h1
        simp only [List.length_range] at hlen
        obtain ⟨ys, hy1, hy2⟩ := exists_list (fun (i : Nat) (y : α) => W.cells? 0 (a.add (i * P.cellsOf e)) (P.cellsOf e) = some (E.enc y) ∧ Q y) len (fun i hi => by
          obtain ⟨d, hd1, hd2⟩ := mapM_at _ _ h1 i i (by simp [hi])
          simp only [Option.bind_eq_some_iff] at hd2
          obtain ⟨cl, hc1, hc2⟩ := hd2
          obtain ⟨y, rfl, hq⟩ := hE fuel cl d hc2 (weightsAll_mem hl2 d.1 (List.mem_map.2 ⟨d, List.mem_of_getElem? hd1, rfl⟩))
          exact ⟨y, hc1, hq⟩)
        refine ⟨(some a, cap, ys), by show _ = [Value.slice (some a) ys.length cap]; rw [hy1], ⟨by rw [hy1]; omega, by rw [hy1]; exact hc.2.1, fun hne => ?_⟩, fun z hz => ?_, ?_⟩
        · have hpos : 0 < ys.length := List.length_pos_iff.2 hne
          have hcell : ∀ (i : Nat) y, ys[i]? = some y → ∀ (j : Nat) v, (E.enc y)[j]? = some v → W.cell? ((a.add (i * E.sz)).add j) = some v := by
            intro i y hy j v hv
            have := (cells_at (hy2 i y hy).1).2 j v hv
            rwa [hsz] at this
          obtain ⟨b, o, sp⟩ := a
          have hspot : sp = none ∧ b < W.heap.size := by
            obtain ⟨y0, hy0⟩ : ∃ y, ys[0]? = some y := ⟨_, List.getElem?_eq_getElem hpos⟩
            obtain ⟨v0, hv0⟩ : ∃ v, (E.enc y0)[0]? = some v := ⟨_, List.getElem?_eq_getElem (by rw [E.len]; exact E.pos)⟩
            have := hcell 0 y0 hy0 0 v0 hv0
            unfold World.cell? at this
            rw [add_block, add_block] at this
            have hlt : b < W.heap.size := by
              rcases Nat.lt_or_ge b W.heap.size with h | h
              · exact h
              · rw [show (⟨b, o, sp⟩ : Addr).block = b from rfl, Array.getElem?_eq_none h] at this; cases this
            refine ⟨?_, hlt⟩
            cases sp with
            | none => rfl
            | some q =>
              exfalso
              revert this
              cases W.heap[(⟨b, o, some q⟩ : Addr).block]? with
              | none => intro h; cases h
              | some ob =>
                cases ob <;> intro h <;> first | (cases h; done) | skip
                have hs : (((⟨b, o, some q⟩ : Addr).add (0 * E.sz)).add 0).spot.isSome = true := by
                  rw [Nat.zero_mul]; rfl
                dsimp only at h
                rw [if_pos hs] at h
                cases h
          obtain ⟨rfl, hlt⟩ := hspot
          refine ⟨b, o, rfl, hlt, fun j v hj => ?_⟩
          have hjl := (List.getElem?_eq_some_iff.1 hj).1
          rw [flat_len] at hjl
          have hi : j / E.sz < ys.length := Nat.div_lt_of_lt_mul (by rw [Nat.mul_comm]; exact hjl)
          obtain ⟨y, hy⟩ : ∃ y, ys[j / E.sz]? = some y := ⟨_, List.getElem?_eq_getElem hi⟩
          have hm : j % E.sz < (E.enc y).length := by rw [E.len]; exact Nat.mod_lt _ E.pos
          obtain ⟨v', hv'⟩ : ∃ v, (E.enc y)[j % E.sz]? = some v := ⟨_, List.getElem?_eq_getElem hm⟩
          have hg := flat_get E ys _ _ y v' hy hv'
          rw [Nat.mul_comm, Nat.div_add_mod] at hg
          rw [hj] at hg
          cases hg
          have := hcell _ y hy _ _ hv'
          rw [addr_add, addr_add, Nat.add_assoc, Nat.mul_comm (j / E.sz), Nat.div_add_mod] at this
          exact this
        · obtain ⟨i, hi⟩ := List.mem_iff_getElem?.1 hz
          exact (hy2 i z hi).2
        · show ys.length * _ ≤ _
          rw [hy1]
          simp only [reachBytes] at hl1
          have : len * P.bytesOf e ≤ (elems.length + rest.length) * P.bytesOf e := Nat.mul_le_mul_right _ (by omega)
          omega
      · cases h
/-- One argument, read. -/
theorem rd_arg {t : TypeId} {α : Type} {e : α → List Value} {Q : α → Prop} (hr : Rd enc P W t e Q) {v : Value} {d : DataW H} {ps : List MemPlace} (h : DataW.Trod enc P W 0 (fun _ => true) true t v d ps) (hl : Light P t d) : ∃ y, v.cells.toList = e y ∧ Q y := by
  obtain ⟨fuel, h⟩ := h
  exact hr fuel _ _ h hl
/-- A value of one cell. -/
theorem one_cell {v u : Value} (h : v.cells.toList = [u]) (hv : ∀ cs, v ≠ .agg cs) : v = u := by
  cases v <;> first | (simp [Value.cells] at h; exact h) | exact absurd rfl (hv _)
end
end Go.KX
/- What the rows list, as the walks want it: the facts on package-level variables. -/
namespace Go.Proofs.YtomkgfdigldhcaaGreatDoor
open Go.KX Go.RowKit
abbrev laidL : List (String × DataW Unit) := [("math/bits.deBruijn32tab", Rows.laid_math_bits_deBruijn32tab), ("math/bits.deBruijn64tab", Rows.laid_math_bits_deBruijn64tab), ("internal/strconv.uint64pow10", Rows.laid_internal_strconv_uint64pow10), ("unicode/utf8.acceptRanges", Rows.laid_unicode_utf8_acceptRanges), ("strconv.ErrRange", Rows.laid_strconv_ErrRange), ("strconv.ErrSyntax", Rows.laid_strconv_ErrSyntax), ("klaxon/math.levels", Rows.laid_klaxon_math_levels), ("klaxon/math.signs", Rows.laid_klaxon_math_signs), ("unicode/utf8.first", Rows.laid_unicode_utf8_first)]
theorem gg0 : Tryz.prog.globalNamed "klaxon/math.levels" = some 0 := by kernel_rfl
theorem gg1 : Tryz.prog.globalNamed "klaxon/math.signs" = some 1 := by kernel_rfl
theorem gg3 : Tryz.prog.globalNamed "internal/strconv.uint64pow10" = some 3 := by kernel_rfl
theorem gg10 : Tryz.prog.globalNamed "strconv.ErrSyntax" = some 10 := by kernel_rfl
theorem gt0 : (Tryz.prog.globals[0]?).map (·.type) = some 212 := by kernel_rfl
theorem gt1 : (Tryz.prog.globals[1]?).map (·.type) = some 262 := by kernel_rfl
theorem gt3 : (Tryz.prog.globals[3]?).map (·.type) = some 304 := by kernel_rfl
theorem gt10 : (Tryz.prog.globals[10]?).map (·.type) = some 318 := by kernel_rfl
theorem c9 : Tryz.prog.cellsOf 9 = 1 := by kernel_rfl
theorem c48 : Tryz.prog.cellsOf 48 = 1 := by kernel_rfl
section
variable {W : World} {enc : TypeId × Value → Unit} {sp : Nat → Bool} {held : Bool}
theorem trod_str9 {fuel : Nat} {cs : List Value} {x : Bytes} {p : List MemPlace} (h : DataW.trod enc Tryz.prog W 0 sp held fuel 9 cs = some (.lit (.string x), p)) : cs = [str x] := by
  obtain ⟨s, rfl, e, _⟩ := DataW.trod_string Tryz.underlying9 h
  simp only [Prod.mk.injEq, DataW.lit.injEq, Lit.string.injEq] at e
  have : s = ⟨x.toArray⟩ := by rw [e.1]
  rw [this]; rfl
set_option maxRecDepth 100000 in
theorem trod_if318 {fuel : Nat} {cs : List Value} {n : String} {d : DataW Unit} {p : List MemPlace} (h : DataW.trod enc Tryz.prog W 0 sp held fuel 318 cs = some (.iface n d, p)) : ∃ u v, cs = [.iface u v] := by
  cases fuel with
  | zero => cases h
  | succ fuel =>
    unfold DataW.trod at h
    rw [Tryz.underlying318] at h
    revert h
    split <;> intro h <;> first | (rename_i hq; cases hq; done) | (rename_i hq _; cases hq; done) | (cases h; done) | exact ⟨_, _, rfl⟩
theorem trod_sl48 {fuel : Nat} {cs : List Value} {ls : List Bytes} {rest : List (DataW Unit)} {p : List MemPlace} (h : DataW.trod enc Tryz.prog W 0 sp held fuel 48 cs = some (.slice (ls.map fun s => .lit (.string s)) rest, p)) (hne : ls ≠ []) :
    ∃ b o c, cs = [.slice (some ⟨b, o, none⟩) ls.length c] ∧ ls.length ≤ c ∧ ∀ (k : Nat) x, ls[k]? = some x → W.cell? ⟨b, o + k, none⟩ = some (str x) := by
  rcases DataW.trod_slice Tryz.underlying48 h with ⟨_, hx⟩ | ⟨a, len, cap, elems, rs, n, rfl, rfl, hx, _, hlc, _, hel, hcell, _⟩
  · simp at hx
  · simp only [Prod.mk.injEq, DataW.slice.injEq] at hx
    have hlen : ls.length = len := by
      have := congrArg List.length hx.1.1
      simp at this; omega
    rw [c9] at hcell
    have hk : ∀ (k : Nat) x, ls[k]? = some x → W.cell? (a.add k) = some (str x) := by
      intro k x hk
      have hkl : k < ls.length := by
        rcases Nat.lt_or_ge k ls.length with h | h
        · exact h
        · rw [List.getElem?_eq_none h] at hk; cases hk
      have h1 := hcell k (by omega)
      have h2 : (elems.map (·.1))[k]? = some (.lit (.string x)) := by rw [← hx.1.1]; simp [hk]
      rw [List.getElem?_map] at h2
      cases he : elems[k]? with
      | none => rw [he] at h2; cases h2
      | some y =>
        rw [he] at h1 h2
        obtain ⟨y1, y2⟩ := y
        simp only [Option.map_some, Option.some.injEq] at h2
        subst h2
        simp only [Option.bind_eq_some_iff] at h1
        obtain ⟨cl, hc1, hc2⟩ := h1
        have := trod_str9 hc2
        subst this
        have := (cells_at hc1).2 0 _ rfl
        rw [Nat.mul_one] at this
        have e : (a.add k).add 0 = a.add k := by
          obtain ⟨b, o, s⟩ := a
          cases s <;> simp [Addr.add]
        rw [e] at this
        exact this
    obtain ⟨b, o, s⟩ := a
    have h0 : s = none := by
      obtain ⟨x, hx0⟩ : ∃ x, ls[0]? = some x := ⟨_, List.getElem?_eq_getElem (List.length_pos_iff.2 hne)⟩
      have := World.cell?_spot (hk 0 x hx0)
      cases s with
      | none => rfl
      | some _ => simp [Addr.add] at this
    subst h0
    exact ⟨b, o, cap, by rw [hlen], by omega, fun k x hk' => by have := hk k x hk'; rwa [addr_add] at this⟩
end
set_option maxRecDepth 100000 in
theorem glF_of {W : World} (h : laidMetH Tryz.prog laidL W) (hs : W.ShapedOpen Tryz.prog) : GlF W := by
  rw [MakeChecks.laidMetH_plain _ _ _ (by kernel_rfl)] at h
  refine ⟨?_, ?_, ?_, fun j x hj => ?_, fun j ls hj => ?_⟩
  · obtain ⟨g, t, cs, fuel, p, hg, ht, hv, hd⟩ := Lib.laidMet.reads h (n := "internal/strconv.uint64pow10") (.tail _ (.tail _ (.head _)))
    obtain rfl := Option.some.inj (gg3.symm.trans hg)
    obtain rfl := Option.some.inj (gt3.symm.trans ht)
    unfold Lib.TabIs
    rw [hv]
    have hd' : DataW.trod (fun _ => ()) Tryz.prog W 0 (fun _ => true) false fuel 304 cs.toList = some (Lib.tabData .u64 Lib.pow10Tab, p) := hd
    rw [← Lib.cells_of_tab Tryz.underlying304 Tryz.underlying234 (by kernel_rfl) (by kernel_rfl) hd']
  · exact cell_of_shapedOpen_int (t := 3) (zero := #[.int .i64 0]) hs (of_decide_eq_true (by kernel_rfl)) (by kernel_rfl) rfl (by kernel_rfl) (by kernel_rfl) Tryz.underlying3
  · obtain ⟨g, t, cs, fuel, p, hg, ht, hv, hd⟩ := Lib.laidMet.reads h (n := "strconv.ErrSyntax") (.tail _ (.tail _ (.tail _ (.tail _ (.tail _ (.head _))))))
    obtain rfl := Option.some.inj (gg10.symm.trans hg)
    obtain rfl := Option.some.inj (gt10.symm.trans ht)
    have hc := World.var?_cell gg10 hv 0
    obtain ⟨u, v, e⟩ := trod_if318 hd
    rw [hc]
    refine ⟨.iface u v, ?_, .inr ⟨u, v, rfl⟩⟩
    have : cs.toList[0]? = some (.iface u v) := by rw [e]; rfl
    simpa using this
  · obtain ⟨g, t, cs, fuel, p, hg, ht, hv, hd⟩ := Lib.laidMet.reads h (n := "klaxon/math.signs") (.tail _ (.tail _ (.tail _ (.tail _ (.tail _ (.tail _ (.tail _ (.head _))))))))
    obtain rfl := Option.some.inj (gg1.symm.trans hg)
    obtain rfl := Option.some.inj (gt1.symm.trans ht)
    have hc := World.var?_cell gg1 hv j
    rw [hc]
    obtain ⟨xs, m, rfl, hx, hl, hn, hall⟩ := DataW.trod_array Tryz.underlying262 hd
    have e : xs.map (·.1) = signsT.map fun s => (DataW.lit (.string s) : DataW Unit) := by
      have := congrArg Prod.fst hx
      simp only [Rows.laid_klaxon_math_signs, DataW.agg.injEq] at this
      exact this.symm
    have hlt : j < signsT.length := (List.getElem?_eq_some_iff.1 hj).1
    have h15 : signsT.length = 15 := rfl
    have h1 := hall j (by omega)
    rw [c9, Nat.mul_one] at h1
    have h2 : (xs.map (·.1))[j]? = some (DataW.lit (.string x)) := by rw [e, List.getElem?_map, hj]; rfl
    rw [List.getElem?_map] at h2
    cases hy : xs[j]? with
    | none => rw [hy] at h2; cases h2
    | some y =>
      rw [hy] at h1 h2
      obtain ⟨y1, y2⟩ := y
      simp only [Option.map_some, Option.some.injEq] at h2
      subst h2
      have h3 := trod_str9 h1
      have h4 := congrArg (·[0]?) h3
      simpa [List.getElem?_take, List.getElem?_drop] using h4
  · obtain ⟨g, t, cs, fuel, p, hg, ht, hv, hd⟩ := Lib.laidMet.reads h (n := "klaxon/math.levels") (.tail _ (.tail _ (.tail _ (.tail _ (.tail _ (.tail _ (.head _)))))))
    obtain rfl := Option.some.inj (gg0.symm.trans hg)
    obtain rfl := Option.some.inj (gt0.symm.trans ht)
    have hc := World.var?_cell gg0 hv j
    obtain ⟨xs, m, rfl, hx, hl, hn, hall⟩ := DataW.trod_array Tryz.underlying212 hd
    have e : xs.map (·.1) = levelsT.map fun l => (DataW.slice (l.map fun s => .lit (.string s)) [] : DataW Unit) := by
      have := congrArg Prod.fst hx
      simp only [Rows.laid_klaxon_math_levels, DataW.agg.injEq] at this
      exact this.symm
    have hlt : j < levelsT.length := (List.getElem?_eq_some_iff.1 hj).1
    have h5 : levelsT.length = 5 := rfl
    have h1 := hall j (by omega)
    rw [c48, Nat.mul_one] at h1
    have h2 : (xs.map (·.1))[j]? = some (DataW.slice (ls.map fun s => .lit (.string s)) []) := by rw [e, List.getElem?_map, hj]; rfl
    rw [List.getElem?_map] at h2
    cases hy : xs[j]? with
    | none => rw [hy] at h2; cases h2
    | some y =>
      rw [hy] at h1 h2
      obtain ⟨y1, y2⟩ := y
      simp only [Option.map_some, Option.some.injEq] at h2
      subst h2
      have hne : ls ≠ [] := by
        have hm := List.mem_of_getElem? hj
        intro he
        subst he
        exact absurd hm (by decide)
      obtain ⟨b, o, c, h3, h6, h7⟩ := trod_sl48 h1 hne
      refine ⟨b, o, c, ?_, h6, h7⟩
      rw [hc]
      have h4 := congrArg (·[0]?) h3
      simpa [List.getElem?_take, List.getElem?_drop] using h4
end Go.Proofs.YtomkgfdigldhcaaGreatDoor
/- Plain: the steps of the program's Parse of values. No program in sight. -/
namespace Go.KX
abbrev c4 : List Val := [nullV, nanV, plusV, minusV]
theorem parse_c4 {s : Bytes} : ∀ {j : Nat} (hj : j < c4.length), s = printV c4[j] → parseV s = (c4[j], 0)
  | 0, _, h => by subst h; rfl
  | 1, _, h => by subst h; rfl
  | 2, _, h => by subst h; rfl
  | 3, _, h => by subst h; rfl
  | n + 4, h, _ => by simp at h; omega
/-- None of the four. -/
def not4 (s : Bytes) : Prop := s ≠ [110, 117, 108, 108] ∧ s ≠ [78, 97, 78] ∧ s ≠ [43, 73, 110, 102] ∧ s ≠ [45, 73, 110, 102]
theorem not4_of {s : Bytes} (h : ∀ v ∈ c4, decide (s = printV v) = false) : not4 s := by
  have key : ∀ v ∈ c4, s ≠ printV v := fun v hv => by simpa using h v hv
  exact ⟨key nullV (by simp), key nanV (by simp), key plusV (by simp), key minusV (by simp)⟩
section
variable {s w f : Bytes} {b : Bool} {n : Nat}
theorem prog_open (h4 : not4 s) (hcut : Lib.cut (Lib.trimPrefix s [45]) [46] = (w, f, b)) : parseV s = (if f.length ≤ 3 ∧ w.length ≤ 13 then
    match Lib.parseUintM M62 0 (w ++ f ++ Lib.repeatL [48] (3 - f.length)) with
    | .ok n => if (numV (if Lib.hasPrefix s [45] then -(n : Int) else n)).k = 1 ∧ printV (numV (if Lib.hasPrefix s [45] then -(n : Int) else n)) = s then (numV (if Lib.hasPrefix s [45] then -(n : Int) else n), 0) else (zeroV, 80)
    | _ => (zeroV, 80)
  else (zeroV, 80) : Val × Int) := by
  rw [← progV_eq]
  unfold progV
  rw [if_neg h4.1, if_neg h4.2.1, if_neg h4.2.2.1, if_neg h4.2.2.2]
  simp only [hcut]
  cases Lib.parseUintM M62 0 (w ++ f ++ Lib.repeatL [48] (3 - f.length)) <;> rfl
theorem prog_ok (h4 : not4 s) (hcut : Lib.cut (Lib.trimPrefix s [45]) [46] = (w, f, b)) (hl : f.length ≤ 3 ∧ w.length ≤ 13) (hP : Lib.parseUintM M62 0 (w ++ f ++ Lib.repeatL [48] (3 - f.length)) = .ok n) {x : Int} (hx : (if Lib.hasPrefix s [45] then -(n : Int) else n) = x) : parseV s = (if (numV x).k = 1 ∧ printV (numV x) = s then (numV x, 0) else (zeroV, 80) : Val × Int) := by
  rw [prog_open h4 hcut, if_pos hl, hP]
  simp only [hx]
theorem prog_bad (h4 : not4 s) (hcut : Lib.cut (Lib.trimPrefix s [45]) [46] = (w, f, b)) (hl : f.length ≤ 3 ∧ w.length ≤ 13) (hP : Lib.parseUintM M62 0 (w ++ f ++ Lib.repeatL [48] (3 - f.length)) = Lib.parseUintM 0 0 [0]) : parseV s = (zeroV, 80) := by
  rw [prog_open h4 hcut, if_pos hl, hP]
  rfl
theorem prog_long (h4 : not4 s) (hcut : Lib.cut (Lib.trimPrefix s [45]) [46] = (w, f, b)) (hl : ¬ (f.length ≤ 3 ∧ w.length ≤ 13)) : parseV s = (zeroV, 80) := by
  rw [prog_open h4 hcut, if_neg hl]
theorem uintM_norange : ∀ (l : Bytes) (a : Nat), (a + 1) * 10 ^ l.length ≤ 10 ^ 17 → Lib.parseUintM M62 a l ≠ .range ∧ ∀ n, Lib.parseUintM M62 a l = .ok n → n < 10 ^ 17
  | [], a, h => by
    refine ⟨by simp [Lib.parseUintM], fun n hn => ?_⟩
    simp only [Lib.parseUintM] at hn
    cases hn
    simp at h; omega
  | c :: l, a, h => by
    have hp : 1 ≤ 10 ^ l.length := Nat.one_le_pow _ _ (by decide)
    rw [List.length_cons, Nat.pow_succ] at h
    have h1 : (a + 1) * 10 * 10 ^ l.length ≤ 10 ^ 17 := by rw [Nat.mul_assoc, Nat.mul_comm 10]; exact h
    have h2 : (a + 1) * 10 ≤ 10 ^ 17 := Nat.le_trans (Nat.le_mul_of_pos_right _ hp) h1
    unfold Lib.parseUintM
    split
    · rename_i hc
      rw [if_neg (by omega), if_neg (by show ¬ 4611686018427387903 < _; omega)]
      exact uintM_norange l _ (Nat.le_trans (Nat.mul_le_mul_right _ (by omega)) h1)
    · exact ⟨by simp, fun n hn => by cases hn⟩
theorem uintM_16 {l : Bytes} (h : l.length ≤ 16) : Lib.parseUintM M62 0 l ≠ .range ∧ ∀ n, Lib.parseUintM M62 0 l = .ok n → n < 10 ^ 17 :=
  uintM_norange l 0 (by rw [Nat.zero_add, Nat.one_mul]; exact Nat.pow_le_pow_right (by decide) (by omega))
end
end Go.KX
/- Plain: a parser stays within its text. No program in sight. -/
namespace Go.KX
/-- It goes forward, and not past the end. -/
def Fit (s : Bytes) (f : Ps → Ex × Ps) : Prop := ∀ p, p.i ≤ s.length → p.i ≤ (f p).2.i ∧ (f p).2.i ≤ s.length
variable {s : Bytes}
theorem rest_ge (p : Ps) : p.i ≤ (p.restP s).i := by unfold Ps.restP; split <;> simp
theorem fails_i (p : Ps) (e a : Int) : (p.fails e a).i = p.i := by unfold Ps.fails; split <;> rfl
theorem restT_len {p : Ps} (h : p.i ≤ s.length) : (p.restT s).length + (p.restP s).i ≤ s.length := by
  have := rest_le (s := s) h
  unfold Ps.restT
  split
  · simpa using this
  · simp; omega
theorem takeT_some {l : List Bytes} {p : Ps} {x : Bytes} (h : takeT s l p = some x) : x ∈ l ∧ 1 ≤ x.length ∧ x.length ≤ 2 ∧ Lib.hasPrefix (p.restT s) x = true := by
  unfold takeT at h
  split at h
  · rename_i y hy
    split at h
    · rename_i hm
      cases h
      have h1 := List.mem_of_find?_eq_some hy
      have h2 := List.find?_some hy
      have h3 : ∀ x ∈ signsT, 1 ≤ x.length ∧ x.length ≤ 2 := by decide
      exact ⟨hm, (h3 _ h1).1, (h3 _ h1).2, h2⟩
    · cases h
  · cases h
theorem prefix_len {a b : Bytes} (h : Lib.hasPrefix a b = true) : b.length ≤ a.length := by
  unfold Lib.hasPrefix at h
  exact (List.isPrefixOf_iff_prefix.1 h).length_le
theorem take_fit {l : List Bytes} {p : Ps} (h : p.i ≤ s.length) : p.i ≤ (takeP s l p).i ∧ (takeP s l p).i ≤ s.length := by
  have h1 := rest_ge (s := s) p
  have h2 := rest_le (s := s) h
  have h3 := restT_len (s := s) h
  unfold takeP
  cases ht : takeT s l p with
  | none => exact ⟨h1, h2⟩
  | some x =>
    have h4 := prefix_len (takeT_some ht).2.2.2
    exact ⟨by simp; omega, by simp; omega⟩
theorem take_more {l : List Bytes} {p : Ps} {x : Bytes} (ht : takeT s l p = some x) : p.i + 1 ≤ (takeP s l p).i := by
  have h1 := rest_ge (s := s) p
  have h4 := takeT_some ht
  unfold takeP
  rw [ht]
  simp only
  omega
theorem must_fit {x : Bytes} {p : Ps} (h : p.i ≤ s.length) : p.i ≤ (mustP s x p).i ∧ (mustP s x p).i ≤ s.length := by
  have := take_fit (l := [x]) h
  unfold mustP
  split
  · exact this
  · rw [fails_i]; exact this
theorem enter_fit {d : Nat} {p : Ps} (h : p.i ≤ s.length) : p.i ≤ (enterP s d p).i ∧ (enterP s d p).i ≤ s.length := by
  have h1 := rest_ge (s := s) p
  have h2 := rest_le (s := s) h
  unfold enterP
  split
  · rw [fails_i]; exact ⟨h1, h2⟩
  · exact ⟨h1, h2⟩
theorem loop_fit {f : Ps → Ex × Ps} (hf : Fit s f) {ops : List Bytes} {alone : Bool} : ∀ (n : Nat) (x : Ex) (p : Ps), p.i ≤ s.length → p.i ≤ (loopG (tkX s) f ops alone n x p).2.i ∧ (loopG (tkX s) f ops alone n x p).2.i ≤ s.length
  | 0, x, p, h => ⟨Nat.le_refl _, h⟩
  | n + 1, x, p, h => by
    have h1 := take_fit (l := ops) h
    have h2 := hf _ h1.2
    unfold loopG
    simp only
    split
    · exact h1
    · split
      · exact ⟨Nat.le_trans h1.1 h2.1, h2.2⟩
      · rename_i o _ _
        have h4 := loop_fit hf (ops := ops) (alone := false) n (exC o [x, (f (takeP s ops p)).1]) (f (takeP s ops p)).2 h2.2
        exact ⟨Nat.le_trans (Nat.le_trans h1.1 h2.1) h4.1, h4.2⟩
theorem lev_fit {f : Ps → Ex × Ps} (hf : Fit s f) : ∀ n, Fit s (levX s f n)
  | 0 => hf
  | n + 1 => fun p h => by
    have h1 := lev_fit hf n p h
    have h2 := loop_fit (lev_fit hf n) (ops := levelsT.getD (4 - n) []) (alone := n == 2) (s.length + 1) (levX s f n p).1 (levX s f n p).2 h1.2
    exact ⟨Nat.le_trans h1.1 h2.1, h2.2⟩
theorem expr_fit {f : Ps → Ex × Ps} (hf : Fit s f) (d : Nat) : Fit s (exprX s f d) := fun p h => by
  have h1 := enter_fit (d := d) h
  have h2 := lev_fit hf 5 _ h1.2
  exact ⟨Nat.le_trans h1.1 h2.1, h2.2⟩
theorem numLen_le (r : Bytes) : numLen r ≤ r.length := by
  unfold numLen
  have h1 := runB_le gDig r
  have h2 := runB_le gDig (r.drop (runB gDig r + 1))
  simp at h2
  split <;> omega
variable {pv : Bytes → Val × Int}
theorem par_fit {f : Ps → Ex × Ps} (hf : Fit s f) : Fit s (parX s f) := fun p h => by
  have h1 := hf p h
  have h2 := must_fit (x := oPR) h1.2
  exact ⟨Nat.le_trans h1.1 h2.1, h2.2⟩
theorem word_fit {f : Ps → Ex × Ps} (hf : Fit s f) {r : Bytes} {p : Ps} (h : p.i + r.length ≤ s.length) : p.i ≤ (wordX s f r p).2.i ∧ (wordX s f r p).2.i ≤ s.length := by
  have hr := runB_le gLD r
  have hl : (r.take (runB gLD r)).length ≤ r.length := by simp; omega
  have h1 : ({ p with i := p.i + (r.take (runB gLD r)).length } : Ps).i ≤ s.length := by show p.i + _ ≤ _; omega
  unfold wordX
  simp only
  split
  · exact ⟨by simp, h1⟩
  split
  · exact ⟨by simp, h1⟩
  split
  · exact ⟨by simp, h1⟩
  have key : ∀ q : Ps, q.i = p.i + (r.take (runB gLD r)).length → p.i ≤ (parX s f (mustP s oPL q)).2.i ∧ (parX s f (mustP s oPL q)).2.i ≤ s.length := by
    intro q hq
    have hq2 : q.i ≤ s.length := by rw [hq]; exact h1
    have h2 := must_fit (x := oPL) hq2
    have h3 := par_fit hf _ h2.2
    exact ⟨by omega, h3.2⟩
  refine key _ ?_
  split
  · rfl
  · rw [fails_i]
theorem prim_fit {f : Ps → Ex × Ps} (hf : Fit s f) : Fit s (primX pv s f) := fun p h => by
  have h1 := rest_ge (s := s) p
  have h2 := rest_le (s := s) h
  have h3 := restT_len (s := s) h
  unfold primX
  simp only
  cases p.dead with
  | true => exact ⟨h1, h2⟩
  | false =>
    cases hr : p.restT s with
    | nil => simp only; rw [fails_i]; exact ⟨h1, h2⟩
    | cons c r =>
      rw [hr] at h3
      simp only [List.length_cons] at h3
      simp only
      split
      · have := par_fit hf { p.restP s with i := (p.restP s).i + 1 } (by show (p.restP s).i + 1 ≤ _; omega)
        exact ⟨by have := this.1; simp only at this; omega, this.2⟩
      split
      · unfold refX
        have hb := runB_le gLD r
        simp only [List.drop_succ_cons, List.drop_zero, List.length_take]
        exact ⟨by omega, by omega⟩
      split
      · unfold numberX
        have hb := numLen_le (c :: r)
        simp only [List.length_cons] at hb
        exact ⟨by simp only; omega, by simp only; omega⟩
      split
      · have := word_fit hf (r := c :: r) (p := p.restP s) (by simp only [List.length_cons]; omega)
        exact ⟨by omega, this.2⟩
      · simp only; rw [fails_i]; exact ⟨h1, h2⟩
theorem un_fit : ∀ d, Fit s (unX pv s d)
  | 0 => fun p h => by
    have h1 := enter_fit (d := 33) h
    have h2 := take_fit (l := [oSub, oNot]) h1.2
    have h3 := prim_fit (pv := pv) (f := fun q => (ex0, q)) (fun q hq => ⟨Nat.le_refl _, hq⟩) _ h2.2
    unfold unX
    exact ⟨by omega, h3.2⟩
  | d + 1 => fun p h => by
    have h1 := enter_fit (d := 32 - d) h
    have h2 := take_fit (l := [oSub, oNot]) h1.2
    unfold unX
    split
    · have h3 := un_fit d _ h2.2
      exact ⟨by simp only; omega, h3.2⟩
    · have h3 := prim_fit (pv := pv) (expr_fit (un_fit d) (33 - d)) _ h2.2
      exact ⟨by omega, h3.2⟩
section
variable {ex : Ps → Ex × Ps} {p : Ps} {c : UInt8} {r : Bytes}
theorem prim_dead (hd : p.dead = true) : primX pv s ex p = (ex0, p.restP s) := by unfold primX; simp only [hd]
theorem prim_nil (hd : p.dead = false) (hr : p.restT s = []) : primX pv s ex p = (ex0, (p.restP s).fails 110 (p.restP s).i) := by unfold primX; simp only [hd, hr]
theorem prim_cons (hd : p.dead = false) (hr : p.restT s = c :: r) : primX pv s ex p = if c = 40 then parX s ex { p.restP s with i := (p.restP s).i + 1 } else if c = 36 then refX (c :: r) (p.restP s) else if c ∈ gDig then numberX pv (c :: r) (p.restP s) else if c ∈ gLet then wordX s ex (c :: r) (p.restP s) else (ex0, (p.restP s).fails 110 (p.restP s).i) := by unfold primX; simp only [hd, hr]
theorem u8_eq {k : UInt8} (h : ((c.toNat : Nat) : Int) = (k.toNat : Int)) : c = k := UInt8.toNat_inj.1 (Int.ofNat.inj h)
end
theorem nI_eq {z : Int} {n : Nat} (h : z = n) : nI z = nI n := by rw [h]
end Go.KX
/- Plain: steps of the loops of a parser. No program in sight. -/
namespace Go.KX
section
variable {s : Bytes} {f : Ps → Ex × Ps} {ops : List Bytes} {alone : Bool} {n : Nat} {x : Ex} {p : Ps}
theorem loop_none (h : takeT s ops p = none) : loopG (tkX s) f ops alone (n + 1) x p = (x, takeP s ops p) := by
  conv => lhs; unfold loopG
  simp only [h]
theorem loop_alone {o : Bytes} (h : takeT s ops p = some o) : loopG (tkX s) f ops true (n + 1) x p = (exC o [x, (f (takeP s ops p)).1], (f (takeP s ops p)).2) := by
  conv => lhs; unfold loopG
  simp only [h]
theorem loop_more {o : Bytes} (h : takeT s ops p = some o) : loopG (tkX s) f ops false (n + 1) x p = loopG (tkX s) f ops false n (exC o [x, (f (takeP s ops p)).1]) (f (takeP s ops p)).2 := by
  conv => lhs; unfold loopG
  simp only [h]
theorem levels_row : ∀ {n : Nat} (_ : n ≤ 4) {q : Int} (_ : q = 4 - (n : Int)), ∃ rest, (levelsT.map rB).drop (q.toNat * 1) = rB (levelsT.getD (4 - n) []) :: rest
  | 0, _, q, h => by subst h; exact ⟨_, rfl⟩
  | 1, _, q, h => by subst h; exact ⟨_, rfl⟩
  | 2, _, q, h => by subst h; exact ⟨_, rfl⟩
  | 3, _, q, h => by subst h; exact ⟨_, rfl⟩
  | 4, _, q, h => by subst h; exact ⟨_, rfl⟩
  | n + 5, h, _, _ => by omega
variable {pv : Bytes → Val × Int}
theorem un_some {d : Nat} {o : Bytes} (h : takeT s [oSub, oNot] (enterP s (32 - d) p) = some o) : unX pv s (d + 1) p = (exC o [(unX pv s d (takeP s [oSub, oNot] (enterP s (32 - d) p))).1], (unX pv s d (takeP s [oSub, oNot] (enterP s (32 - d) p))).2) := by
  conv => lhs; unfold unX
  simp only [h]
theorem un_none {d : Nat} (h : takeT s [oSub, oNot] (enterP s (32 - d) p) = none) : unX pv s (d + 1) p = primX pv s (exprX s (unX pv s d) (33 - d)) (takeP s [oSub, oNot] (enterP s (32 - d) p)) := by
  conv => lhs; unfold unX
  simp only [h]
theorem enter33 : (enterP s 33 p).dead = true := by
  unfold enterP Ps.fails
  rw [if_pos (by decide)]
  split
  · assumption
  · rfl
end
end Go.KX
