/- The texts Shelf, Libs, D2, D3, D10, one behind the other. -/
import Derived.Test.YtkkaamhocpmhkaaGreatDoorJJ9
import Derived.Test.YtkkaamhocpmhkaaGreatDoorJJ12
import Derived.Shelf.Strings.Trim
import Derived.Shelf.Small.Strs
import Derived.Shelf.Small.Wraps
import Derived.Shelf.Strconv.Itoa0
import Derived.Shelf.Strconv.Itoa1
import Derived.Shelf.LaysM
import Derived.Shelf.Strconv.Itoa2
import Derived.Shelf.Strconv.Itoa3
import Derived.Shelf.Strconv.Itoa4
import Derived.Shelf.Strings.Prefix
import Derived.Shelf.Strings.Split
import Derived.Shelf.Strings.IndexAnyAll
import Derived.Shelf.Strings.Repeat
import Derived.Test.YtkkaamhocpmhkaaGreatDoorProg
import Derived.Lib.TrimByte
import Derived.Sort.Grow
import Derived.Lib.Repeat
namespace Go.Proofs
open Go.Shelf
def Tryz.lays161_ren : Go.Shelf.Ren := ⟨fun | 161 => 174 | 231 => 219 | 227 => 182 | 233 => 220 | 235 => 221 | 228 => 183 | 197 => 233 | 151 => 251 | 260 => 254 | 152 => 180 | 137 => 123 | 119 => 226 | 224 => 227 | 225 => 228 | 217 => 172 | 266 => 215 | n => n, fun | 9 => 9 | 4 => 4 | 3 => 3 | 5 => 5 | 117 => 226 | 116 => 225 | 0 => 0 | 124 => 262 | 105 => 272 | 21 => 21 | 119 => 203 | 46 => 153 | 139 => 206 | 138 => 205 | n => n, fun | 3 => 0 | 4 => 1 | n => n⟩
theorem Tryz.lays161 : Go.Proofs.Lays.n161 Tryz.prog Tryz.lays161_ren := {
  mixed := by kernel_rfl
  f119 := Tryz.func226.trans (congrArg some (by kernel_rfl))
  f137 := Tryz.func123.trans (congrArg some (by kernel_rfl))
  f151 := Tryz.func251.trans (congrArg some (by kernel_rfl))
  f152 := Tryz.func180.trans (congrArg some (by kernel_rfl))
  f161 := Tryz.func174.trans (congrArg some (by kernel_rfl))
  f197 := Tryz.func233.trans (congrArg some (by kernel_rfl))
  f217 := Tryz.func172.trans (congrArg some (by kernel_rfl))
  f224 := Tryz.func227.trans (congrArg some (by kernel_rfl))
  f225 := Tryz.func228.trans (congrArg some (by kernel_rfl))
  f227 := Tryz.func182.trans (congrArg some (by kernel_rfl))
  f228 := Tryz.func183.trans (congrArg some (by kernel_rfl))
  f231 := Tryz.func219.trans (congrArg some (by kernel_rfl))
  f233 := Tryz.func220.trans (congrArg some (by kernel_rfl))
  f235 := Tryz.func221.trans (congrArg some (by kernel_rfl))
  f260 := Tryz.func254.trans (congrArg some (by kernel_rfl))
  f266 := Tryz.func215.trans (congrArg some (by kernel_rfl))
  t0 := Tryz.underlying0
  a0 := Tryz.isAgg0
  z0 := Tryz.sizeOf0
  v0 := Tryz.zeroValue0
  t3 := Tryz.underlying3
  a3 := Tryz.isAgg3
  z3 := Tryz.sizeOf3
  v3 := Tryz.zeroValue3
  t4 := Tryz.underlying4
  a4 := Tryz.isAgg4
  z4 := Tryz.sizeOf4
  v4 := Tryz.zeroValue4
  t5 := Tryz.underlying5
  a5 := Tryz.isAgg5
  z5 := Tryz.sizeOf5
  v5 := Tryz.zeroValue5
  t9 := Tryz.underlying9
  a9 := Tryz.isAgg9
  z9 := Tryz.sizeOf9
  v9 := Tryz.zeroValue9
  t21 := Tryz.underlying21
  a21 := Tryz.isAgg21
  z21 := Tryz.sizeOf21
  v21 := Tryz.zeroValue21
  t46 := Tryz.underlying153
  a46 := Tryz.isAgg153
  z46 := Tryz.sizeOf153
  v46 := Tryz.zeroValue153
  t105 := Tryz.underlying272
  a105 := Tryz.isAgg272
  z105 := Tryz.sizeOf272
  v105 := Tryz.zeroValue272
  t116 := Tryz.underlying225
  a116 := Tryz.isAgg225
  z116 := Tryz.sizeOf225
  t117 := Tryz.underlying226
  a117 := Tryz.isAgg226
  z117 := Tryz.sizeOf226
  v117 := Tryz.zeroValue226
  t119 := Tryz.underlying203
  a119 := Tryz.isAgg203
  z119 := Tryz.sizeOf203
  t124 := Tryz.underlying262
  a124 := Tryz.isAgg262
  z124 := Tryz.sizeOf262
  v124 := Tryz.zeroValue262
  t138 := Tryz.underlying205
  a138 := Tryz.isAgg205
  z138 := Tryz.sizeOf205
  v138 := Tryz.zeroValue205
  t139 := Tryz.underlying206
  a139 := Tryz.isAgg206
  z139 := Tryz.sizeOf206
  v139 := Tryz.zeroValue206
  g3 := by kernel_rfl
  g4 := by kernel_rfl }
open Go.RowKit in
theorem Tryz.strings_TrimLeft_one (s : ByteArray) (c : UInt8) (hc : c.toNat < 128) (w : World) :
    Calls Tryz.prog 174 #[.string s, .string ⟨#[c]⟩] w fun e w' => e = .returned (.string ⟨(Lib.trimLeftB s.data.toList c).toArray⟩) ∧ w' = w := Any.strings_TrimLeft_one Tryz.lays161 s c hc w
def Tryz.lays162_ren : Go.Shelf.Ren := ⟨fun | 162 => 173 | 232 => 216 | 227 => 182 | 234 => 217 | 236 => 218 | 228 => 183 | 271 => 250 | 151 => 251 | 120 => 257 | 197 => 233 | 152 => 180 | 260 => 254 | 137 => 123 | 119 => 226 | 224 => 227 | 225 => 228 | 217 => 172 | 266 => 215 | n => n, fun | 9 => 9 | 4 => 4 | 3 => 3 | 5 => 5 | 117 => 226 | 116 => 225 | 0 => 0 | 124 => 262 | 21 => 21 | 105 => 272 | 46 => 153 | 119 => 203 | 139 => 206 | 138 => 205 | n => n, fun | 3 => 0 | 4 => 1 | n => n⟩
theorem Tryz.lays162 : Go.Proofs.Lays.n162 Tryz.prog Tryz.lays162_ren := {
  mixed := by kernel_rfl
  f119 := Tryz.func226.trans (congrArg some (by kernel_rfl))
  f120 := Tryz.func257.trans (congrArg some (by kernel_rfl))
  f137 := Tryz.func123.trans (congrArg some (by kernel_rfl))
  f151 := Tryz.func251.trans (congrArg some (by kernel_rfl))
  f152 := Tryz.func180.trans (congrArg some (by kernel_rfl))
  f162 := Tryz.func173.trans (congrArg some (by kernel_rfl))
  f197 := Tryz.func233.trans (congrArg some (by kernel_rfl))
  f217 := Tryz.func172.trans (congrArg some (by kernel_rfl))
  f224 := Tryz.func227.trans (congrArg some (by kernel_rfl))
  f225 := Tryz.func228.trans (congrArg some (by kernel_rfl))
  f227 := Tryz.func182.trans (congrArg some (by kernel_rfl))
  f228 := Tryz.func183.trans (congrArg some (by kernel_rfl))
  f232 := Tryz.func216.trans (congrArg some (by kernel_rfl))
  f234 := Tryz.func217.trans (congrArg some (by kernel_rfl))
  f236 := Tryz.func218.trans (congrArg some (by kernel_rfl))
  f260 := Tryz.func254.trans (congrArg some (by kernel_rfl))
  f266 := Tryz.func215.trans (congrArg some (by kernel_rfl))
  f271 := Tryz.func250.trans (congrArg some (by kernel_rfl))
  t0 := Tryz.underlying0
  a0 := Tryz.isAgg0
  z0 := Tryz.sizeOf0
  v0 := Tryz.zeroValue0
  t3 := Tryz.underlying3
  a3 := Tryz.isAgg3
  z3 := Tryz.sizeOf3
  v3 := Tryz.zeroValue3
  t4 := Tryz.underlying4
  a4 := Tryz.isAgg4
  z4 := Tryz.sizeOf4
  v4 := Tryz.zeroValue4
  t5 := Tryz.underlying5
  a5 := Tryz.isAgg5
  z5 := Tryz.sizeOf5
  v5 := Tryz.zeroValue5
  t9 := Tryz.underlying9
  a9 := Tryz.isAgg9
  z9 := Tryz.sizeOf9
  v9 := Tryz.zeroValue9
  t21 := Tryz.underlying21
  a21 := Tryz.isAgg21
  z21 := Tryz.sizeOf21
  v21 := Tryz.zeroValue21
  t46 := Tryz.underlying153
  a46 := Tryz.isAgg153
  z46 := Tryz.sizeOf153
  v46 := Tryz.zeroValue153
  t105 := Tryz.underlying272
  a105 := Tryz.isAgg272
  z105 := Tryz.sizeOf272
  v105 := Tryz.zeroValue272
  t116 := Tryz.underlying225
  a116 := Tryz.isAgg225
  z116 := Tryz.sizeOf225
  t117 := Tryz.underlying226
  a117 := Tryz.isAgg226
  z117 := Tryz.sizeOf226
  v117 := Tryz.zeroValue226
  t119 := Tryz.underlying203
  a119 := Tryz.isAgg203
  z119 := Tryz.sizeOf203
  t124 := Tryz.underlying262
  a124 := Tryz.isAgg262
  z124 := Tryz.sizeOf262
  v124 := Tryz.zeroValue262
  t138 := Tryz.underlying205
  a138 := Tryz.isAgg205
  z138 := Tryz.sizeOf205
  v138 := Tryz.zeroValue205
  t139 := Tryz.underlying206
  a139 := Tryz.isAgg206
  z139 := Tryz.sizeOf206
  v139 := Tryz.zeroValue206
  g3 := by kernel_rfl
  g4 := by kernel_rfl }
open Go.RowKit in
theorem Tryz.strings_TrimRight_one (s : ByteArray) (c : UInt8) (hc : c.toNat < 128) (w : World) (hs : s.size ≤ 9223372036854775807) :
    Calls Tryz.prog 173 #[.string s, .string ⟨#[c]⟩] w fun e w' => e = .returned (.string ⟨(Lib.trimRightB s.data.toList c).toArray⟩) ∧ w' = w := Any.strings_TrimRight_one Tryz.lays162 s c hc w hs
def Tryz.lays137_ren : Go.Shelf.Ren := ⟨fun | 137 => 123 | 217 => 172 | 266 => 215 | n => n, fun | 9 => 9 | 5 => 5 | 3 => 3 | n => n, fun | n => n⟩
theorem Tryz.lays137 : Go.Proofs.Lays.n137 Tryz.prog Tryz.lays137_ren := {
  mixed := by kernel_rfl
  f137 := Tryz.func123.trans (congrArg some (by kernel_rfl))
  f217 := Tryz.func172.trans (congrArg some (by kernel_rfl))
  f266 := Tryz.func215.trans (congrArg some (by kernel_rfl))
  t3 := Tryz.underlying3
  a3 := Tryz.isAgg3
  z3 := Tryz.sizeOf3
  v3 := Tryz.zeroValue3
  t5 := Tryz.underlying5
  a5 := Tryz.isAgg5
  z5 := Tryz.sizeOf5
  v5 := Tryz.zeroValue5
  t9 := Tryz.underlying9
  a9 := Tryz.isAgg9
  z9 := Tryz.sizeOf9
  v9 := Tryz.zeroValue9 }
open Go.RowKit in
theorem Tryz.strings_IndexByte (s : ByteArray) (c : Int) (w : World) :
    Calls Tryz.prog 123 #[.string s, .int .u8 c] w fun e w' => e = .returned (.int .i64 (Lib.indexByte s.data.toList c.toNat.toUInt8)) ∧ w' = w := Any.strings_IndexByte Tryz.lays137 s c w
open Go.RowKit in
open Go.RowKit in
def Tryz.lays121_ren : Go.Shelf.Ren := ⟨fun | 121 => 72 | 214 => 116 | n => n, fun | 4 => 4 | 9 => 9 | n => n, fun | n => n⟩
theorem Tryz.lays121 : Go.Proofs.Lays.n121 Tryz.prog Tryz.lays121_ren := {
  mixed := by kernel_rfl
  f121 := Tryz.func72.trans (congrArg some (by kernel_rfl))
  f214 := Tryz.func116.trans (congrArg some (by kernel_rfl))
  t4 := Tryz.underlying4
  a4 := Tryz.isAgg4
  z4 := Tryz.sizeOf4
  v4 := Tryz.zeroValue4
  t9 := Tryz.underlying9
  a9 := Tryz.isAgg9
  z9 := Tryz.sizeOf9
  v9 := Tryz.zeroValue9 }
open Go.RowKit in
theorem Tryz.strconv_FormatBool (b : Bool) (w : World) :
    Calls Tryz.prog 72 #[.bool b] w fun e w' => e = .returned (.string ⟨(Lib.formatBool b).toArray⟩) ∧ w' = w := Any.strconv_FormatBool Tryz.lays121 b w
def Tryz.lays129_ren : Go.Shelf.Ren := ⟨fun | 129 => 117 | n => n, fun | 53 => 43 | 3 => 3 | 4 => 4 | 46 => 153 | 5 => 5 | 9 => 9 | n => n, fun | n => n⟩
theorem Tryz.lays129 : Go.Proofs.Lays.n129 Tryz.prog Tryz.lays129_ren := {
  mixed := by kernel_rfl
  f129 := Tryz.func117.trans (congrArg some (by kernel_rfl))
  t3 := Tryz.underlying3
  a3 := Tryz.isAgg3
  z3 := Tryz.sizeOf3
  v3 := Tryz.zeroValue3
  t4 := Tryz.underlying4
  a4 := Tryz.isAgg4
  z4 := Tryz.sizeOf4
  v4 := Tryz.zeroValue4
  t5 := Tryz.underlying5
  a5 := Tryz.isAgg5
  z5 := Tryz.sizeOf5
  v5 := Tryz.zeroValue5
  t9 := Tryz.underlying9
  a9 := Tryz.isAgg9
  z9 := Tryz.sizeOf9
  v9 := Tryz.zeroValue9
  t46 := Tryz.underlying153
  a46 := Tryz.isAgg153
  z46 := Tryz.sizeOf153
  v46 := Tryz.zeroValue153
  t53 := Tryz.underlying43
  a53 := Tryz.isAgg43
  z53 := Tryz.sizeOf43
  v53 := Tryz.zeroValue43 }
theorem Tryz.bits_Len64 (x : Int) (w : World) (h0 : 0 ≤ x) (h1 : x ≤ 18446744073709551615) :
    Calls Tryz.prog 117 #[.int .u64 x] w fun e w' => e = .returned (.int .i64 (Lib.bitLen x.toNat)) ∧ w' = w := Any.bits_Len64 Tryz.lays129 x w h0 h1
def Tryz.lays283_ren : Go.Shelf.Ren := ⟨fun | 283 => 168 | n => n, fun | 3 => 3 | 9 => 9 | 4 => 4 | n => n, fun | n => n⟩
theorem Tryz.lays283 : Go.Proofs.Lays.n283 Tryz.prog Tryz.lays283_ren := {
  mixed := by kernel_rfl
  f283 := Tryz.func168.trans (congrArg some (by kernel_rfl))
  t3 := Tryz.underlying3
  a3 := Tryz.isAgg3
  z3 := Tryz.sizeOf3
  v3 := Tryz.zeroValue3
  t4 := Tryz.underlying4
  a4 := Tryz.isAgg4
  z4 := Tryz.sizeOf4
  v4 := Tryz.zeroValue4
  t9 := Tryz.underlying9
  a9 := Tryz.isAgg9
  z9 := Tryz.sizeOf9
  v9 := Tryz.zeroValue9 }
open Go.Lib in
theorem Tryz.internal_strconv_small (i : Nat) (h : i < 100) (w : World) :
    Calls Tryz.prog 168 #[.int .i64 i] w fun e w' => e = .returned (.string ⟨(Lib.decDigits i).toArray⟩) ∧ w' = w := Any.internal_strconv_small Tryz.lays283 i h w
def Tryz.laysM284_ren : Go.Shelf.Ren := ⟨fun | 284 => 169 | 129 => 117 | 317 => 211 | 318 => 212 | n => n, fun | 53 => 43 | 3 => 3 | 212 => 257 | 0 => 0 | 4 => 4 | 46 => 153 | 5 => 5 | 9 => 9 | n => n, fun | 17 => 2 | n => n⟩
theorem Tryz.laysM284 : Go.Proofs.LaysM.n284 Tryz.prog Tryz.laysM284_ren := {
  mixed := by kernel_rfl
  f129 := Tryz.func117.trans (congrArg some (by kernel_rfl))
  f284 := Tryz.func169.trans (congrArg some (by kernel_rfl))
  f317 := Tryz.func211.trans (congrArg some (by kernel_rfl))
  f318 := Tryz.func212.trans (congrArg some (by kernel_rfl))
  t0 := Tryz.underlying0
  a0 := Tryz.isAgg0
  z0 := Tryz.sizeOf0
  v0 := Tryz.zeroValue0
  t3 := Tryz.underlying3
  a3 := Tryz.isAgg3
  z3 := Tryz.sizeOf3
  v3 := Tryz.zeroValue3
  t4 := Tryz.underlying4
  a4 := Tryz.isAgg4
  z4 := Tryz.sizeOf4
  v4 := Tryz.zeroValue4
  t5 := Tryz.underlying5
  a5 := Tryz.isAgg5
  z5 := Tryz.sizeOf5
  v5 := Tryz.zeroValue5
  t9 := Tryz.underlying9
  a9 := Tryz.isAgg9
  z9 := Tryz.sizeOf9
  v9 := Tryz.zeroValue9
  t46 := Tryz.underlying153
  a46 := Tryz.isAgg153
  z46 := Tryz.sizeOf153
  v46 := Tryz.zeroValue153
  t53 := Tryz.underlying43
  a53 := Tryz.isAgg43
  z53 := Tryz.sizeOf43
  v53 := Tryz.zeroValue43
  t212 := Tryz.underlying257
  a212 := Tryz.isAgg257
  z212 := Tryz.sizeOf257
  v212 := Tryz.zeroValue257
  g17 := by kernel_rfl
  i0 := by kernel_rfl
  i3 := by kernel_rfl
  i4 := by kernel_rfl
  i5 := by kernel_rfl
  i9 := by kernel_rfl
  i46 := by kernel_rfl
  i53 := by kernel_rfl
  i212 := by kernel_rfl
  m17 := by kernel_rfl }
open Go.Lib in
theorem Tryz.internal_strconv_numDigits (u : Nat) (h1 : 1 ≤ u) (h2 : u < 18446744073709551616) (w : World) (htab : Lib.TabIs Tryz.prog w "internal/strconv.uint64pow10" .u64 Lib.pow10Tab) :
    Calls Tryz.prog 169 #[.int .u64 u] w fun e w' => e = .returned (.int .i64 (Lib.nDigits u)) ∧ w' = w := Any.internal_strconv_numDigits Tryz.laysM284 u h1 h2 w htab
def Tryz.lays285_ren : Go.Shelf.Ren := ⟨fun | 285 => 170 | n => n, fun | 37 => 58 | 53 => 43 | 3 => 3 | 4 => 4 | 51 => 139 | 9 => 9 | 5 => 5 | 0 => 0 | n => n, fun | n => n⟩
theorem Tryz.lays285 : Go.Proofs.Lays.n285 Tryz.prog Tryz.lays285_ren := {
  mixed := by kernel_rfl
  f285 := Tryz.func170.trans (congrArg some (by kernel_rfl))
  t0 := Tryz.underlying0
  a0 := Tryz.isAgg0
  z0 := Tryz.sizeOf0
  v0 := Tryz.zeroValue0
  t3 := Tryz.underlying3
  a3 := Tryz.isAgg3
  z3 := Tryz.sizeOf3
  v3 := Tryz.zeroValue3
  t4 := Tryz.underlying4
  a4 := Tryz.isAgg4
  z4 := Tryz.sizeOf4
  v4 := Tryz.zeroValue4
  t5 := Tryz.underlying5
  a5 := Tryz.isAgg5
  z5 := Tryz.sizeOf5
  v5 := Tryz.zeroValue5
  t9 := Tryz.underlying9
  a9 := Tryz.isAgg9
  z9 := Tryz.sizeOf9
  v9 := Tryz.zeroValue9
  t37 := Tryz.underlying58
  a37 := Tryz.isAgg58
  z37 := Tryz.sizeOf58
  v37 := Tryz.zeroValue58
  t51 := Tryz.underlying139
  a51 := Tryz.isAgg139
  z51 := Tryz.sizeOf139
  v51 := Tryz.zeroValue139
  t53 := Tryz.underlying43
  a53 := Tryz.isAgg43
  z53 := Tryz.sizeOf43
  v53 := Tryz.zeroValue43 }
open Go.RowKit Go.Sort Go.Lib in
theorem Tryz.internal_strconv_formatBase10 (blk off cap : Nat) (u : Nat) (d : Array UInt8) (w : World) (hH : Holds (fun (b : UInt8) => Value.int .u8 (b.toNat : Int)) w blk off d) (hu : u < 10 ^ d.size) (hu64 : u < 18446744073709551616) (hsz : d.size < 4611686018427387904) :
    Calls Tryz.prog 170 #[.slice (some ⟨blk, off, none⟩) d.size cap, .int .u64 u] w fun e w' =>
      e = .returned (.tuple #[]) ∧ ∃ (n v' : Nat) (dk : Array UInt8), w' = (putRow (fun (b : UInt8) => Value.int .u8 (b.toNat : Int)) w blk off dk).drewN n ∧ FmtInv d.size u 0 v' dk := Any.internal_strconv_formatBase10 Tryz.lays285 blk off cap u d w hH hu hu64 hsz
def Tryz.laysM171_ren : Go.Shelf.Ren := ⟨fun | 171 => 56 | 243 => 105 | 246 => 121 | 283 => 168 | 284 => 169 | 285 => 170 | 286 => 171 | 129 => 117 | 317 => 211 | 318 => 212 | 319 => 213 | 320 => 214 | 337 => 248 | 338 => 249 | n => n, fun | 3 => 3 | 9 => 9 | 2 => 2 | 4 => 4 | 171 => 207 | 0 => 0 | 53 => 43 | 37 => 58 | 5 => 5 | 173 => 209 | 212 => 257 | 51 => 139 | 20 => 20 | 213 => 258 | 46 => 153 | 232 => 293 | 233 => 294 | n => n, fun | 17 => 2 | 18 => 4 | 19 => 5 | n => n⟩
theorem Tryz.laysM171 : Go.Proofs.LaysM.n171 Tryz.prog Tryz.laysM171_ren := {
  mixed := by kernel_rfl
  f129 := Tryz.func117.trans (congrArg some (by kernel_rfl))
  f171 := Tryz.func56.trans (congrArg some (by kernel_rfl))
  f243 := Tryz.func105.trans (congrArg some (by kernel_rfl))
  f246 := Tryz.func121.trans (congrArg some (by kernel_rfl))
  f283 := Tryz.func168.trans (congrArg some (by kernel_rfl))
  f284 := Tryz.func169.trans (congrArg some (by kernel_rfl))
  f285 := Tryz.func170.trans (congrArg some (by kernel_rfl))
  f286 := Tryz.func171.trans (congrArg some (by kernel_rfl))
  f317 := Tryz.func211.trans (congrArg some (by kernel_rfl))
  f318 := Tryz.func212.trans (congrArg some (by kernel_rfl))
  f319 := Tryz.func213.trans (congrArg some (by kernel_rfl))
  f320 := Tryz.func214.trans (congrArg some (by kernel_rfl))
  f337 := Tryz.func248.trans (congrArg some (by kernel_rfl))
  f338 := Tryz.func249.trans (congrArg some (by kernel_rfl))
  t0 := Tryz.underlying0
  a0 := Tryz.isAgg0
  z0 := Tryz.sizeOf0
  v0 := Tryz.zeroValue0
  t2 := Tryz.underlying2
  a2 := Tryz.isAgg2
  z2 := Tryz.sizeOf2
  v2 := Tryz.zeroValue2
  t3 := Tryz.underlying3
  a3 := Tryz.isAgg3
  z3 := Tryz.sizeOf3
  v3 := Tryz.zeroValue3
  t4 := Tryz.underlying4
  a4 := Tryz.isAgg4
  z4 := Tryz.sizeOf4
  v4 := Tryz.zeroValue4
  t5 := Tryz.underlying5
  a5 := Tryz.isAgg5
  z5 := Tryz.sizeOf5
  v5 := Tryz.zeroValue5
  t9 := Tryz.underlying9
  a9 := Tryz.isAgg9
  z9 := Tryz.sizeOf9
  v9 := Tryz.zeroValue9
  t20 := Tryz.underlying20
  a20 := Tryz.isAgg20
  z20 := Tryz.sizeOf20
  v20 := Tryz.zeroValue20
  t37 := Tryz.underlying58
  a37 := Tryz.isAgg58
  z37 := Tryz.sizeOf58
  v37 := Tryz.zeroValue58
  t46 := Tryz.underlying153
  a46 := Tryz.isAgg153
  z46 := Tryz.sizeOf153
  v46 := Tryz.zeroValue153
  t51 := Tryz.underlying139
  a51 := Tryz.isAgg139
  z51 := Tryz.sizeOf139
  v51 := Tryz.zeroValue139
  t53 := Tryz.underlying43
  a53 := Tryz.isAgg43
  z53 := Tryz.sizeOf43
  v53 := Tryz.zeroValue43
  t171 := Tryz.underlying207
  a171 := Tryz.isAgg207
  z171 := Tryz.sizeOf207
  v171 := Tryz.zeroValue207
  t173 := Tryz.underlying209
  a173 := Tryz.isAgg209
  z173 := Tryz.sizeOf209
  v173 := Tryz.zeroValue209
  t212 := Tryz.underlying257
  a212 := Tryz.isAgg257
  z212 := Tryz.sizeOf257
  v212 := Tryz.zeroValue257
  t213 := Tryz.underlying258
  a213 := Tryz.isAgg258
  z213 := Tryz.sizeOf258
  t232 := Tryz.underlying293
  a232 := Tryz.isAgg293
  z232 := Tryz.sizeOf293
  v232 := Tryz.zeroValue293
  t233 := Tryz.underlying294
  a233 := Tryz.isAgg294
  z233 := Tryz.sizeOf294
  v233 := Tryz.zeroValue294
  g17 := by kernel_rfl
  g18 := by kernel_rfl
  g19 := by kernel_rfl
  i0 := by kernel_rfl
  i2 := by kernel_rfl
  i3 := by kernel_rfl
  i4 := by kernel_rfl
  i5 := by kernel_rfl
  i9 := by kernel_rfl
  i20 := by kernel_rfl
  i37 := by kernel_rfl
  i46 := by kernel_rfl
  i51 := by kernel_rfl
  i53 := by kernel_rfl
  i171 := by kernel_rfl
  i173 := by kernel_rfl
  i212 := by kernel_rfl
  i232 := by kernel_rfl
  i233 := by kernel_rfl
  m17 := by kernel_rfl
  m18 := by kernel_rfl
  m19 := by kernel_rfl }
open Go.RowKit Go.Sort Go.Lib in
theorem Tryz.strconv_Itoa (n : Int) (h0 : -9223372036854775808 ≤ n) (h1 : n ≤ 9223372036854775807) (w : World) (htab : Lib.TabIs Tryz.prog w "internal/strconv.uint64pow10" .u64 Lib.pow10Tab) :
    Calls Tryz.prog 56 #[.int .i64 n] w fun e w' => e = .returned (.string ⟨(Lib.itoa n).toArray⟩) ∧ ∃ k os, w' = grow (w.drewN k) os := Any.strconv_Itoa Tryz.laysM171 n h0 h1 w htab
def Tryz.laysM173_ren : Go.Shelf.Ren := ⟨fun | 173 => 75 | 246 => 121 | 283 => 168 | 284 => 169 | 285 => 170 | 286 => 171 | 129 => 117 | 317 => 211 | 318 => 212 | 319 => 213 | 320 => 214 | 337 => 248 | 338 => 249 | n => n, fun | 2 => 2 | 3 => 3 | 9 => 9 | 4 => 4 | 171 => 207 | 0 => 0 | 53 => 43 | 37 => 58 | 5 => 5 | 173 => 209 | 212 => 257 | 51 => 139 | 20 => 20 | 213 => 258 | 46 => 153 | 232 => 293 | 233 => 294 | n => n, fun | 17 => 2 | 18 => 4 | 19 => 5 | n => n⟩
theorem Tryz.laysM173 : Go.Proofs.LaysM.n173 Tryz.prog Tryz.laysM173_ren := {
  mixed := by kernel_rfl
  f129 := Tryz.func117.trans (congrArg some (by kernel_rfl))
  f173 := Tryz.func75.trans (congrArg some (by kernel_rfl))
  f246 := Tryz.func121.trans (congrArg some (by kernel_rfl))
  f283 := Tryz.func168.trans (congrArg some (by kernel_rfl))
  f284 := Tryz.func169.trans (congrArg some (by kernel_rfl))
  f285 := Tryz.func170.trans (congrArg some (by kernel_rfl))
  f286 := Tryz.func171.trans (congrArg some (by kernel_rfl))
  f317 := Tryz.func211.trans (congrArg some (by kernel_rfl))
  f318 := Tryz.func212.trans (congrArg some (by kernel_rfl))
  f319 := Tryz.func213.trans (congrArg some (by kernel_rfl))
  f320 := Tryz.func214.trans (congrArg some (by kernel_rfl))
  f337 := Tryz.func248.trans (congrArg some (by kernel_rfl))
  f338 := Tryz.func249.trans (congrArg some (by kernel_rfl))
  t0 := Tryz.underlying0
  a0 := Tryz.isAgg0
  z0 := Tryz.sizeOf0
  v0 := Tryz.zeroValue0
  t2 := Tryz.underlying2
  a2 := Tryz.isAgg2
  z2 := Tryz.sizeOf2
  v2 := Tryz.zeroValue2
  t3 := Tryz.underlying3
  a3 := Tryz.isAgg3
  z3 := Tryz.sizeOf3
  v3 := Tryz.zeroValue3
  t4 := Tryz.underlying4
  a4 := Tryz.isAgg4
  z4 := Tryz.sizeOf4
  v4 := Tryz.zeroValue4
  t5 := Tryz.underlying5
  a5 := Tryz.isAgg5
  z5 := Tryz.sizeOf5
  v5 := Tryz.zeroValue5
  t9 := Tryz.underlying9
  a9 := Tryz.isAgg9
  z9 := Tryz.sizeOf9
  v9 := Tryz.zeroValue9
  t20 := Tryz.underlying20
  a20 := Tryz.isAgg20
  z20 := Tryz.sizeOf20
  v20 := Tryz.zeroValue20
  t37 := Tryz.underlying58
  a37 := Tryz.isAgg58
  z37 := Tryz.sizeOf58
  v37 := Tryz.zeroValue58
  t46 := Tryz.underlying153
  a46 := Tryz.isAgg153
  z46 := Tryz.sizeOf153
  v46 := Tryz.zeroValue153
  t51 := Tryz.underlying139
  a51 := Tryz.isAgg139
  z51 := Tryz.sizeOf139
  v51 := Tryz.zeroValue139
  t53 := Tryz.underlying43
  a53 := Tryz.isAgg43
  z53 := Tryz.sizeOf43
  v53 := Tryz.zeroValue43
  t171 := Tryz.underlying207
  a171 := Tryz.isAgg207
  z171 := Tryz.sizeOf207
  v171 := Tryz.zeroValue207
  t173 := Tryz.underlying209
  a173 := Tryz.isAgg209
  z173 := Tryz.sizeOf209
  v173 := Tryz.zeroValue209
  t212 := Tryz.underlying257
  a212 := Tryz.isAgg257
  z212 := Tryz.sizeOf257
  v212 := Tryz.zeroValue257
  t213 := Tryz.underlying258
  a213 := Tryz.isAgg258
  z213 := Tryz.sizeOf258
  t232 := Tryz.underlying293
  a232 := Tryz.isAgg293
  z232 := Tryz.sizeOf293
  v232 := Tryz.zeroValue293
  t233 := Tryz.underlying294
  a233 := Tryz.isAgg294
  z233 := Tryz.sizeOf294
  v233 := Tryz.zeroValue294
  g17 := by kernel_rfl
  g18 := by kernel_rfl
  g19 := by kernel_rfl
  i0 := by kernel_rfl
  i2 := by kernel_rfl
  i3 := by kernel_rfl
  i4 := by kernel_rfl
  i5 := by kernel_rfl
  i9 := by kernel_rfl
  i20 := by kernel_rfl
  i37 := by kernel_rfl
  i46 := by kernel_rfl
  i51 := by kernel_rfl
  i53 := by kernel_rfl
  i171 := by kernel_rfl
  i173 := by kernel_rfl
  i212 := by kernel_rfl
  i232 := by kernel_rfl
  i233 := by kernel_rfl
  m17 := by kernel_rfl
  m18 := by kernel_rfl
  m19 := by kernel_rfl }
open Go.RowKit Go.Sort Go.Lib in
theorem Tryz.strconv_FormatInt_10 (n : Int) (h0 : -9223372036854775808 ≤ n) (h1 : n ≤ 9223372036854775807) (w : World) (htab : Lib.TabIs Tryz.prog w "internal/strconv.uint64pow10" .u64 Lib.pow10Tab) :
    Calls Tryz.prog 75 #[.int .i64 n, .int .i64 10] w fun e w' => e = .returned (.string ⟨(Lib.itoa n).toArray⟩) ∧ ∃ k os, w' = grow (w.drewN k) os := Any.strconv_FormatInt_10 Tryz.laysM173 n h0 h1 w htab
open Go.RowKit Go.Lib in
open Go.RowKit Go.Lib in
def Tryz.lays150_ren : Go.Shelf.Ren := ⟨fun | 150 => 80 | 153 => 129 | 152 => 180 | 226 => 181 | 227 => 182 | 228 => 183 | 137 => 123 | 119 => 226 | 224 => 227 | 225 => 228 | 217 => 172 | 266 => 215 | n => n, fun | 9 => 9 | 4 => 4 | 3 => 3 | 5 => 5 | 21 => 21 | 117 => 226 | 116 => 225 | 0 => 0 | 46 => 153 | 124 => 262 | n => n, fun | n => n⟩
theorem Tryz.lays150 : Go.Proofs.Lays.n150 Tryz.prog Tryz.lays150_ren := {
  mixed := by kernel_rfl
  f119 := Tryz.func226.trans (congrArg some (by kernel_rfl))
  f137 := Tryz.func123.trans (congrArg some (by kernel_rfl))
  f150 := Tryz.func80.trans (congrArg some (by kernel_rfl))
  f152 := Tryz.func180.trans (congrArg some (by kernel_rfl))
  f153 := Tryz.func129.trans (congrArg some (by kernel_rfl))
  f217 := Tryz.func172.trans (congrArg some (by kernel_rfl))
  f224 := Tryz.func227.trans (congrArg some (by kernel_rfl))
  f225 := Tryz.func228.trans (congrArg some (by kernel_rfl))
  f226 := Tryz.func181.trans (congrArg some (by kernel_rfl))
  f227 := Tryz.func182.trans (congrArg some (by kernel_rfl))
  f228 := Tryz.func183.trans (congrArg some (by kernel_rfl))
  f266 := Tryz.func215.trans (congrArg some (by kernel_rfl))
  t0 := Tryz.underlying0
  a0 := Tryz.isAgg0
  z0 := Tryz.sizeOf0
  v0 := Tryz.zeroValue0
  t3 := Tryz.underlying3
  a3 := Tryz.isAgg3
  z3 := Tryz.sizeOf3
  v3 := Tryz.zeroValue3
  t4 := Tryz.underlying4
  a4 := Tryz.isAgg4
  z4 := Tryz.sizeOf4
  v4 := Tryz.zeroValue4
  t5 := Tryz.underlying5
  a5 := Tryz.isAgg5
  z5 := Tryz.sizeOf5
  v5 := Tryz.zeroValue5
  t9 := Tryz.underlying9
  a9 := Tryz.isAgg9
  z9 := Tryz.sizeOf9
  v9 := Tryz.zeroValue9
  t21 := Tryz.underlying21
  a21 := Tryz.isAgg21
  z21 := Tryz.sizeOf21
  v21 := Tryz.zeroValue21
  t46 := Tryz.underlying153
  a46 := Tryz.isAgg153
  z46 := Tryz.sizeOf153
  v46 := Tryz.zeroValue153
  t116 := Tryz.underlying225
  a116 := Tryz.isAgg225
  z116 := Tryz.sizeOf225
  t117 := Tryz.underlying226
  a117 := Tryz.isAgg226
  z117 := Tryz.sizeOf226
  v117 := Tryz.zeroValue226
  t124 := Tryz.underlying262
  a124 := Tryz.isAgg262
  z124 := Tryz.sizeOf262
  v124 := Tryz.zeroValue262 }
open Go.RowKit Go.Lib in
theorem Tryz.strings_ContainsAny_laid (s chars : ByteArray) (w : World) (hs : s.size < 4294967281) (hcs : chars.size < 4294967281) (has : ∀ (j : Nat) b, s.data.toList[j]? = some b → b.toNat < 128) (hac : ∀ (j : Nat) b, chars.data.toList[j]? = some b → b.toNat < 128) :
    Calls Tryz.prog 80 #[.string s, .string chars] w fun e w' => e = .returned (.bool (Lib.containsAny s.data.toList chars.data.toList)) ∧ Below w.heap.size w w' := Any.strings_ContainsAny_laid Tryz.lays150 (by kernel_rfl) s chars w hs hcs has hac
def Tryz.lays105_ren : Go.Shelf.Ren := ⟨fun | 105 => 128 | 212 => 175 | 99 => 166 | 165 => 176 | 166 => 177 | 170 => 178 | 169 => 179 | 263 => 222 | 264 => 223 | 206 => 193 | 240 => 224 | 241 => 225 | 276 => 252 | 277 => 253 | n => n, fun | 9 => 9 | 3 => 3 | 4 => 4 | 20 => 20 | 0 => 0 | 46 => 153 | 109 => 212 | 5 => 5 | 72 => 216 | 76 => 220 | 51 => 139 | 146 => 263 | 53 => 43 | 148 => 265 | 70 => 214 | 37 => 58 | 75 => 219 | 127 => 267 | 164 => 289 | 80 => 148 | n => n, fun | n => n⟩
theorem Tryz.lays105 : Go.Proofs.Lays.n105 Tryz.prog Tryz.lays105_ren := {
  mixed := by kernel_rfl
  f99 := Tryz.func166.trans (congrArg some (by kernel_rfl))
  f105 := Tryz.func128.trans (congrArg some (by kernel_rfl))
  f165 := Tryz.func176.trans (congrArg some (by kernel_rfl))
  f166 := Tryz.func177.trans (congrArg some (by kernel_rfl))
  f169 := Tryz.func179.trans (congrArg some (by kernel_rfl))
  f170 := Tryz.func178.trans (congrArg some (by kernel_rfl))
  f206 := Tryz.func193.trans (congrArg some (by kernel_rfl))
  f212 := Tryz.func175.trans (congrArg some (by kernel_rfl))
  f240 := Tryz.func224.trans (congrArg some (by kernel_rfl))
  f241 := Tryz.func225.trans (congrArg some (by kernel_rfl))
  f263 := Tryz.func222.trans (congrArg some (by kernel_rfl))
  f264 := Tryz.func223.trans (congrArg some (by kernel_rfl))
  f276 := Tryz.func252.trans (congrArg some (by kernel_rfl))
  f277 := Tryz.func253.trans (congrArg some (by kernel_rfl))
  t0 := Tryz.underlying0
  a0 := Tryz.isAgg0
  z0 := Tryz.sizeOf0
  v0 := Tryz.zeroValue0
  t3 := Tryz.underlying3
  a3 := Tryz.isAgg3
  z3 := Tryz.sizeOf3
  v3 := Tryz.zeroValue3
  t4 := Tryz.underlying4
  a4 := Tryz.isAgg4
  z4 := Tryz.sizeOf4
  v4 := Tryz.zeroValue4
  t5 := Tryz.underlying5
  a5 := Tryz.isAgg5
  z5 := Tryz.sizeOf5
  v5 := Tryz.zeroValue5
  t9 := Tryz.underlying9
  a9 := Tryz.isAgg9
  z9 := Tryz.sizeOf9
  v9 := Tryz.zeroValue9
  t20 := Tryz.underlying20
  a20 := Tryz.isAgg20
  z20 := Tryz.sizeOf20
  v20 := Tryz.zeroValue20
  t37 := Tryz.underlying58
  a37 := Tryz.isAgg58
  z37 := Tryz.sizeOf58
  v37 := Tryz.zeroValue58
  t46 := Tryz.underlying153
  a46 := Tryz.isAgg153
  z46 := Tryz.sizeOf153
  v46 := Tryz.zeroValue153
  t51 := Tryz.underlying139
  a51 := Tryz.isAgg139
  z51 := Tryz.sizeOf139
  v51 := Tryz.zeroValue139
  t53 := Tryz.underlying43
  a53 := Tryz.isAgg43
  z53 := Tryz.sizeOf43
  v53 := Tryz.zeroValue43
  t70 := Tryz.underlying214
  a70 := Tryz.isAgg214
  z70 := Tryz.sizeOf214
  v70 := Tryz.zeroValue214
  t72 := Tryz.underlying216
  a72 := Tryz.isAgg216
  z72 := Tryz.sizeOf216
  v72 := Tryz.zeroValue216
  t75 := Tryz.underlying219
  a75 := Tryz.isAgg219
  z75 := Tryz.sizeOf219
  v75 := Tryz.zeroValue219
  t76 := Tryz.underlying220
  a76 := Tryz.isAgg220
  z76 := Tryz.sizeOf220
  v76 := Tryz.zeroValue220
  t109 := Tryz.underlying212
  a109 := Tryz.isAgg212
  z109 := Tryz.sizeOf212
  v109 := Tryz.zeroValue212
  t127 := Tryz.underlying267
  a127 := Tryz.isAgg267
  z127 := Tryz.sizeOf267
  v127 := Tryz.zeroValue267
  t146 := Tryz.underlying263
  a146 := Tryz.isAgg263
  z146 := Tryz.sizeOf263
  v146 := Tryz.zeroValue263
  t148 := Tryz.underlying265
  a148 := Tryz.isAgg265
  z148 := Tryz.sizeOf265
  v148 := Tryz.zeroValue265
  t164 := Tryz.underlying289
  a164 := Tryz.isAgg289
  z164 := Tryz.sizeOf289
  v164 := Tryz.zeroValue289 }
theorem Tryz.Builder_Extra_105 : Builder.Extra Tryz.prog Tryz.lays105_ren := {
  sizeBuilder := by kernel_rfl
  liesBuilder := by kernel_rfl
  t5 := Tryz.underlying5
  a5 := Tryz.isAgg5
  z5 := Tryz.sizeOf5
  v5 := Tryz.zeroValue5
  infoByte := by kernel_rfl
  cellsByte := by kernel_rfl
  sizeByte := by kernel_rfl
  neB5 := by decide }
open Go.RowKit Go.Lib in
theorem Tryz.strings_Repeat (s : ByteArray) (c : Nat) (w : World) (hc : c ≤ 9223372036854775807) (hlen : s.size * c ≤ 140737488355328) :
    Calls Tryz.prog 128 #[.string s, .int .i64 c] w fun e w' => e = .returned (.string ⟨(Lib.repeatL s.data.toList c).toArray⟩) ∧ Below w.heap.size w w' := Any.strings_Repeat Tryz.lays105 Tryz.Builder_Extra_105 s c w hc hlen
end Go.Proofs

namespace Go.Proofs.YtkkaamhocpmhkaaGreatDoor.Flow
open Go
theorem zeS {vs : Array Value} (h : vs.size = 2) : vs = #[vs.getD 0 undef, vs.getD 1 undef] := by
  obtain ⟨l⟩ := vs
  match l, h with
  | [a, b], _ => rfl
theorem zoa {vs : Array Value} (h : vs.size = 1) : vs = #[vs.getD 0 undef] := by
  obtain ⟨l⟩ := vs
  match l, h with
  | [a], _ => rfl
theorem zcv (w : World) (S : Cells) (hv : ∀ b o, S b o → b < w.heap.size) (hg : GOk S w) : Hist { w0 := w, S0 := S, L := fun _ => False } w S := zkV w S _ hv hg
theorem zbU {w w' : World} {S : Cells} (hv : ∀ b o, S b o → b < w.heap.size) (hg : GOk S w) (h : RowKit.Below w.heap.size w w') : Hist { w0 := w, S0 := S, L := fun _ => False } w' S where
  os := h.os
  tape := h.tape
  output := h.output
  size := h.size
  block := fun k hk _ => h.block k hk
  sub := fun _ _ h => h
  cell := fun b o hb => by
    have := h.block b (hv b o hb)
    simp [World.cell?, this]
  new := fun _ _ h => .inl h
  valid := fun b o hb => Nat.lt_of_lt_of_le (hv b o hb) h.size
  glob := hg.mono (fun _ _ h => h) fun b o hb => by
    have := h.block b (hv b o hb)
    simp [World.cell?, this]
theorem zgx (s : List UInt8) (c : UInt8) (hs : s.length ≤ 9223372036854775807) (hc : c.toNat < 128 := by decide) : Ctr Tryz.prog 173 [.s s, .s [c]] (.s (Lib.trimRightB s c)) := by
  intro w S vs hv hg hn hr
  have h0 := hr 0 (by simp)
  have h1 := hr 1 (by simp)
  rw [zeS hn]
  generalize vs.getD 0 undef = v0 at *
  generalize vs.getD 1 undef = v1 at *
  cases h0
  cases h1
  refine (Tryz.strings_TrimRight_one ⟨s.toArray⟩ c hc w (by simpa [ByteArray.size] using hs)).mono ?_
  rintro e w' ⟨rfl, rfl⟩
  exact ⟨_, S, rfl, .s _ _, zcv _ S hv hg⟩
theorem zhV (s : List UInt8) (c : UInt8) (hc : c.toNat < 128 := by decide) : Ctr Tryz.prog 174 [.s s, .s [c]] (.s (Lib.trimLeftB s c)) := by
  intro w S vs hv hg hn hr
  have h0 := hr 0 (by simp)
  have h1 := hr 1 (by simp)
  rw [zeS hn]
  generalize vs.getD 0 undef = v0 at *
  generalize vs.getD 1 undef = v1 at *
  cases h0
  cases h1
  refine (Tryz.strings_TrimLeft_one ⟨s.toArray⟩ c hc w).mono ?_
  rintro e w' ⟨rfl, rfl⟩
  exact ⟨_, S, rfl, .s _ _, zcv _ S hv hg⟩
theorem zgv (s : List UInt8) (c : Int) : Ctr Tryz.prog 123 [.s s, .i .u8 c] (.i .i64 (Lib.indexByte s c.toNat.toUInt8)) := by
  intro w S vs hv hg hn hr
  have h0 := hr 0 (by simp)
  have h1 := hr 1 (by simp)
  rw [zeS hn]
  generalize vs.getD 0 undef = v0 at *
  generalize vs.getD 1 undef = v1 at *
  cases h0
  cases h1
  refine (Tryz.strings_IndexByte ⟨s.toArray⟩ c w).mono ?_
  rintro e w' ⟨rfl, rfl⟩
  exact ⟨_, S, rfl, .i _ _ _, zcv _ S hv hg⟩
theorem zly (s : List UInt8) (c : Nat) (hc : c ≤ 9223372036854775807) (hlen : s.length * c ≤ 140737488355328) : Ctr Tryz.prog 128 [.s s, .i .i64 c] (.s (Lib.repeatL s c)) := by
  intro w S vs hv hg hn hr
  have h0 := hr 0 (by simp)
  have h1 := hr 1 (by simp)
  rw [zeS hn]
  generalize vs.getD 0 undef = v0 at *
  generalize vs.getD 1 undef = v1 at *
  cases h0
  cases h1
  refine (Tryz.strings_Repeat ⟨s.toArray⟩ c w hc (by simpa [ByteArray.size] using hlen)).mono ?_
  rintro e w' ⟨rfl, hb⟩
  exact ⟨_, S, rfl, .s _ _, zbU hv hg hb⟩
theorem zcY (w : World) (k : Nat) (os : Array Obj) : RowKit.Below w.heap.size w (Sort.grow (w.drewN k) os) where
  os := rfl
  tape := rfl
  output := rfl
  size := by show w.heap.size ≤ (w.heap ++ os).size; rw [Array.size_append]; omega
  block := fun j hj => by
    show (w.heap ++ os)[j]? = w.heap[j]?
    rw [Array.getElem?_append_left hj]

set_option maxHeartbeats 1000000 in
theorem zkd (neg : Bool) (s : List UInt8) (e : Int) (hs : s.length ≤ 1099511627776) (h1 : -4611686018427387904 ≤ e) (h2 : e ≤ 4611686018427387904) :
    Ctr Tryz.prog 126 [.b neg, .s s, .i .i64 e] (.tu [dcV (normF neg s e).1, .i .i64 (normF neg s e).2]) := by
  have c1 := zgx s 48 (by omega)
  have c2 := zhV (tR s) 48
  have l1 := zjl s
  have l2 := zma (tR s)
  generalize hR : normF neg s e = R
  unfold normF at hR
  replace hR := fun _ : Unit => hR.symm
  change Ctr _ _ _ (.s (tR s)) at c1
  change Ctr _ _ _ (.s (tL (tR s))) at c2
  generalize tL (tR s) = d at *
  have hne : ¬ d = ({ data := #[] } : ByteArray).data.toList → ¬ d.length = 0 := fun h h2 => h (List.length_eq_zero_iff.1 h2)
  generalize tR s = r at *
  refine zax Tryz.func126 rfl Tryz.ntmps126 Tryz.results126 rfl rfl fun X hL hX => ?_
  repeat' (first |with_reducible (first |refine zah ?_|refine zaa ?_|refine zag ?_|refine zad ?_|refine zan ?_|refine zai ?_|refine zaf ?_|refine zao ?_|refine zam ?_|refine zaz ?_)|refine zab rfl rfl True.intro ?_|refine zap rfl rfl rfl ?_|refine zaj rfl rfl rfl rfl True.intro ?_|refine zau rfl ?_|((first |refine zac rfl ?_ ?_|refine zaQ rfl ?_ ?_|refine zak rfl rfl ?_ ?_)<;>intro)|((first |refine zab rfl rfl ?_ ?_|refine zav rfl rfl ?_ ?_|refine zaH rfl ?_ ?_);focus (first |omega|((repeat' refine And.intro ?_ ?_)<;>omega)|((repeat' refine And.intro ?_ ?_)<;>first |rfl|exact Nat.le_refl _)))|refine zaq rfl ?_|refine zae (f := 173) rfl rfl Tryz.call173 rfl c1 ?_|refine zae (f := 174) rfl rfl Tryz.call174 rfl c2 ?_|fail)
  · rename_i h
    rw [hR (), if_pos (by rw [h]; rfl)]
    rfl
  · rw [hR (), if_neg (hne ‹_›), if_pos (by omega)]
    rfl
  · rw [hR (), if_neg (hne ‹_›), if_neg (by omega), if_pos (by omega)]
    rfl
  · rw [hR (), if_neg (hne ‹_›), if_neg (by omega), if_pos (by omega)]
    rfl
  · rw [hR (), if_neg (hne ‹_›), if_neg (by omega), if_neg (by omega)]
    rfl

def isD (c : UInt8) : Bool := decide (48 ≤ (c.toNat : Int) ∧ (c.toNat : Int) ≤ 57)
theorem zby {c : UInt8} : isD c = true ↔ 48 ≤ (c.toNat : Int) ∧ (c.toNat : Int) ≤ 57 := by simp [isD]
def dgT (s : List UInt8) (i : Nat) : List UInt8 := (s.drop i).takeWhile isD
theorem zhG {s : List UInt8} {i : Nat} (h : i < s.length) : s.drop i = s.getD i 0 :: s.drop (i + 1) := by
  rw [List.drop_eq_getElem_cons h]
  simp [List.getD_eq_getElem?_getD, h]
theorem zhi {s : List UInt8} {i : Nat} (h : i < s.length) (h2 : 48 ≤ at' s i ∧ at' s i ≤ 57) : dgT s i = s.getD i 0 :: dgT s (i + 1) := by
  unfold dgT
  rw [zhG h, List.takeWhile_cons, if_pos]
  exact zby.2 h2
theorem zgp {s : List UInt8} {i : Nat} (h : ¬ i < s.length ∨ ¬ (48 ≤ at' s i ∧ at' s i ≤ 57)) : dgT s i = [] := by
  unfold dgT
  by_cases hi : i < s.length
  · rw [zhG hi, List.takeWhile_cons, if_neg]
    intro h2
    rcases h with h | h
    · exact h hi
    · exact h (zby.1 h2)
  · rw [List.drop_eq_nil_of_le (by omega)]
    rfl
theorem zbS {p : UInt8 → Bool} : ∀ l : List UInt8, l.take (l.takeWhile p).length = l.takeWhile p
  | [] => by simp
  | c :: r => by
    rw [List.takeWhile_cons]
    split
    · simp [zbS r]
    · simp
theorem zbl (s : List UInt8) (i : Nat) : (dgT s i).length ≤ s.length - i := by
  have := List.takeWhile_sublist (p := isD) (l := s.drop i)
  have := this.length_le
  unfold dgT
  simpa using this
theorem ziA (s : List UInt8) (i : Nat) : (s.take (i + (dgT s i).length)).drop i = dgT s i := by
  rw [List.drop_take, show i + (dgT s i).length - i = (dgT s i).length by omega]
  exact zbS _
theorem zbi (s : List UInt8) (i : Nat) : ∀ c ∈ dgT s i, isD c = true := fun c hc => by
  unfold dgT at hc
  generalize s.drop i = l at hc
  induction l with
  | nil => simp at hc
  | cons a r ih =>
    rw [List.takeWhile_cons] at hc
    split at hc
    · rcases List.mem_cons.1 hc with rfl | hc
      · assumption
      · exact ih hc
    · simp at hc
def sat (s : List UInt8) (i : Nat) (c : Int) : Prop := i < s.length ∧ at' s i = c
instance (s : List UInt8) (i : Nat) (c : Int) : Decidable (sat s i c) := by unfold sat; infer_instance
def whN (s : List UInt8) (i : Nat) : List UInt8 × Nat := if sat s i 48 then ([48], i + 1) else (dgT s i, i + (dgT s i).length)
def frN (s : List UInt8) (j : Nat) : List UInt8 × Nat := if sat s j 46 ∧ ¬ dgT s (j + 1) = [] then (dgT s (j + 1), j + 1 + (dgT s (j + 1)).length) else ([], j)
def sgN (s : List UInt8) (a : Nat) : Nat := if sat s a 43 ∨ sat s a 45 then a + 1 else a
def exN (pw : List UInt8 → Int) (s : List UInt8) (k : Nat) : Int × Nat :=
  if (sat s k 101 ∨ sat s k 69) ∧ ¬ dgT s (sgN s (k + 1)) = [] then
    (if sat s (k + 1) 45 then -pw (dgT s (sgN s (k + 1))) else pw (dgT s (sgN s (k + 1))), sgN s (k + 1) + (dgT s (sgN s (k + 1))).length)
  else (0, k)
def sg0 (s : List UInt8) : Nat := if sat s 0 45 then 1 else 0
def parseG (pw : List UInt8 → Int) (s : List UInt8) : (Bool × List UInt8 × Int) × Nat × Int :=
  if (whN s (sg0 s)).1 = [] then ((false, [], 0), 0, 3)
  else
    let w := whN s (sg0 s)
    let f := frN s w.2
    let x := exN pw s f.2
    let r := normF (decide (sat s 0 45)) (w.1 ++ f.1) (x.1 - f.1.length)
    if r.2 = 0 then (r.1, x.2, 0) else ((false, [], 0), 0, r.2)
def powP (x : List UInt8) : Int := x.foldl (fun n c => min (10 * n + ((c.toNat : Int) - 48)) 1099511627776) 0
def powR (x : List UInt8) : Int := x.foldl (fun n c => if n < 1000000000 then 10 * n + (c.toNat : Int) - 48 else n) 0
theorem zjX : ∀ (x : List UInt8) (a b : Int), (∀ c ∈ x, isD c = true) → 0 ≤ a → (a = b ∧ a < 1000000000 ∨ 1000000000 ≤ a ∧ 1000000000 ≤ b) →
    let p := x.foldl (fun n c => min (10 * n + ((c.toNat : Int) - 48)) 1099511627776) a
    let r := x.foldl (fun n c => if n < 1000000000 then 10 * n + (c.toNat : Int) - 48 else n) b
    0 ≤ p ∧ (p = r ∧ p < 1000000000 ∨ 1000000000 ≤ p ∧ 1000000000 ≤ r)
  | [], a, b, _, h0, h => ⟨h0, h⟩
  | c :: x, a, b, hx, h0, h => by
    have hc := zby.1 (hx c (by simp))
    simp only [List.foldl_cons]
    refine zjX x _ _ (fun c h => hx c (by simp [h])) (by omega) ?_
    split <;> omega
theorem zlK (x : List UInt8) (hx : ∀ c ∈ x, isD c = true) : 0 ≤ powP x ∧ (powP x = powR x ∧ powP x < 1000000000 ∨ 1000000000 ≤ powP x ∧ 1000000000 ≤ powR x) := zjX x 0 0 hx (by omega) (.inl ⟨rfl, by omega⟩)
theorem zmi : ∀ (x : List UInt8) (a : Int), a ≤ 1099511627776 → x.foldl (fun n c => min (10 * n + ((c.toNat : Int) - 48)) 1099511627776) a ≤ 1099511627776
  | [], a, h => h
  | c :: x, a, h => by
    simp only [List.foldl_cons]
    exact zmi x _ (by omega)
theorem zou (neg : Bool) (d : List UInt8) (e e' : Int) (h1 : d.length ≤ 20000) (h : e = e' ∨ (100000 ≤ e ∧ 100000 ≤ e') ∨ (e ≤ -100000 ∧ e' ≤ -100000)) : normF neg d e = normF neg d e' := by
  have l := zjl d
  rcases h with rfl | h
  · rfl
  · unfold normF
    split
    · rfl
    · split
      · rfl
      · rw [if_pos (by omega), if_pos (by omega)]
theorem zlz (s : List UInt8) (hs : s.length ≤ 5000) : parseG powP s = parseG powR s := by
  unfold parseG
  split
  · rfl
  · have hf : (frN s (whN s (sg0 s)).2).1.length ≤ 5000 := by
      unfold frN
      split
      · have := zbl s ((whN s (sg0 s)).2 + 1)
        dsimp only
        omega
      · simp
    have hw : (whN s (sg0 s)).1.length ≤ 5000 := by
      unfold whN
      split
      · simp
      · have := zbl s (sg0 s)
        dsimp only
        omega
    dsimp only
    generalize (frN s (whN s (sg0 s)).2).2 = k
    generalize (frN s (whN s (sg0 s)).2).1 = f at *
    generalize (whN s (sg0 s)).1 = w at *
    have e2 : (exN powP s k).2 = (exN powR s k).2 := by
      unfold exN
      split <;> rfl
    have e1 : normF (decide (sat s 0 45)) (w ++ f) ((exN powP s k).1 - f.length) = normF (decide (sat s 0 45)) (w ++ f) ((exN powR s k).1 - f.length) := by
      refine zou _ _ _ _ (by rw [List.length_append]; omega) ?_
      unfold exN
      split
      · have := zlK (dgT s (sgN s (k + 1))) (zbi _ _)
        dsimp only
        split <;> omega
      · exact .inl rfl
    rw [e1, e2]

abbrev zs (n : Nat) : List UInt8 := List.replicate n 48
theorem ziR (n : Nat) : Lib.repeatL [48] n = zs n := by
  induction n with
  | zero => rfl
  | succ n ih =>
    rw [Lib.repeatL, ih]
    show _ = List.replicate (n + 1) 48
    rw [List.replicate_succ]
    rfl
def textU (s : List UInt8) (e : Int) : List UInt8 :=
  if 0 ≤ e ∧ s.length + e ≤ 21 then s ++ zs e.toNat
  else if 1 ≤ s.length + e ∧ s.length + e < s.length then s.take (s.length + e).toNat ++ [46] ++ s.drop (s.length + e).toNat
  else if -6 ≤ s.length + e ∧ s.length + e ≤ 0 then [48, 46] ++ zs (-(s.length + e)).toNat ++ s
  else s.take 1 ++ (if 1 < s.length then [46] ++ s.drop 1 else []) ++ [101] ++ Lib.itoa (s.length + e - 1)
def textF (neg : Bool) (s : List UInt8) (e : Int) : List UInt8 :=
  if ¬ RightP neg s e then [] else if s.length = 0 then [48] else (if neg = true then [45] else []) ++ textU s e
theorem ziP (e : Int) (h : 0 ≤ e) (h2 : e ≤ 1000000) : Ctr Tryz.prog 128 [.s [48], .i .i64 e] (.s (zs e.toNat)) := by
  obtain ⟨n, rfl⟩ := Int.eq_ofNat_of_zero_le h
  have := zly [48] n (by omega) (by simp; omega)
  rwa [ziR] at this
theorem zhQ (e : Int) (h : 0 ≤ e) (h2 : e ≤ 1000000) : Ctr Tryz.prog 141 [.i .i64 e] (.s (zs e.toNat)) := by
  obtain ⟨n, rfl⟩ := Int.eq_ofNat_of_zero_le h
  refine zax Tryz.func141 rfl Tryz.ntmps141 Tryz.results141 rfl rfl fun X hL hX => ?_
  repeat' (first |with_reducible (first |refine zah ?_|refine zaa ?_|refine zag ?_|refine zad ?_|refine zaf ?_)|refine zab rfl rfl True.intro ?_|fail)
  refine T.loop hL (fun k : Nat => [(0, .i .i64 n), (3, .s (zs k)), (4, .i .i64 k)]) (fun _ => []) (fun k => k ≤ n) (fun k => n - k) 0 (Nat.zero_le _) ⟨⟨rfl, rfl, rfl, trivial⟩, trivial, rfl, by rw [hX]; intro k hk; cases hk⟩ ?_
  intro k hk
  have hl : (zs k).length = k := by simp
  repeat' (first |with_reducible (first |refine zah ?_|refine zaa ?_|refine zag ?_|refine zad ?_|refine zan ?_|refine zai ?_|refine zat ?_|refine zaf ?_|refine zao ?_|refine zas ?_)|refine zab rfl rfl True.intro ?_|((first |refine zac rfl ?_ ?_)<;>intro)|((first |refine zab rfl rfl ?_ ?_);focus (first |(simp only [List.length_replicate, List.length_cons, List.length_nil];omega)|omega|((repeat' refine And.intro ?_ ?_)<;>omega)))|refine zaB rfl ?_|refine zaq rfl ?_|fail)
  · exact ⟨k + 1, by omega, by omega, ⟨rfl, congrArg D.s (List.replicate_succ' (a := (48 : UInt8)) (n := k)).symm, rfl, trivial⟩, trivial, rfl, by rw [hX]; intro k hk; cases hk⟩
  · rw [show k = n by omega]
    simp
abbrev dig10 : List UInt8 := [48, 49, 50, 51, 52, 53, 54, 55, 56, 57]
theorem zhW : ∀ n : Nat, n < 10 → (dig10.take (n + 1)).drop n = [UInt8.ofNat (48 + n)] := by decide
theorem zdr (n : Nat) : n ≤ 1000000 → Ctr Tryz.prog 142 [.i .i64 n] (.s (Lib.decDigits n)) := by
  induction n using Nat.strongRecOn with
  | ind n ih =>
    intro hn
    have hl : (Lib.decDigits (n / 10)).length ≤ 100 := dlen (n / 10) (by omega)
    have l1 : dig10.length = 10 := rfl
    by_cases h : n < 10
    · have e : Lib.decDigits n = [UInt8.ofNat (48 + n)] := by rw [Lib.decDigits, dif_pos h]
      refine zax Tryz.func142 rfl Tryz.ntmps142 Tryz.results142 rfl rfl fun X hL hX => ?_
      clear ih hl
      repeat' (first |with_reducible (first |refine zah ?_|refine zaa ?_|refine zag ?_|refine zad ?_|refine zan ?_|refine zai ?_|refine zam ?_)|refine zab rfl rfl True.intro ?_|refine zal rfl ?_|((first |refine zac rfl ?_ ?_)<;>intro<;>try (first |(exfalso;omega)))|((first |refine zab rfl rfl ?_ ?_);focus (first |omega|((repeat' refine And.intro ?_ ?_)<;>omega)|((repeat' refine And.intro ?_ ?_)<;>first |omega)|(simp_all;omega)))|refine zaq rfl ?_|fail)
      rw [e, ← zhW n h]
      rfl
    · have e : Lib.decDigits n = Lib.decDigits (n / 10) ++ [UInt8.ofNat (48 + n % 10)] := by rw [Lib.decDigits, dif_neg h]
      have c := ih (n / 10) (by omega) (by omega)
      refine zax Tryz.func142 rfl Tryz.ntmps142 Tryz.results142 rfl rfl fun X hL hX => ?_
      clear ih
      repeat' (first |with_reducible (first |refine zah ?_|refine zaa ?_|refine zag ?_|refine zad ?_|refine zan ?_|refine zai ?_|refine zaC ?_)|refine zab rfl rfl True.intro ?_|refine zal rfl ?_|((first |refine zac rfl ?_ ?_)<;>intro<;>try (first |(exfalso;omega)))|((first |refine zab rfl rfl ?_ ?_);focus (first |(simp only [List.length_drop, List.length_take];omega)|omega|((repeat first |rw [wi6_]);(repeat' refine And.intro ?_ ?_)<;>omega)|((repeat' refine And.intro ?_ ?_)<;>first |omega)|(simp_all;omega)))|with_reducible refine ⟨by kernel_rfl, ?_⟩|refine zaq rfl ?_|refine zae (f := 142) rfl rfl Tryz.call142 rfl c ?_|fail)
      rw [e, ← zhW (n % 10) (by omega)]
      rfl
where
  dlen (n : Nat) (h : n ≤ 1000000) : (Lib.decDigits n).length ≤ 100 := by
    have key : ∀ (k n : Nat), n < 10 ^ k → (Lib.decDigits n).length ≤ k + 1 := by
      intro k
      induction k with
      | zero => intro n hn; rw [Lib.decDigits, dif_pos (by omega)]; simp
      | succ k ih =>
        intro n hn
        rw [Lib.decDigits]
        split
        · simp
        · have := ih (n / 10) (by rw [Nat.pow_succ] at hn; omega)
          simp
          omega
    have := key 7 n (by omega)
    omega
theorem zoc (n : Int) (h0 : -1000000 ≤ n) (h1 : n ≤ 1000000) : Ctr Tryz.prog 142 [.i .i64 n] (.s (Lib.itoa n)) := by
  unfold Lib.itoa
  by_cases h : n < 0
  · rw [if_pos h]
    have c := zdr n.natAbs (by omega)
    rw [show ((n.natAbs : Nat) : Int) = -n by omega] at c
    have hl := zdr.dlen n.natAbs (by omega)
    generalize Lib.decDigits n.natAbs = ds at c hl ⊢
    refine zax Tryz.func142 rfl Tryz.ntmps142 Tryz.results142 rfl rfl fun X hL hX => ?_
    repeat' (first |with_reducible (first |refine zah ?_|refine zaa ?_|refine zag ?_|refine zad ?_|refine zan ?_|refine zam ?_)|refine zab rfl rfl True.intro ?_|((first |refine zac rfl ?_ ?_)<;>intro<;>try (first |(exfalso;omega)))|((first |refine zab rfl rfl ?_ ?_);focus (first |(simp only [List.length_cons, List.length_nil];omega)|omega|((repeat' refine And.intro ?_ ?_)<;>omega)))|refine zaq rfl ?_|refine zae (f := 142) rfl rfl Tryz.call142 rfl c ?_|fail)
    rfl
  · rw [if_neg h]
    have c := zdr n.toNat (by omega)
    rwa [show ((n.toNat : Nat) : Int) = n by omega] at c
theorem zkq (n : Int) (h0 : -1000000 ≤ n) (h1 : n ≤ 1000000) : (Lib.itoa n).length ≤ 101 := by
  unfold Lib.itoa
  split
  · have := zdr.dlen n.natAbs (by omega)
    simp only [List.length_cons]
    omega
  · have := zdr.dlen n.toNat (by omega)
    omega
end Go.Proofs.YtkkaamhocpmhkaaGreatDoor.Flow
