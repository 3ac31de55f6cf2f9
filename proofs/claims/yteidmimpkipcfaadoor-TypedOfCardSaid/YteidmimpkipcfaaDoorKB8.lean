/- The texts Shelf, BLibs, BD2, BD3, BD10, BD14, BT1, one behind the other. -/
import Derived.Test.YteidmimpkipcfaaDoorKB5
import Derived.Test.YteidmimpkipcfaaDoorKB7
import Derived.Shelf.Strings.Trim
import Derived.Shelf.Small.Strs
import Derived.Shelf.Small.Wraps
import Derived.Shelf.Strconv.Itoa0
import Derived.Shelf.Strconv.Itoa1
import Derived.Shelf.LaysM
import Derived.Shelf.Strconv.Itoa2
import Derived.Shelf.Strconv.Itoa3
import Derived.Shelf.Strings.IndexAnyAll
import Derived.Shelf.Strings.Repeat
import Derived.Test.YteidmimpkipcfaaDoorProg
import Derived.Lib.TrimByte
/- The library's contracts that this seat's proofs use, laid by the kit's command over this translation, in plain words. -/
namespace Go.Proofs
open Go.Shelf
def Tryd.lays161_ren : Go.Shelf.Ren := ⟨fun | 161 => 91 | 231 => 124 | 227 => 121 | 233 => 125 | 235 => 126 | 228 => 131 | 197 => 152 | 151 => 151 | 260 => 166 | 152 => 129 | 137 => 94 | 119 => 154 | 224 => 155 | 225 => 156 | 217 => 128 | 266 => 153 | n => n, fun | 9 => 9 | 4 => 4 | 3 => 3 | 5 => 5 | 117 => 140 | 116 => 139 | 0 => 0 | 124 => 143 | 105 => 167 | 21 => 21 | 119 => 145 | 46 => 109 | 139 => 148 | 138 => 147 | n => n, fun | 3 => 0 | 4 => 1 | n => n⟩
theorem Tryd.lays161 : Go.Proofs.Lays.n161 Tryd.prog Tryd.lays161_ren := {
  mixed := by kernel_rfl
  f119 := Tryd.func154.trans (congrArg some (by kernel_rfl))
  f137 := Tryd.func94.trans (congrArg some (by kernel_rfl))
  f151 := Tryd.func151.trans (congrArg some (by kernel_rfl))
  f152 := Tryd.func129.trans (congrArg some (by kernel_rfl))
  f161 := Tryd.func91.trans (congrArg some (by kernel_rfl))
  f197 := Tryd.func152.trans (congrArg some (by kernel_rfl))
  f217 := Tryd.func128.trans (congrArg some (by kernel_rfl))
  f224 := Tryd.func155.trans (congrArg some (by kernel_rfl))
  f225 := Tryd.func156.trans (congrArg some (by kernel_rfl))
  f227 := Tryd.func121.trans (congrArg some (by kernel_rfl))
  f228 := Tryd.func131.trans (congrArg some (by kernel_rfl))
  f231 := Tryd.func124.trans (congrArg some (by kernel_rfl))
  f233 := Tryd.func125.trans (congrArg some (by kernel_rfl))
  f235 := Tryd.func126.trans (congrArg some (by kernel_rfl))
  f260 := Tryd.func166.trans (congrArg some (by kernel_rfl))
  f266 := Tryd.func153.trans (congrArg some (by kernel_rfl))
  t0 := Tryd.underlying0
  a0 := Tryd.isAgg0
  z0 := Tryd.sizeOf0
  v0 := Tryd.zeroValue0
  t3 := Tryd.underlying3
  a3 := Tryd.isAgg3
  z3 := Tryd.sizeOf3
  v3 := Tryd.zeroValue3
  t4 := Tryd.underlying4
  a4 := Tryd.isAgg4
  z4 := Tryd.sizeOf4
  v4 := Tryd.zeroValue4
  t5 := Tryd.underlying5
  a5 := Tryd.isAgg5
  z5 := Tryd.sizeOf5
  v5 := Tryd.zeroValue5
  t9 := Tryd.underlying9
  a9 := Tryd.isAgg9
  z9 := Tryd.sizeOf9
  v9 := Tryd.zeroValue9
  t21 := Tryd.underlying21
  a21 := Tryd.isAgg21
  z21 := Tryd.sizeOf21
  v21 := Tryd.zeroValue21
  t46 := Tryd.underlying109
  a46 := Tryd.isAgg109
  z46 := Tryd.sizeOf109
  v46 := Tryd.zeroValue109
  t105 := Tryd.underlying167
  a105 := Tryd.isAgg167
  z105 := Tryd.sizeOf167
  v105 := Tryd.zeroValue167
  t116 := Tryd.underlying139
  a116 := Tryd.isAgg139
  z116 := Tryd.sizeOf139
  t117 := Tryd.underlying140
  a117 := Tryd.isAgg140
  z117 := Tryd.sizeOf140
  v117 := Tryd.zeroValue140
  t119 := Tryd.underlying145
  a119 := Tryd.isAgg145
  z119 := Tryd.sizeOf145
  t124 := Tryd.underlying143
  a124 := Tryd.isAgg143
  z124 := Tryd.sizeOf143
  v124 := Tryd.zeroValue143
  t138 := Tryd.underlying147
  a138 := Tryd.isAgg147
  z138 := Tryd.sizeOf147
  v138 := Tryd.zeroValue147
  t139 := Tryd.underlying148
  a139 := Tryd.isAgg148
  z139 := Tryd.sizeOf148
  v139 := Tryd.zeroValue148
  g3 := by kernel_rfl
  g4 := by kernel_rfl }
open Go.RowKit in
/-- strings.TrimLeft: "TrimLeft returns a slice of the string s with all leading Unicode code points contained in cutset removed.": AT A cutset OF ONE ASCII BYTE. The world is as it was. (LAID: no walk: one application.) -/
theorem Tryd.strings_TrimLeft_one (s : ByteArray) (c : UInt8) (hc : c.toNat < 128) (w : World) :
    Calls Tryd.prog 91 #[.string s, .string ⟨#[c]⟩] w fun e w' => e = .returned (.string ⟨(Lib.trimLeftB s.data.toList c).toArray⟩) ∧ w' = w := Any.strings_TrimLeft_one Tryd.lays161 s c hc w
def Tryd.lays162_ren : Go.Shelf.Ren := ⟨fun | 162 => 90 | 232 => 120 | 227 => 121 | 234 => 122 | 236 => 123 | 228 => 131 | 271 => 150 | 151 => 151 | 120 => 165 | 197 => 152 | 152 => 129 | 260 => 166 | 137 => 94 | 119 => 154 | 224 => 155 | 225 => 156 | 217 => 128 | 266 => 153 | n => n, fun | 9 => 9 | 4 => 4 | 3 => 3 | 5 => 5 | 117 => 140 | 116 => 139 | 0 => 0 | 124 => 143 | 21 => 21 | 105 => 167 | 46 => 109 | 119 => 145 | 139 => 148 | 138 => 147 | n => n, fun | 3 => 0 | 4 => 1 | n => n⟩
theorem Tryd.lays162 : Go.Proofs.Lays.n162 Tryd.prog Tryd.lays162_ren := {
  mixed := by kernel_rfl
  f119 := Tryd.func154.trans (congrArg some (by kernel_rfl))
  f120 := Tryd.func165.trans (congrArg some (by kernel_rfl))
  f137 := Tryd.func94.trans (congrArg some (by kernel_rfl))
  f151 := Tryd.func151.trans (congrArg some (by kernel_rfl))
  f152 := Tryd.func129.trans (congrArg some (by kernel_rfl))
  f162 := Tryd.func90.trans (congrArg some (by kernel_rfl))
  f197 := Tryd.func152.trans (congrArg some (by kernel_rfl))
  f217 := Tryd.func128.trans (congrArg some (by kernel_rfl))
  f224 := Tryd.func155.trans (congrArg some (by kernel_rfl))
  f225 := Tryd.func156.trans (congrArg some (by kernel_rfl))
  f227 := Tryd.func121.trans (congrArg some (by kernel_rfl))
  f228 := Tryd.func131.trans (congrArg some (by kernel_rfl))
  f232 := Tryd.func120.trans (congrArg some (by kernel_rfl))
  f234 := Tryd.func122.trans (congrArg some (by kernel_rfl))
  f236 := Tryd.func123.trans (congrArg some (by kernel_rfl))
  f260 := Tryd.func166.trans (congrArg some (by kernel_rfl))
  f266 := Tryd.func153.trans (congrArg some (by kernel_rfl))
  f271 := Tryd.func150.trans (congrArg some (by kernel_rfl))
  t0 := Tryd.underlying0
  a0 := Tryd.isAgg0
  z0 := Tryd.sizeOf0
  v0 := Tryd.zeroValue0
  t3 := Tryd.underlying3
  a3 := Tryd.isAgg3
  z3 := Tryd.sizeOf3
  v3 := Tryd.zeroValue3
  t4 := Tryd.underlying4
  a4 := Tryd.isAgg4
  z4 := Tryd.sizeOf4
  v4 := Tryd.zeroValue4
  t5 := Tryd.underlying5
  a5 := Tryd.isAgg5
  z5 := Tryd.sizeOf5
  v5 := Tryd.zeroValue5
  t9 := Tryd.underlying9
  a9 := Tryd.isAgg9
  z9 := Tryd.sizeOf9
  v9 := Tryd.zeroValue9
  t21 := Tryd.underlying21
  a21 := Tryd.isAgg21
  z21 := Tryd.sizeOf21
  v21 := Tryd.zeroValue21
  t46 := Tryd.underlying109
  a46 := Tryd.isAgg109
  z46 := Tryd.sizeOf109
  v46 := Tryd.zeroValue109
  t105 := Tryd.underlying167
  a105 := Tryd.isAgg167
  z105 := Tryd.sizeOf167
  v105 := Tryd.zeroValue167
  t116 := Tryd.underlying139
  a116 := Tryd.isAgg139
  z116 := Tryd.sizeOf139
  t117 := Tryd.underlying140
  a117 := Tryd.isAgg140
  z117 := Tryd.sizeOf140
  v117 := Tryd.zeroValue140
  t119 := Tryd.underlying145
  a119 := Tryd.isAgg145
  z119 := Tryd.sizeOf145
  t124 := Tryd.underlying143
  a124 := Tryd.isAgg143
  z124 := Tryd.sizeOf143
  v124 := Tryd.zeroValue143
  t138 := Tryd.underlying147
  a138 := Tryd.isAgg147
  z138 := Tryd.sizeOf147
  v138 := Tryd.zeroValue147
  t139 := Tryd.underlying148
  a139 := Tryd.isAgg148
  z139 := Tryd.sizeOf148
  v139 := Tryd.zeroValue148
  g3 := by kernel_rfl
  g4 := by kernel_rfl }
open Go.RowKit in
/-- strings.TrimRight: "TrimRight returns a slice of the string s, with all trailing Unicode code points contained in cutset removed.": AT A cutset OF ONE ASCII BYTE. The world is as it was. (LAID: no walk: one application.) -/
theorem Tryd.strings_TrimRight_one (s : ByteArray) (c : UInt8) (hc : c.toNat < 128) (w : World) (hs : s.size ≤ 9223372036854775807) :
    Calls Tryd.prog 90 #[.string s, .string ⟨#[c]⟩] w fun e w' => e = .returned (.string ⟨(Lib.trimRightB s.data.toList c).toArray⟩) ∧ w' = w := Any.strings_TrimRight_one Tryd.lays162 s c hc w hs
def Tryd.lays137_ren : Go.Shelf.Ren := ⟨fun | 137 => 94 | 217 => 128 | 266 => 153 | n => n, fun | 9 => 9 | 5 => 5 | 3 => 3 | n => n, fun | n => n⟩
theorem Tryd.lays137 : Go.Proofs.Lays.n137 Tryd.prog Tryd.lays137_ren := {
  mixed := by kernel_rfl
  f137 := Tryd.func94.trans (congrArg some (by kernel_rfl))
  f217 := Tryd.func128.trans (congrArg some (by kernel_rfl))
  f266 := Tryd.func153.trans (congrArg some (by kernel_rfl))
  t3 := Tryd.underlying3
  a3 := Tryd.isAgg3
  z3 := Tryd.sizeOf3
  v3 := Tryd.zeroValue3
  t5 := Tryd.underlying5
  a5 := Tryd.isAgg5
  z5 := Tryd.sizeOf5
  v5 := Tryd.zeroValue5
  t9 := Tryd.underlying9
  a9 := Tryd.isAgg9
  z9 := Tryd.sizeOf9
  v9 := Tryd.zeroValue9 }
open Go.RowKit in
/-- strings.IndexByte: "IndexByte returns the index of the first instance of c in s, or -1 if c is not present in s.": IT RETURNS 'Lib.indexByte s c'; the world is as it was. (LAID: no walk: one application.) -/
theorem Tryd.strings_IndexByte (s : ByteArray) (c : Int) (w : World) :
    Calls Tryd.prog 94 #[.string s, .int .u8 c] w fun e w' => e = .returned (.int .i64 (Lib.indexByte s.data.toList c.toNat.toUInt8)) ∧ w' = w := Any.strings_IndexByte Tryd.lays137 s c w
def Tryd.lays121_ren : Go.Shelf.Ren := ⟨fun | 121 => 64 | 214 => 105 | n => n, fun | 4 => 4 | 9 => 9 | n => n, fun | n => n⟩
theorem Tryd.lays121 : Go.Proofs.Lays.n121 Tryd.prog Tryd.lays121_ren := {
  mixed := by kernel_rfl
  f121 := Tryd.func64.trans (congrArg some (by kernel_rfl))
  f214 := Tryd.func105.trans (congrArg some (by kernel_rfl))
  t4 := Tryd.underlying4
  a4 := Tryd.isAgg4
  z4 := Tryd.sizeOf4
  v4 := Tryd.zeroValue4
  t9 := Tryd.underlying9
  a9 := Tryd.isAgg9
  z9 := Tryd.sizeOf9
  v9 := Tryd.zeroValue9 }
open Go.RowKit in
/-- strconv.FormatBool: "FormatBool returns "true" or "false" according to the value of b.": IT RETURNS 'Lib.formatBool b'; the world is as it was. (LAID: no walk: one application.) -/
theorem Tryd.strconv_FormatBool (b : Bool) (w : World) :
    Calls Tryd.prog 64 #[.bool b] w fun e w' => e = .returned (.string ⟨(Lib.formatBool b).toArray⟩) ∧ w' = w := Any.strconv_FormatBool Tryd.lays121 b w
def Tryd.lays129_ren : Go.Shelf.Ren := ⟨fun | 129 => 106 | n => n, fun | 53 => 22 | 3 => 3 | 4 => 4 | 46 => 109 | 5 => 5 | 9 => 9 | n => n, fun | n => n⟩
theorem Tryd.lays129 : Go.Proofs.Lays.n129 Tryd.prog Tryd.lays129_ren := {
  mixed := by kernel_rfl
  f129 := Tryd.func106.trans (congrArg some (by kernel_rfl))
  t3 := Tryd.underlying3
  a3 := Tryd.isAgg3
  z3 := Tryd.sizeOf3
  v3 := Tryd.zeroValue3
  t4 := Tryd.underlying4
  a4 := Tryd.isAgg4
  z4 := Tryd.sizeOf4
  v4 := Tryd.zeroValue4
  t5 := Tryd.underlying5
  a5 := Tryd.isAgg5
  z5 := Tryd.sizeOf5
  v5 := Tryd.zeroValue5
  t9 := Tryd.underlying9
  a9 := Tryd.isAgg9
  z9 := Tryd.sizeOf9
  v9 := Tryd.zeroValue9
  t46 := Tryd.underlying109
  a46 := Tryd.isAgg109
  z46 := Tryd.sizeOf109
  v46 := Tryd.zeroValue109
  t53 := Tryd.underlying22
  a53 := Tryd.isAgg22
  z53 := Tryd.sizeOf22
  v53 := Tryd.zeroValue22 }
/-- bits.Len64: "Len64 returns the minimum number of bits required to represent x; the result is 0 for x == 0.": IT RETURNS 'Lib.bitLen x'; the world is as it was. ('h0', 'h1': x is a uint64.) (LAID: no walk: one application.) -/
theorem Tryd.bits_Len64 (x : Int) (w : World) (h0 : 0 ≤ x) (h1 : x ≤ 18446744073709551615) :
    Calls Tryd.prog 106 #[.int .u64 x] w fun e w' => e = .returned (.int .i64 (Lib.bitLen x.toNat)) ∧ w' = w := Any.bits_Len64 Tryd.lays129 x w h0 h1
def Tryd.lays283_ren : Go.Shelf.Ren := ⟨fun | 283 => 137 | n => n, fun | 3 => 3 | 9 => 9 | 4 => 4 | n => n, fun | n => n⟩
theorem Tryd.lays283 : Go.Proofs.Lays.n283 Tryd.prog Tryd.lays283_ren := {
  mixed := by kernel_rfl
  f283 := Tryd.func137.trans (congrArg some (by kernel_rfl))
  t3 := Tryd.underlying3
  a3 := Tryd.isAgg3
  z3 := Tryd.sizeOf3
  v3 := Tryd.zeroValue3
  t4 := Tryd.underlying4
  a4 := Tryd.isAgg4
  z4 := Tryd.sizeOf4
  v4 := Tryd.zeroValue4
  t9 := Tryd.underlying9
  a9 := Tryd.isAgg9
  z9 := Tryd.sizeOf9
  v9 := Tryd.zeroValue9 }
open Go.Lib in
/-- internal/strconv.small: "small returns the string for an i with 0 <= i < nSmalls.": i's decimal numeral. The world is as it was. (LAID: no walk: one application.) -/
theorem Tryd.internal_strconv_small (i : Nat) (h : i < 100) (w : World) :
    Calls Tryd.prog 137 #[.int .i64 i] w fun e w' => e = .returned (.string ⟨(Lib.decDigits i).toArray⟩) ∧ w' = w := Any.internal_strconv_small Tryd.lays283 i h w
def Tryd.laysM284_ren : Go.Shelf.Ren := ⟨fun | 284 => 138 | 129 => 106 | 317 => 158 | 318 => 159 | n => n, fun | 53 => 22 | 3 => 3 | 212 => 174 | 0 => 0 | 4 => 4 | 46 => 109 | 5 => 5 | 9 => 9 | n => n, fun | 17 => 2 | n => n⟩
theorem Tryd.laysM284 : Go.Proofs.LaysM.n284 Tryd.prog Tryd.laysM284_ren := {
  mixed := by kernel_rfl
  f129 := Tryd.func106.trans (congrArg some (by kernel_rfl))
  f284 := Tryd.func138.trans (congrArg some (by kernel_rfl))
  f317 := Tryd.func158.trans (congrArg some (by kernel_rfl))
  f318 := Tryd.func159.trans (congrArg some (by kernel_rfl))
  t0 := Tryd.underlying0
  a0 := Tryd.isAgg0
  z0 := Tryd.sizeOf0
  v0 := Tryd.zeroValue0
  t3 := Tryd.underlying3
  a3 := Tryd.isAgg3
  z3 := Tryd.sizeOf3
  v3 := Tryd.zeroValue3
  t4 := Tryd.underlying4
  a4 := Tryd.isAgg4
  z4 := Tryd.sizeOf4
  v4 := Tryd.zeroValue4
  t5 := Tryd.underlying5
  a5 := Tryd.isAgg5
  z5 := Tryd.sizeOf5
  v5 := Tryd.zeroValue5
  t9 := Tryd.underlying9
  a9 := Tryd.isAgg9
  z9 := Tryd.sizeOf9
  v9 := Tryd.zeroValue9
  t46 := Tryd.underlying109
  a46 := Tryd.isAgg109
  z46 := Tryd.sizeOf109
  v46 := Tryd.zeroValue109
  t53 := Tryd.underlying22
  a53 := Tryd.isAgg22
  z53 := Tryd.sizeOf22
  v53 := Tryd.zeroValue22
  t212 := Tryd.underlying174
  a212 := Tryd.isAgg174
  z212 := Tryd.sizeOf174
  v212 := Tryd.zeroValue174
  g17 := by kernel_rfl
  i0 := by kernel_rfl
  i3 := by kernel_rfl
  i4 := by kernel_rfl
  i5 := by kernel_rfl
  i9 := by kernel_rfl
  i46 := by kernel_rfl
  i53 := by kernel_rfl
  i212 := by kernel_rfl
  m17 := by kernel_rfl }
open Go.Lib in
/-- internal/strconv.numDigits, at a d that is not 0: THE NUMBER OF d's DECIMAL DIGITS. The world is as it was. (LAID: no walk: one application.) -/
theorem Tryd.internal_strconv_numDigits (u : Nat) (h1 : 1 ≤ u) (h2 : u < 18446744073709551616) (w : World) (htab : Lib.TabIs Tryd.prog w "internal/strconv.uint64pow10" .u64 Lib.pow10Tab) :
    Calls Tryd.prog 138 #[.int .u64 u] w fun e w' => e = .returned (.int .i64 (Lib.nDigits u)) ∧ w' = w := Any.internal_strconv_numDigits Tryd.laysM284 u h1 h2 w htab
def Tryd.lays285_ren : Go.Shelf.Ren := ⟨fun | 285 => 139 | n => n, fun | 37 => 89 | 53 => 22 | 3 => 3 | 4 => 4 | 51 => 113 | 9 => 9 | 5 => 5 | 0 => 0 | n => n, fun | n => n⟩
theorem Tryd.lays285 : Go.Proofs.Lays.n285 Tryd.prog Tryd.lays285_ren := {
  mixed := by kernel_rfl
  f285 := Tryd.func139.trans (congrArg some (by kernel_rfl))
  t0 := Tryd.underlying0
  a0 := Tryd.isAgg0
  z0 := Tryd.sizeOf0
  v0 := Tryd.zeroValue0
  t3 := Tryd.underlying3
  a3 := Tryd.isAgg3
  z3 := Tryd.sizeOf3
  v3 := Tryd.zeroValue3
  t4 := Tryd.underlying4
  a4 := Tryd.isAgg4
  z4 := Tryd.sizeOf4
  v4 := Tryd.zeroValue4
  t5 := Tryd.underlying5
  a5 := Tryd.isAgg5
  z5 := Tryd.sizeOf5
  v5 := Tryd.zeroValue5
  t9 := Tryd.underlying9
  a9 := Tryd.isAgg9
  z9 := Tryd.sizeOf9
  v9 := Tryd.zeroValue9
  t37 := Tryd.underlying89
  a37 := Tryd.isAgg89
  z37 := Tryd.sizeOf89
  v37 := Tryd.zeroValue89
  t51 := Tryd.underlying113
  a51 := Tryd.isAgg113
  z51 := Tryd.sizeOf113
  v51 := Tryd.zeroValue113
  t53 := Tryd.underlying22
  a53 := Tryd.isAgg22
  z53 := Tryd.sizeOf22
  v53 := Tryd.zeroValue22 }
open Go.RowKit Go.Sort Go.Lib in
/-- internal/strconv.formatBase10: "formatBase10 formats the decimal representation of u into a. The caller is responsible for ensuring that a is big enough to hold u. If a is too big, leading zeros will be filled in as needed.": THE ROW HOLDS u's DIGITS ('FmtInv .. 0 ..': every place t holds 'dg u (len - 1 - t)'); all else is as it was but for the count of draws. (LAID: no walk: one application.) -/
theorem Tryd.internal_strconv_formatBase10 (blk off cap : Nat) (u : Nat) (d : Array UInt8) (w : World) (hH : Holds (fun (b : UInt8) => Value.int .u8 (b.toNat : Int)) w blk off d) (hu : u < 10 ^ d.size) (hu64 : u < 18446744073709551616) (hsz : d.size < 4611686018427387904) :
    Calls Tryd.prog 139 #[.slice (some ⟨blk, off, none⟩) d.size cap, .int .u64 u] w fun e w' =>
      e = .returned (.tuple #[]) ∧ ∃ (n v' : Nat) (dk : Array UInt8), w' = (putRow (fun (b : UInt8) => Value.int .u8 (b.toNat : Int)) w blk off dk).drewN n ∧ FmtInv d.size u 0 v' dk := Any.internal_strconv_formatBase10 Tryd.lays285 blk off cap u d w hH hu hu64 hsz
def Tryd.laysM246_ren : Go.Shelf.Ren := ⟨fun | 246 => 107 | 283 => 137 | 284 => 138 | 285 => 139 | 286 => 140 | 129 => 106 | 317 => 158 | 318 => 159 | 319 => 160 | 320 => 161 | 337 => 167 | 338 => 168 | n => n, fun | 2 => 2 | 3 => 3 | 9 => 9 | 4 => 4 | 171 => 155 | 0 => 0 | 53 => 22 | 37 => 89 | 5 => 5 | 173 => 157 | 212 => 174 | 51 => 113 | 20 => 20 | 213 => 175 | 46 => 109 | 232 => 179 | 233 => 180 | n => n, fun | 17 => 2 | 18 => 4 | 19 => 5 | n => n⟩
theorem Tryd.laysM246 : Go.Proofs.LaysM.n246 Tryd.prog Tryd.laysM246_ren := {
  mixed := by kernel_rfl
  f129 := Tryd.func106.trans (congrArg some (by kernel_rfl))
  f246 := Tryd.func107.trans (congrArg some (by kernel_rfl))
  f283 := Tryd.func137.trans (congrArg some (by kernel_rfl))
  f284 := Tryd.func138.trans (congrArg some (by kernel_rfl))
  f285 := Tryd.func139.trans (congrArg some (by kernel_rfl))
  f286 := Tryd.func140.trans (congrArg some (by kernel_rfl))
  f317 := Tryd.func158.trans (congrArg some (by kernel_rfl))
  f318 := Tryd.func159.trans (congrArg some (by kernel_rfl))
  f319 := Tryd.func160.trans (congrArg some (by kernel_rfl))
  f320 := Tryd.func161.trans (congrArg some (by kernel_rfl))
  f337 := Tryd.func167.trans (congrArg some (by kernel_rfl))
  f338 := Tryd.func168.trans (congrArg some (by kernel_rfl))
  t0 := Tryd.underlying0
  a0 := Tryd.isAgg0
  z0 := Tryd.sizeOf0
  v0 := Tryd.zeroValue0
  t2 := Tryd.underlying2
  a2 := Tryd.isAgg2
  z2 := Tryd.sizeOf2
  v2 := Tryd.zeroValue2
  t3 := Tryd.underlying3
  a3 := Tryd.isAgg3
  z3 := Tryd.sizeOf3
  v3 := Tryd.zeroValue3
  t4 := Tryd.underlying4
  a4 := Tryd.isAgg4
  z4 := Tryd.sizeOf4
  v4 := Tryd.zeroValue4
  t5 := Tryd.underlying5
  a5 := Tryd.isAgg5
  z5 := Tryd.sizeOf5
  v5 := Tryd.zeroValue5
  t9 := Tryd.underlying9
  a9 := Tryd.isAgg9
  z9 := Tryd.sizeOf9
  v9 := Tryd.zeroValue9
  t20 := Tryd.underlying20
  a20 := Tryd.isAgg20
  z20 := Tryd.sizeOf20
  v20 := Tryd.zeroValue20
  t37 := Tryd.underlying89
  a37 := Tryd.isAgg89
  z37 := Tryd.sizeOf89
  v37 := Tryd.zeroValue89
  t46 := Tryd.underlying109
  a46 := Tryd.isAgg109
  z46 := Tryd.sizeOf109
  v46 := Tryd.zeroValue109
  t51 := Tryd.underlying113
  a51 := Tryd.isAgg113
  z51 := Tryd.sizeOf113
  v51 := Tryd.zeroValue113
  t53 := Tryd.underlying22
  a53 := Tryd.isAgg22
  z53 := Tryd.sizeOf22
  v53 := Tryd.zeroValue22
  t171 := Tryd.underlying155
  a171 := Tryd.isAgg155
  z171 := Tryd.sizeOf155
  v171 := Tryd.zeroValue155
  t173 := Tryd.underlying157
  a173 := Tryd.isAgg157
  z173 := Tryd.sizeOf157
  v173 := Tryd.zeroValue157
  t212 := Tryd.underlying174
  a212 := Tryd.isAgg174
  z212 := Tryd.sizeOf174
  v212 := Tryd.zeroValue174
  t213 := Tryd.underlying175
  a213 := Tryd.isAgg175
  z213 := Tryd.sizeOf175
  t232 := Tryd.underlying179
  a232 := Tryd.isAgg179
  z232 := Tryd.sizeOf179
  v232 := Tryd.zeroValue179
  t233 := Tryd.underlying180
  a233 := Tryd.isAgg180
  z233 := Tryd.sizeOf180
  v233 := Tryd.zeroValue180
  g17 := by kernel_rfl
  g18 := by kernel_rfl
  g19 := by kernel_rfl
  i0 := by kernel_rfl
  i2 := by kernel_rfl
  i3 := by kernel_rfl
  i4 := by kernel_rfl
  i5 := by kernel_rfl
  i9 := by kernel_rfl
  i20 := by kernel_rfl
  i37 := by kernel_rfl
  i46 := by kernel_rfl
  i51 := by kernel_rfl
  i53 := by kernel_rfl
  i171 := by kernel_rfl
  i173 := by kernel_rfl
  i212 := by kernel_rfl
  i232 := by kernel_rfl
  i233 := by kernel_rfl
  m17 := by kernel_rfl
  m18 := by kernel_rfl
  m19 := by kernel_rfl }
open Go.RowKit Go.Sort Go.Lib in
/-- internal/strconv.FormatInt: "FormatInt returns the string representation of i in the given base": AT BASE 10: i's decimal numeral, for every int64. The world behind the call: the world before it, new blocks behind the heap, draws. (LAID: no walk: one application.) -/
theorem Tryd.internal_strconv_FormatInt_10 (n : Int) (h0 : -9223372036854775808 ≤ n) (h1 : n ≤ 9223372036854775807) (w : World) (htab : Lib.TabIs Tryd.prog w "internal/strconv.uint64pow10" .u64 Lib.pow10Tab) :
    Calls Tryd.prog 107 #[.int .i64 n, .int .i64 10] w fun e w' => e = .returned (.string ⟨(Lib.itoa n).toArray⟩) ∧ ∃ k os, w' = grow (w.drewN k) os := Any.internal_strconv_FormatInt_10 Tryd.laysM246 n h0 h1 w htab
def Tryd.laysM171_ren : Go.Shelf.Ren := ⟨fun | 171 => 50 | 243 => 89 | 246 => 107 | 283 => 137 | 284 => 138 | 285 => 139 | 286 => 140 | 129 => 106 | 317 => 158 | 318 => 159 | 319 => 160 | 320 => 161 | 337 => 167 | 338 => 168 | n => n, fun | 3 => 3 | 9 => 9 | 2 => 2 | 4 => 4 | 171 => 155 | 0 => 0 | 53 => 22 | 37 => 89 | 5 => 5 | 173 => 157 | 212 => 174 | 51 => 113 | 20 => 20 | 213 => 175 | 46 => 109 | 232 => 179 | 233 => 180 | n => n, fun | 17 => 2 | 18 => 4 | 19 => 5 | n => n⟩
theorem Tryd.laysM171 : Go.Proofs.LaysM.n171 Tryd.prog Tryd.laysM171_ren := {
  mixed := by kernel_rfl
  f129 := Tryd.func106.trans (congrArg some (by kernel_rfl))
  f171 := Tryd.func50.trans (congrArg some (by kernel_rfl))
  f243 := Tryd.func89.trans (congrArg some (by kernel_rfl))
  f246 := Tryd.func107.trans (congrArg some (by kernel_rfl))
  f283 := Tryd.func137.trans (congrArg some (by kernel_rfl))
  f284 := Tryd.func138.trans (congrArg some (by kernel_rfl))
  f285 := Tryd.func139.trans (congrArg some (by kernel_rfl))
  f286 := Tryd.func140.trans (congrArg some (by kernel_rfl))
  f317 := Tryd.func158.trans (congrArg some (by kernel_rfl))
  f318 := Tryd.func159.trans (congrArg some (by kernel_rfl))
  f319 := Tryd.func160.trans (congrArg some (by kernel_rfl))
  f320 := Tryd.func161.trans (congrArg some (by kernel_rfl))
  f337 := Tryd.func167.trans (congrArg some (by kernel_rfl))
  f338 := Tryd.func168.trans (congrArg some (by kernel_rfl))
  t0 := Tryd.underlying0
  a0 := Tryd.isAgg0
  z0 := Tryd.sizeOf0
  v0 := Tryd.zeroValue0
  t2 := Tryd.underlying2
  a2 := Tryd.isAgg2
  z2 := Tryd.sizeOf2
  v2 := Tryd.zeroValue2
  t3 := Tryd.underlying3
  a3 := Tryd.isAgg3
  z3 := Tryd.sizeOf3
  v3 := Tryd.zeroValue3
  t4 := Tryd.underlying4
  a4 := Tryd.isAgg4
  z4 := Tryd.sizeOf4
  v4 := Tryd.zeroValue4
  t5 := Tryd.underlying5
  a5 := Tryd.isAgg5
  z5 := Tryd.sizeOf5
  v5 := Tryd.zeroValue5
  t9 := Tryd.underlying9
  a9 := Tryd.isAgg9
  z9 := Tryd.sizeOf9
  v9 := Tryd.zeroValue9
  t20 := Tryd.underlying20
  a20 := Tryd.isAgg20
  z20 := Tryd.sizeOf20
  v20 := Tryd.zeroValue20
  t37 := Tryd.underlying89
  a37 := Tryd.isAgg89
  z37 := Tryd.sizeOf89
  v37 := Tryd.zeroValue89
  t46 := Tryd.underlying109
  a46 := Tryd.isAgg109
  z46 := Tryd.sizeOf109
  v46 := Tryd.zeroValue109
  t51 := Tryd.underlying113
  a51 := Tryd.isAgg113
  z51 := Tryd.sizeOf113
  v51 := Tryd.zeroValue113
  t53 := Tryd.underlying22
  a53 := Tryd.isAgg22
  z53 := Tryd.sizeOf22
  v53 := Tryd.zeroValue22
  t171 := Tryd.underlying155
  a171 := Tryd.isAgg155
  z171 := Tryd.sizeOf155
  v171 := Tryd.zeroValue155
  t173 := Tryd.underlying157
  a173 := Tryd.isAgg157
  z173 := Tryd.sizeOf157
  v173 := Tryd.zeroValue157
  t212 := Tryd.underlying174
  a212 := Tryd.isAgg174
  z212 := Tryd.sizeOf174
  v212 := Tryd.zeroValue174
  t213 := Tryd.underlying175
  a213 := Tryd.isAgg175
  z213 := Tryd.sizeOf175
  t232 := Tryd.underlying179
  a232 := Tryd.isAgg179
  z232 := Tryd.sizeOf179
  v232 := Tryd.zeroValue179
  t233 := Tryd.underlying180
  a233 := Tryd.isAgg180
  z233 := Tryd.sizeOf180
  v233 := Tryd.zeroValue180
  g17 := by kernel_rfl
  g18 := by kernel_rfl
  g19 := by kernel_rfl
  i0 := by kernel_rfl
  i2 := by kernel_rfl
  i3 := by kernel_rfl
  i4 := by kernel_rfl
  i5 := by kernel_rfl
  i9 := by kernel_rfl
  i20 := by kernel_rfl
  i37 := by kernel_rfl
  i46 := by kernel_rfl
  i51 := by kernel_rfl
  i53 := by kernel_rfl
  i171 := by kernel_rfl
  i173 := by kernel_rfl
  i212 := by kernel_rfl
  i232 := by kernel_rfl
  i233 := by kernel_rfl
  m17 := by kernel_rfl
  m18 := by kernel_rfl
  m19 := by kernel_rfl }
open Go.RowKit Go.Sort Go.Lib in
/-- strconv.Itoa: "Itoa is equivalent to FormatInt(int64(i), 10).": i's DECIMAL NUMERAL ('Lib.itoa': a '-' where i is negative, then the digits), FOR EVERY int. The world behind the call: the world before it, new blocks behind the heap (the library's 'var a [24]byte'), draws. (LAID: no walk: one application.) -/
theorem Tryd.strconv_Itoa (n : Int) (h0 : -9223372036854775808 ≤ n) (h1 : n ≤ 9223372036854775807) (w : World) (htab : Lib.TabIs Tryd.prog w "internal/strconv.uint64pow10" .u64 Lib.pow10Tab) :
    Calls Tryd.prog 50 #[.int .i64 n] w fun e w' => e = .returned (.string ⟨(Lib.itoa n).toArray⟩) ∧ ∃ k os, w' = grow (w.drewN k) os := Any.strconv_Itoa Tryd.laysM171 n h0 h1 w htab
def Tryd.lays150_ren : Go.Shelf.Ren := ⟨fun | 150 => 55 | 153 => 97 | 152 => 129 | 226 => 130 | 227 => 121 | 228 => 131 | 137 => 94 | 119 => 154 | 224 => 155 | 225 => 156 | 217 => 128 | 266 => 153 | n => n, fun | 9 => 9 | 4 => 4 | 3 => 3 | 5 => 5 | 21 => 21 | 117 => 140 | 116 => 139 | 0 => 0 | 46 => 109 | 124 => 143 | n => n, fun | n => n⟩
theorem Tryd.lays150 : Go.Proofs.Lays.n150 Tryd.prog Tryd.lays150_ren := {
  mixed := by kernel_rfl
  f119 := Tryd.func154.trans (congrArg some (by kernel_rfl))
  f137 := Tryd.func94.trans (congrArg some (by kernel_rfl))
  f150 := Tryd.func55.trans (congrArg some (by kernel_rfl))
  f152 := Tryd.func129.trans (congrArg some (by kernel_rfl))
  f153 := Tryd.func97.trans (congrArg some (by kernel_rfl))
  f217 := Tryd.func128.trans (congrArg some (by kernel_rfl))
  f224 := Tryd.func155.trans (congrArg some (by kernel_rfl))
  f225 := Tryd.func156.trans (congrArg some (by kernel_rfl))
  f226 := Tryd.func130.trans (congrArg some (by kernel_rfl))
  f227 := Tryd.func121.trans (congrArg some (by kernel_rfl))
  f228 := Tryd.func131.trans (congrArg some (by kernel_rfl))
  f266 := Tryd.func153.trans (congrArg some (by kernel_rfl))
  t0 := Tryd.underlying0
  a0 := Tryd.isAgg0
  z0 := Tryd.sizeOf0
  v0 := Tryd.zeroValue0
  t3 := Tryd.underlying3
  a3 := Tryd.isAgg3
  z3 := Tryd.sizeOf3
  v3 := Tryd.zeroValue3
  t4 := Tryd.underlying4
  a4 := Tryd.isAgg4
  z4 := Tryd.sizeOf4
  v4 := Tryd.zeroValue4
  t5 := Tryd.underlying5
  a5 := Tryd.isAgg5
  z5 := Tryd.sizeOf5
  v5 := Tryd.zeroValue5
  t9 := Tryd.underlying9
  a9 := Tryd.isAgg9
  z9 := Tryd.sizeOf9
  v9 := Tryd.zeroValue9
  t21 := Tryd.underlying21
  a21 := Tryd.isAgg21
  z21 := Tryd.sizeOf21
  v21 := Tryd.zeroValue21
  t46 := Tryd.underlying109
  a46 := Tryd.isAgg109
  z46 := Tryd.sizeOf109
  v46 := Tryd.zeroValue109
  t116 := Tryd.underlying139
  a116 := Tryd.isAgg139
  z116 := Tryd.sizeOf139
  t117 := Tryd.underlying140
  a117 := Tryd.isAgg140
  z117 := Tryd.sizeOf140
  v117 := Tryd.zeroValue140
  t124 := Tryd.underlying143
  a124 := Tryd.isAgg143
  z124 := Tryd.sizeOf143
  v124 := Tryd.zeroValue143 }
open Go.RowKit Go.Lib in
theorem Tryd.strings_ContainsAny_laid (s chars : ByteArray) (w : World) (hs : s.size < 4294967281) (hcs : chars.size < 4294967281) (has : ∀ (j : Nat) b, s.data.toList[j]? = some b → b.toNat < 128) (hac : ∀ (j : Nat) b, chars.data.toList[j]? = some b → b.toNat < 128) :
    Calls Tryd.prog 55 #[.string s, .string chars] w fun e w' => e = .returned (.bool (Lib.containsAny s.data.toList chars.data.toList)) ∧ Below w.heap.size w w' := Any.strings_ContainsAny_laid Tryd.lays150 (by kernel_rfl) s chars w hs hcs has hac
def Tryd.lays105_ren : Go.Shelf.Ren := ⟨fun | 105 => 83 | 212 => 115 | 99 => 116 | 165 => 112 | 166 => 69 | 170 => 117 | 169 => 70 | 263 => 147 | 264 => 148 | 206 => 149 | 240 => 108 | 241 => 146 | 276 => 141 | 277 => 164 | n => n, fun | 9 => 9 | 3 => 3 | 4 => 4 | 20 => 20 | 0 => 0 | 46 => 109 | 109 => 133 | 5 => 5 | 72 => 91 | 76 => 96 | 51 => 113 | 146 => 163 | 53 => 22 | 148 => 165 | 70 => 88 | 37 => 89 | 75 => 93 | 127 => 130 | 164 => 159 | 80 => 98 | n => n, fun | n => n⟩
theorem Tryd.lays105 : Go.Proofs.Lays.n105 Tryd.prog Tryd.lays105_ren := {
  mixed := by kernel_rfl
  f99 := Tryd.func116.trans (congrArg some (by kernel_rfl))
  f105 := Tryd.func83.trans (congrArg some (by kernel_rfl))
  f165 := Tryd.func112.trans (congrArg some (by kernel_rfl))
  f166 := Tryd.func69.trans (congrArg some (by kernel_rfl))
  f169 := Tryd.func70.trans (congrArg some (by kernel_rfl))
  f170 := Tryd.func117.trans (congrArg some (by kernel_rfl))
  f206 := Tryd.func149.trans (congrArg some (by kernel_rfl))
  f212 := Tryd.func115.trans (congrArg some (by kernel_rfl))
  f240 := Tryd.func108.trans (congrArg some (by kernel_rfl))
  f241 := Tryd.func146.trans (congrArg some (by kernel_rfl))
  f263 := Tryd.func147.trans (congrArg some (by kernel_rfl))
  f264 := Tryd.func148.trans (congrArg some (by kernel_rfl))
  f276 := Tryd.func141.trans (congrArg some (by kernel_rfl))
  f277 := Tryd.func164.trans (congrArg some (by kernel_rfl))
  t0 := Tryd.underlying0
  a0 := Tryd.isAgg0
  z0 := Tryd.sizeOf0
  v0 := Tryd.zeroValue0
  t3 := Tryd.underlying3
  a3 := Tryd.isAgg3
  z3 := Tryd.sizeOf3
  v3 := Tryd.zeroValue3
  t4 := Tryd.underlying4
  a4 := Tryd.isAgg4
  z4 := Tryd.sizeOf4
  v4 := Tryd.zeroValue4
  t5 := Tryd.underlying5
  a5 := Tryd.isAgg5
  z5 := Tryd.sizeOf5
  v5 := Tryd.zeroValue5
  t9 := Tryd.underlying9
  a9 := Tryd.isAgg9
  z9 := Tryd.sizeOf9
  v9 := Tryd.zeroValue9
  t20 := Tryd.underlying20
  a20 := Tryd.isAgg20
  z20 := Tryd.sizeOf20
  v20 := Tryd.zeroValue20
  t37 := Tryd.underlying89
  a37 := Tryd.isAgg89
  z37 := Tryd.sizeOf89
  v37 := Tryd.zeroValue89
  t46 := Tryd.underlying109
  a46 := Tryd.isAgg109
  z46 := Tryd.sizeOf109
  v46 := Tryd.zeroValue109
  t51 := Tryd.underlying113
  a51 := Tryd.isAgg113
  z51 := Tryd.sizeOf113
  v51 := Tryd.zeroValue113
  t53 := Tryd.underlying22
  a53 := Tryd.isAgg22
  z53 := Tryd.sizeOf22
  v53 := Tryd.zeroValue22
  t70 := Tryd.underlying88
  a70 := Tryd.isAgg88
  z70 := Tryd.sizeOf88
  v70 := Tryd.zeroValue88
  t72 := Tryd.underlying91
  a72 := Tryd.isAgg91
  z72 := Tryd.sizeOf91
  v72 := Tryd.zeroValue91
  t75 := Tryd.underlying93
  a75 := Tryd.isAgg93
  z75 := Tryd.sizeOf93
  v75 := Tryd.zeroValue93
  t76 := Tryd.underlying96
  a76 := Tryd.isAgg96
  z76 := Tryd.sizeOf96
  v76 := Tryd.zeroValue96
  t109 := Tryd.underlying133
  a109 := Tryd.isAgg133
  z109 := Tryd.sizeOf133
  v109 := Tryd.zeroValue133
  t127 := Tryd.underlying130
  a127 := Tryd.isAgg130
  z127 := Tryd.sizeOf130
  v127 := Tryd.zeroValue130
  t146 := Tryd.underlying163
  a146 := Tryd.isAgg163
  z146 := Tryd.sizeOf163
  v146 := Tryd.zeroValue163
  t148 := Tryd.underlying165
  a148 := Tryd.isAgg165
  z148 := Tryd.sizeOf165
  v148 := Tryd.zeroValue165
  t164 := Tryd.underlying159
  a164 := Tryd.isAgg159
  z164 := Tryd.sizeOf159
  v164 := Tryd.zeroValue159 }
theorem Tryd.Builder_Extra_105 : Builder.Extra Tryd.prog Tryd.lays105_ren := {
  sizeBuilder := by kernel_rfl
  liesBuilder := by kernel_rfl
  t5 := Tryd.underlying5
  a5 := Tryd.isAgg5
  z5 := Tryd.sizeOf5
  v5 := Tryd.zeroValue5
  infoByte := by kernel_rfl
  cellsByte := by kernel_rfl
  sizeByte := by kernel_rfl
  neB5 := by decide }
open Go.RowKit Go.Lib in
/-- **strings.Repeat: count ≥ 0, the result within one allocation: count copies of s.** (LAID: no walk: one application.) -/
theorem Tryd.strings_Repeat (s : ByteArray) (c : Nat) (w : World) (hc : c ≤ 9223372036854775807) (hlen : s.size * c ≤ 140737488355328) :
    Calls Tryd.prog 83 #[.string s, .int .i64 c] w fun e w' => e = .returned (.string ⟨(Lib.repeatL s.data.toList c).toArray⟩) ∧ Below w.heap.size w w' := Any.strings_Repeat Tryd.lays105 Tryd.Builder_Extra_105 s c w hc hlen
end Go.Proofs

/- LIBS: contracts of the library's functions (the kit's, laid at this seat), as Flow's. -/
namespace Go.Proofs.YteidmimpkipcfaaDoor.Flow
open Go

theorem two_of {vs : Array Value} (h : vs.size = 2) : vs = #[vs.getD 0 undef, vs.getD 1 undef] := by
  obtain ⟨l⟩ := vs
  match l, h with
  | [a, b], _ => rfl
theorem one_of {vs : Array Value} (h : vs.size = 1) : vs = #[vs.getD 0 undef] := by
  obtain ⟨l⟩ := vs
  match l, h with
  | [a], _ => rfl

/-- A call that leaves the world as it was. -/
theorem hist_same (w : World) (S : Cells) (hv : ∀ b o, S b o → b < w.heap.size) (hg : GOk S w) : Hist { w0 := w, S0 := S, L := fun _ => False } w S := hist_start w S _ hv hg

theorem hist_below {w w' : World} {S : Cells} (hv : ∀ b o, S b o → b < w.heap.size) (hg : GOk S w) (h : RowKit.Below w.heap.size w w') : Hist { w0 := w, S0 := S, L := fun _ => False } w' S where
  os := h.os
  tape := h.tape
  output := h.output
  size := h.size
  block := fun k hk _ => h.block k hk
  sub := fun _ _ h => h
  cell := fun b o hb => by
    have := h.block b (hv b o hb)
    simp [World.cell?, this]
  new := fun _ _ h => .inl h
  valid := fun b o hb => Nat.lt_of_lt_of_le (hv b o hb) h.size
  glob := hg.mono (fun _ _ h => h) fun b o hb => by
    have := h.block b (hv b o hb)
    simp [World.cell?, this]

theorem trimRight_ctr (s : List UInt8) (c : UInt8) (hs : s.length ≤ 9223372036854775807) (hc : c.toNat < 128 := by decide) : Ctr Tryd.prog 90 [.s s, .s [c]] (.s (Lib.trimRightB s c)) := by
  intro w S vs hv hg hn hr
  have h0 := hr 0 (by simp)
  have h1 := hr 1 (by simp)
  rw [two_of hn]
  generalize vs.getD 0 undef = v0 at *
  generalize vs.getD 1 undef = v1 at *
  cases h0
  cases h1
  refine (Tryd.strings_TrimRight_one ⟨s.toArray⟩ c hc w (by simpa [ByteArray.size] using hs)).mono ?_
  rintro e w' ⟨rfl, rfl⟩
  exact ⟨_, S, rfl, .s _ _, hist_same _ S hv hg⟩

theorem trimLeft_ctr (s : List UInt8) (c : UInt8) (hc : c.toNat < 128 := by decide) : Ctr Tryd.prog 91 [.s s, .s [c]] (.s (Lib.trimLeftB s c)) := by
  intro w S vs hv hg hn hr
  have h0 := hr 0 (by simp)
  have h1 := hr 1 (by simp)
  rw [two_of hn]
  generalize vs.getD 0 undef = v0 at *
  generalize vs.getD 1 undef = v1 at *
  cases h0
  cases h1
  refine (Tryd.strings_TrimLeft_one ⟨s.toArray⟩ c hc w).mono ?_
  rintro e w' ⟨rfl, rfl⟩
  exact ⟨_, S, rfl, .s _ _, hist_same _ S hv hg⟩

theorem indexByte_ctr (s : List UInt8) (c : Int) : Ctr Tryd.prog 94 [.s s, .i .u8 c] (.i .i64 (Lib.indexByte s c.toNat.toUInt8)) := by
  intro w S vs hv hg hn hr
  have h0 := hr 0 (by simp)
  have h1 := hr 1 (by simp)
  rw [two_of hn]
  generalize vs.getD 0 undef = v0 at *
  generalize vs.getD 1 undef = v1 at *
  cases h0
  cases h1
  refine (Tryd.strings_IndexByte ⟨s.toArray⟩ c w).mono ?_
  rintro e w' ⟨rfl, rfl⟩
  exact ⟨_, S, rfl, .i _ _ _, hist_same _ S hv hg⟩

theorem repeat_ctr (s : List UInt8) (c : Nat) (hc : c ≤ 9223372036854775807) (hlen : s.length * c ≤ 140737488355328) : Ctr Tryd.prog 83 [.s s, .i .i64 c] (.s (Lib.repeatL s c)) := by
  intro w S vs hv hg hn hr
  have h0 := hr 0 (by simp)
  have h1 := hr 1 (by simp)
  rw [two_of hn]
  generalize vs.getD 0 undef = v0 at *
  generalize vs.getD 1 undef = v1 at *
  cases h0
  cases h1
  refine (Tryd.strings_Repeat ⟨s.toArray⟩ c w hc (by simpa [ByteArray.size] using hlen)).mono ?_
  rintro e w' ⟨rfl, hb⟩
  exact ⟨_, S, rfl, .s _ _, hist_below hv hg hb⟩

theorem below_grown (w : World) (k : Nat) (os : Array Obj) : RowKit.Below w.heap.size w (Sort.grow (w.drewN k) os) where
  os := rfl
  tape := rfl
  output := rfl
  size := by show w.heap.size ≤ (w.heap ++ os).size; rw [Array.size_append]; omega
  block := fun j hj => by
    show (w.heap ++ os)[j]? = w.heap[j]?
    rw [Array.getElem?_append_left hj]

end Go.Proofs.YteidmimpkipcfaaDoor.Flow

/- DEC: both bring a decimal into its form. -/
namespace Go.Proofs.YteidmimpkipcfaaDoor.Flow
open Go

set_option maxHeartbeats 1000000 in
theorem norm_ctr (neg : Bool) (s : List UInt8) (e : Int) (hs : s.length ≤ 1099511627776) (h1 : -4611686018427387904 ≤ e) (h2 : e ≤ 4611686018427387904) :
    Ctr Tryd.prog 51 [.b neg, .s s, .i .i64 e] (.tu [dcV (normF neg s e).1, .i .i64 (normF neg s e).2]) := by
  have c1 := trimRight_ctr s 48 (by omega)
  have c2 := trimLeft_ctr (tR s) 48
  have l1 := tR_len s
  have l2 := tL_len (tR s)
  generalize hR : normF neg s e = R
  unfold normF at hR
  replace hR := fun _ : Unit => hR.symm
  change Ctr _ _ _ (.s (tR s)) at c1
  change Ctr _ _ _ (.s (tL (tR s))) at c2
  generalize tL (tR s) = d at *
  have hne : ¬ d = ({ data := #[] } : ByteArray).data.toList → ¬ d.length = 0 := fun h h2 => h (List.length_eq_zero_iff.1 h2)
  generalize tR s = r at *
  refine r_fun Tryd.func51 rfl Tryd.ntmps51 Tryd.results51 rfl rfl fun X hL hX => ?_
  repeat' (first
    | with_reducible refine t_seq ?_ | with_reducible refine t_region ?_ | with_reducible refine c_nil ?_ | with_reducible refine n_then ?_
    | with_reducible refine t_ret ?_ | with_reducible refine t_skip ?_ | with_reducible refine t_exit ?_ | with_reducible refine t_block ?_
    | with_reducible refine n_block ?_ | with_reducible refine e_then ?_ | with_reducible refine x_then ?_ | with_reducible refine x_block ?_ | with_reducible refine t_draw ?_
    | refine r_val rfl rfl True.intro ?_ | refine r_gskip rfl rfl rfl ?_ | refine r_gskip2 rfl rfl rfl ?_ | refine r_gval rfl rfl rfl rfl True.intro ?_
    | refine t_true rfl ?_ | refine t_false rfl ?_
    | ((first | refine t_cond_d rfl (fun _ => ?_) (fun _ => ?_) | refine t_cond_i rfl (fun _ => ?_) (fun _ => ?_) | refine t_cond_j rfl (fun _ => ?_) (fun _ => ?_) | refine t_cond_s rfl (fun _ => ?_) (fun _ => ?_) | refine t_cond_n rfl (fun _ => ?_) (fun _ => ?_) | refine t_cond rfl (fun _ => ?_) (fun _ => ?_) | refine c_split_d rfl rfl (fun _ => ?_) (fun _ => ?_) | refine c_split_i rfl rfl (fun _ => ?_) (fun _ => ?_) | refine c_split_j rfl rfl (fun _ => ?_) (fun _ => ?_) | refine c_split_s rfl rfl (fun _ => ?_) (fun _ => ?_) | refine c_split_n rfl rfl (fun _ => ?_) (fun _ => ?_)) <;> try (first | contradiction | (exfalso; omega)))
    | refine r_val rfl rfl (by (first | omega | exact Nat.le_of_ble_eq_true rfl | (simp only [wrap_u8, IntKind.wrap_i64, IntKind.wrap_i32, wrap_u32', wrap_u64', InI]; (repeat' refine And.intro ?_ ?_) <;> omega) | ((repeat' refine And.intro ?_ ?_) <;> first | omega | rfl | exact Nat.le_refl _ | exact Nat.le_of_ble_eq_true rfl | exact bytesF_one _) | (simp_all; done) | (simp_all; omega))) ?_ | refine r_gval rfl rfl rfl rfl (by (first | omega | exact Nat.le_of_ble_eq_true rfl | (simp only [wrap_u8, IntKind.wrap_i64, IntKind.wrap_i32, wrap_u32', wrap_u64', InI]; (repeat' refine And.intro ?_ ?_) <;> omega) | ((repeat' refine And.intro ?_ ?_) <;> first | omega | rfl | exact Nat.le_refl _ | exact Nat.le_of_ble_eq_true rfl | exact bytesF_one _) | (simp_all; done) | (simp_all; omega))) ?_
    | refine r_obj rfl rfl (by (first | omega | exact Nat.le_of_ble_eq_true rfl | (simp only [wrap_u8, IntKind.wrap_i64, IntKind.wrap_i32, wrap_u32', wrap_u64', InI]; (repeat' refine And.intro ?_ ?_) <;> omega) | ((repeat' refine And.intro ?_ ?_) <;> first | omega | rfl | exact Nat.le_refl _ | exact Nat.le_of_ble_eq_true rfl | exact bytesF_one _) | (simp_all; done) | (simp_all; omega))) ?_ | refine r_sto rfl (by (first | omega | exact Nat.le_of_ble_eq_true rfl | (simp only [wrap_u8, IntKind.wrap_i64, IntKind.wrap_i32, wrap_u32', wrap_u64', InI]; (repeat' refine And.intro ?_ ?_) <;> omega) | ((repeat' refine And.intro ?_ ?_) <;> first | omega | rfl | exact Nat.le_refl _ | exact Nat.le_of_ble_eq_true rfl | exact bytesF_one _) | (simp_all; done) | (simp_all; omega))) ?_ | refine r_gobj rfl rfl rfl rfl (by (first | omega | exact Nat.le_of_ble_eq_true rfl | (simp only [wrap_u8, IntKind.wrap_i64, IntKind.wrap_i32, wrap_u32', wrap_u64', InI]; (repeat' refine And.intro ?_ ?_) <;> omega) | ((repeat' refine And.intro ?_ ?_) <;> first | omega | rfl | exact Nat.le_refl _ | exact Nat.le_of_ble_eq_true rfl | exact bytesF_one _) | (simp_all; done) | (simp_all; omega))) ?_
    | refine e_hit rfl ?_ | refine e_miss rfl ?_
    | refine ⟨by kernel_rfl, ?_⟩ | refine x_end rfl ?_ | refine r_call (f := 90) rfl rfl Tryd.call90 rfl c1 ?_ | refine r_call (f := 91) rfl rfl Tryd.call91 rfl c2 ?_ | ((with_reducible refine c_grd ?_); (fail_if_success (refine c_lit true rfl rfl rfl ?_)); (fail_if_success (refine c_lit false rfl rfl rfl ?_)); refine c_split rfl rfl (fun _ => ?_) (fun _ => ?_)))
  · rename_i h
    rw [hR (), if_pos (by rw [h]; rfl)]
    rfl
  · rw [hR (), if_neg (hne ‹_›), if_pos (by omega)]
    rfl
  · rw [hR (), if_neg (hne ‹_›), if_neg (by omega), if_pos (by omega)]
    rfl
  · rw [hR (), if_neg (hne ‹_›), if_neg (by omega), if_pos (by omega)]
    rfl
  · rw [hR (), if_neg (hne ‹_›), if_neg (by omega), if_neg (by omega)]
    rfl

end Go.Proofs.YteidmimpkipcfaaDoor.Flow

/- DEC: the number that a text begins with, as both read it. -/
namespace Go.Proofs.YteidmimpkipcfaaDoor.Flow
open Go

def isD (c : UInt8) : Bool := decide (48 ≤ (c.toNat : Int) ∧ (c.toNat : Int) ≤ 57)
theorem isD_iff {c : UInt8} : isD c = true ↔ 48 ≤ (c.toNat : Int) ∧ (c.toNat : Int) ≤ 57 := by simp [isD]

/-- The digits from a place on. -/
def dgT (s : List UInt8) (i : Nat) : List UInt8 := (s.drop i).takeWhile isD

theorem drop_cons {s : List UInt8} {i : Nat} (h : i < s.length) : s.drop i = s.getD i 0 :: s.drop (i + 1) := by
  rw [List.drop_eq_getElem_cons h]
  simp [List.getD_eq_getElem?_getD, h]

theorem dgT_more {s : List UInt8} {i : Nat} (h : i < s.length) (h2 : 48 ≤ at' s i ∧ at' s i ≤ 57) : dgT s i = s.getD i 0 :: dgT s (i + 1) := by
  unfold dgT
  rw [drop_cons h, List.takeWhile_cons, if_pos]
  exact isD_iff.2 h2

theorem dgT_stop {s : List UInt8} {i : Nat} (h : ¬ i < s.length ∨ ¬ (48 ≤ at' s i ∧ at' s i ≤ 57)) : dgT s i = [] := by
  unfold dgT
  by_cases hi : i < s.length
  · rw [drop_cons hi, List.takeWhile_cons, if_neg]
    intro h2
    rcases h with h | h
    · exact h hi
    · exact h (isD_iff.1 h2)
  · rw [List.drop_eq_nil_of_le (by omega)]
    rfl

theorem takeWhile_take {p : UInt8 → Bool} : ∀ l : List UInt8, l.take (l.takeWhile p).length = l.takeWhile p
  | [] => by simp
  | c :: r => by
    rw [List.takeWhile_cons]
    split
    · simp [takeWhile_take r]
    · simp

theorem dgT_len (s : List UInt8) (i : Nat) : (dgT s i).length ≤ s.length - i := by
  have := List.takeWhile_sublist (p := isD) (l := s.drop i)
  have := this.length_le
  unfold dgT
  simpa using this

theorem dgT_cut (s : List UInt8) (i : Nat) : (s.take (i + (dgT s i).length)).drop i = dgT s i := by
  rw [List.drop_take, show i + (dgT s i).length - i = (dgT s i).length by omega]
  exact takeWhile_take _

theorem dgT_digit (s : List UInt8) (i : Nat) : ∀ c ∈ dgT s i, isD c = true := fun c hc => by
  unfold dgT at hc
  generalize s.drop i = l at hc
  induction l with
  | nil => simp at hc
  | cons a r ih =>
    rw [List.takeWhile_cons] at hc
    split at hc
    · rcases List.mem_cons.1 hc with rfl | hc
      · assumption
      · exact ih hc
    · simp at hc

def sat (s : List UInt8) (i : Nat) (c : Int) : Prop := i < s.length ∧ at' s i = c
instance (s : List UInt8) (i : Nat) (c : Int) : Decidable (sat s i c) := by unfold sat; infer_instance

/-- The whole part from a place on: the digits, the place behind. -/
def whN (s : List UInt8) (i : Nat) : List UInt8 × Nat := if sat s i 48 then ([48], i + 1) else (dgT s i, i + (dgT s i).length)
/-- The part behind the point. -/
def frN (s : List UInt8) (j : Nat) : List UInt8 × Nat := if sat s j 46 ∧ ¬ dgT s (j + 1) = [] then (dgT s (j + 1), j + 1 + (dgT s (j + 1)).length) else ([], j)
/-- Behind the letter of the exponent: where its digits begin. -/
def sgN (s : List UInt8) (a : Nat) : Nat := if sat s a 43 ∨ sat s a 45 then a + 1 else a
/-- The exponent, by a reckoning of its digits. -/
def exN (pw : List UInt8 → Int) (s : List UInt8) (k : Nat) : Int × Nat :=
  if (sat s k 101 ∨ sat s k 69) ∧ ¬ dgT s (sgN s (k + 1)) = [] then
    (if sat s (k + 1) 45 then -pw (dgT s (sgN s (k + 1))) else pw (dgT s (sgN s (k + 1))), sgN s (k + 1) + (dgT s (sgN s (k + 1))).length)
  else (0, k)

def sg0 (s : List UInt8) : Nat := if sat s 0 45 then 1 else 0

def parseG (pw : List UInt8 → Int) (s : List UInt8) : (Bool × List UInt8 × Int) × Nat × Int :=
  if (whN s (sg0 s)).1 = [] then ((false, [], 0), 0, 3)
  else
    let w := whN s (sg0 s)
    let f := frN s w.2
    let x := exN pw s f.2
    let r := normF (decide (sat s 0 45)) (w.1 ++ f.1) (x.1 - f.1.length)
    if r.2 = 0 then (r.1, x.2, 0) else ((false, [], 0), 0, r.2)

/-- The program's exponent: at most 2^40. -/
def powP (x : List UInt8) : Int := x.foldl (fun n c => min (10 * n + ((c.toNat : Int) - 48)) 1099511627776) 0
/-- The reference's: no digit more, once it is great. -/
def powR (x : List UInt8) : Int := x.foldl (fun n c => if n < 1000000000 then 10 * n + (c.toNat : Int) - 48 else n) 0

theorem pow_both : ∀ (x : List UInt8) (a b : Int), (∀ c ∈ x, isD c = true) → 0 ≤ a → (a = b ∧ a < 1000000000 ∨ 1000000000 ≤ a ∧ 1000000000 ≤ b) →
    let p := x.foldl (fun n c => min (10 * n + ((c.toNat : Int) - 48)) 1099511627776) a
    let r := x.foldl (fun n c => if n < 1000000000 then 10 * n + (c.toNat : Int) - 48 else n) b
    0 ≤ p ∧ (p = r ∧ p < 1000000000 ∨ 1000000000 ≤ p ∧ 1000000000 ≤ r)
  | [], a, b, _, h0, h => ⟨h0, h⟩
  | c :: x, a, b, hx, h0, h => by
    have hc := isD_iff.1 (hx c (by simp))
    simp only [List.foldl_cons]
    refine pow_both x _ _ (fun c h => hx c (by simp [h])) (by omega) ?_
    split <;> omega

theorem pow_eq (x : List UInt8) (hx : ∀ c ∈ x, isD c = true) : 0 ≤ powP x ∧ (powP x = powR x ∧ powP x < 1000000000 ∨ 1000000000 ≤ powP x ∧ 1000000000 ≤ powR x) := pow_both x 0 0 hx (by omega) (.inl ⟨rfl, by omega⟩)

theorem powP_le : ∀ (x : List UInt8) (a : Int), a ≤ 1099511627776 → x.foldl (fun n c => min (10 * n + ((c.toNat : Int) - 48)) 1099511627776) a ≤ 1099511627776
  | [], a, h => h
  | c :: x, a, h => by
    simp only [List.foldl_cons]
    exact powP_le x _ (by omega)

/-- Great exponents are all alike. -/
theorem norm_far (neg : Bool) (d : List UInt8) (e e' : Int) (h1 : d.length ≤ 1000) (h : e = e' ∨ (100000 ≤ e ∧ 100000 ≤ e') ∨ (e ≤ -100000 ∧ e' ≤ -100000)) : normF neg d e = normF neg d e' := by
  have l := tR_len d
  rcases h with rfl | h
  · rfl
  · unfold normF
    split
    · rfl
    · split
      · rfl
      · rw [if_pos (by omega), if_pos (by omega)]

theorem parse_same (s : List UInt8) (hs : s.length ≤ 500) : parseG powP s = parseG powR s := by
  unfold parseG
  split
  · rfl
  · have hf : (frN s (whN s (sg0 s)).2).1.length ≤ 500 := by
      unfold frN
      split
      · have := dgT_len s ((whN s (sg0 s)).2 + 1)
        dsimp only
        omega
      · simp
    have hw : (whN s (sg0 s)).1.length ≤ 500 := by
      unfold whN
      split
      · simp
      · have := dgT_len s (sg0 s)
        dsimp only
        omega
    dsimp only
    generalize (frN s (whN s (sg0 s)).2).2 = k
    generalize (frN s (whN s (sg0 s)).2).1 = f at *
    generalize (whN s (sg0 s)).1 = w at *
    have e2 : (exN powP s k).2 = (exN powR s k).2 := by
      unfold exN
      split <;> rfl
    have e1 : normF (decide (sat s 0 45)) (w ++ f) ((exN powP s k).1 - f.length) = normF (decide (sat s 0 45)) (w ++ f) ((exN powR s k).1 - f.length) := by
      refine norm_far _ _ _ _ (by rw [List.length_append]; omega) ?_
      unfold exN
      split
      · have := pow_eq (dgT s (sgN s (k + 1))) (dgT_digit _ _)
        dsimp only
        split <;> omega
      · exact .inl rfl
    rw [e1, e2]

end Go.Proofs.YteidmimpkipcfaaDoor.Flow

/- DEC: a decimal's text, by both. -/
namespace Go.Proofs.YteidmimpkipcfaaDoor.Flow
open Go

abbrev zs (n : Nat) : List UInt8 := List.replicate n 48

theorem repeatL_one (n : Nat) : Lib.repeatL [48] n = zs n := by
  induction n with
  | zero => rfl
  | succ n ih =>
    rw [Lib.repeatL, ih]
    show _ = List.replicate (n + 1) 48
    rw [List.replicate_succ]
    rfl

/-- The text of a right decimal that isn't 0, the sign left out. -/
def textU (s : List UInt8) (e : Int) : List UInt8 :=
  if 0 ≤ e ∧ s.length + e ≤ 21 then s ++ zs e.toNat
  else if 1 ≤ s.length + e ∧ s.length + e < s.length then s.take (s.length + e).toNat ++ [46] ++ s.drop (s.length + e).toNat
  else if -6 ≤ s.length + e ∧ s.length + e ≤ 0 then [48, 46] ++ zs (-(s.length + e)).toNat ++ s
  else s.take 1 ++ (if 1 < s.length then [46] ++ s.drop 1 else []) ++ [101] ++ Lib.itoa (s.length + e - 1)
def textF (neg : Bool) (s : List UInt8) (e : Int) : List UInt8 :=
  if ¬ RightP neg s e then [] else if s.length = 0 then [48] else (if neg = true then [45] else []) ++ textU s e

theorem rep_ctr (e : Int) (h : 0 ≤ e) (h2 : e ≤ 1000000) : Ctr Tryd.prog 83 [.s [48], .i .i64 e] (.s (zs e.toNat)) := by
  obtain ⟨n, rfl⟩ := Int.eq_ofNat_of_zero_le h
  have := repeat_ctr [48] n (by omega) (by simp; omega)
  rwa [repeatL_one] at this

theorem zeros_ctr (e : Int) (h : 0 ≤ e) (h2 : e ≤ 1000000) : Ctr Tryd.prog 43 [.i .i64 e] (.s (zs e.toNat)) := by
  obtain ⟨n, rfl⟩ := Int.eq_ofNat_of_zero_le h
  refine r_fun Tryd.func43 rfl Tryd.ntmps43 Tryd.results43 rfl rfl fun X hL hX => ?_
  repeat' (first
    | with_reducible refine t_seq ?_ | with_reducible refine t_region ?_ | with_reducible refine c_nil ?_ | with_reducible refine n_then ?_
    | with_reducible refine t_ret ?_ | with_reducible refine t_skip ?_ | with_reducible refine t_exit ?_ | with_reducible refine t_block ?_
    | with_reducible refine n_block ?_ | with_reducible refine e_then ?_ | with_reducible refine x_then ?_ | with_reducible refine x_block ?_ | with_reducible refine t_draw ?_
    | refine r_val rfl rfl True.intro ?_ | refine r_gskip rfl rfl rfl ?_ | refine r_gskip2 rfl rfl rfl ?_ | refine r_gval rfl rfl rfl rfl True.intro ?_
    | refine t_true rfl ?_ | refine t_false rfl ?_
    | ((first | refine t_cond_d rfl (fun _ => ?_) (fun _ => ?_) | refine t_cond_i rfl (fun _ => ?_) (fun _ => ?_) | refine t_cond_j rfl (fun _ => ?_) (fun _ => ?_) | refine t_cond_s rfl (fun _ => ?_) (fun _ => ?_) | refine t_cond_n rfl (fun _ => ?_) (fun _ => ?_) | refine t_cond rfl (fun _ => ?_) (fun _ => ?_) | refine c_split_d rfl rfl (fun _ => ?_) (fun _ => ?_) | refine c_split_i rfl rfl (fun _ => ?_) (fun _ => ?_) | refine c_split_j rfl rfl (fun _ => ?_) (fun _ => ?_) | refine c_split_s rfl rfl (fun _ => ?_) (fun _ => ?_) | refine c_split_n rfl rfl (fun _ => ?_) (fun _ => ?_)) <;> try (first | contradiction | (exfalso; omega)))
    | refine r_val rfl rfl (by (first | omega | exact Nat.le_of_ble_eq_true rfl | (simp only [wrap_u8, IntKind.wrap_i64, IntKind.wrap_i32, wrap_u32', wrap_u64', InI]; (repeat' refine And.intro ?_ ?_) <;> omega) | ((repeat' refine And.intro ?_ ?_) <;> first | omega | rfl | exact Nat.le_refl _ | exact Nat.le_of_ble_eq_true rfl | exact bytesF_one _) | (simp_all; done) | (simp_all; omega))) ?_ | refine r_gval rfl rfl rfl rfl (by (first | omega | exact Nat.le_of_ble_eq_true rfl | (simp only [wrap_u8, IntKind.wrap_i64, IntKind.wrap_i32, wrap_u32', wrap_u64', InI]; (repeat' refine And.intro ?_ ?_) <;> omega) | ((repeat' refine And.intro ?_ ?_) <;> first | omega | rfl | exact Nat.le_refl _ | exact Nat.le_of_ble_eq_true rfl | exact bytesF_one _) | (simp_all; done) | (simp_all; omega))) ?_
    | refine r_obj rfl rfl (by (first | omega | exact Nat.le_of_ble_eq_true rfl | (simp only [wrap_u8, IntKind.wrap_i64, IntKind.wrap_i32, wrap_u32', wrap_u64', InI]; (repeat' refine And.intro ?_ ?_) <;> omega) | ((repeat' refine And.intro ?_ ?_) <;> first | omega | rfl | exact Nat.le_refl _ | exact Nat.le_of_ble_eq_true rfl | exact bytesF_one _) | (simp_all; done) | (simp_all; omega))) ?_ | refine r_sto rfl (by (first | omega | exact Nat.le_of_ble_eq_true rfl | (simp only [wrap_u8, IntKind.wrap_i64, IntKind.wrap_i32, wrap_u32', wrap_u64', InI]; (repeat' refine And.intro ?_ ?_) <;> omega) | ((repeat' refine And.intro ?_ ?_) <;> first | omega | rfl | exact Nat.le_refl _ | exact Nat.le_of_ble_eq_true rfl | exact bytesF_one _) | (simp_all; done) | (simp_all; omega))) ?_ | refine r_gobj rfl rfl rfl rfl (by (first | omega | exact Nat.le_of_ble_eq_true rfl | (simp only [wrap_u8, IntKind.wrap_i64, IntKind.wrap_i32, wrap_u32', wrap_u64', InI]; (repeat' refine And.intro ?_ ?_) <;> omega) | ((repeat' refine And.intro ?_ ?_) <;> first | omega | rfl | exact Nat.le_refl _ | exact Nat.le_of_ble_eq_true rfl | exact bytesF_one _) | (simp_all; done) | (simp_all; omega))) ?_
    | refine e_hit rfl ?_ | refine e_miss rfl ?_
    | refine ⟨by kernel_rfl, ?_⟩ | refine x_end rfl ?_ | ((with_reducible refine c_grd ?_); (fail_if_success (refine c_lit true rfl rfl rfl ?_)); (fail_if_success (refine c_lit false rfl rfl rfl ?_)); refine c_split rfl rfl (fun _ => ?_) (fun _ => ?_)))
  refine T.loop hL (fun k : Nat => [(0, .i .i64 n), (3, .s (zs k)), (4, .i .i64 k)]) (fun _ => []) (fun k => k ≤ n) (fun k => n - k) 0 (Nat.zero_le _) ⟨⟨rfl, rfl, rfl, trivial⟩, trivial, rfl, by rw [hX]; intro k hk; cases hk⟩ ?_
  intro k hk
  have hl : (zs k).length = k := by simp
  repeat' (first
    | with_reducible refine t_seq ?_ | with_reducible refine t_region ?_ | with_reducible refine c_nil ?_ | with_reducible refine n_then ?_
    | with_reducible refine t_ret ?_ | with_reducible refine t_skip ?_ | with_reducible refine t_exit ?_ | with_reducible refine t_block ?_
    | with_reducible refine n_block ?_ | with_reducible refine e_then ?_ | with_reducible refine x_then ?_ | with_reducible refine x_block ?_ | with_reducible refine t_draw ?_
    | refine r_val rfl rfl True.intro ?_ | refine r_gskip rfl rfl rfl ?_ | refine r_gskip2 rfl rfl rfl ?_ | refine r_gval rfl rfl rfl rfl True.intro ?_
    | refine t_true rfl ?_ | refine t_false rfl ?_
    | ((first | refine t_cond_d rfl (fun _ => ?_) (fun _ => ?_) | refine t_cond_i rfl (fun _ => ?_) (fun _ => ?_) | refine t_cond_j rfl (fun _ => ?_) (fun _ => ?_) | refine t_cond_s rfl (fun _ => ?_) (fun _ => ?_) | refine t_cond_n rfl (fun _ => ?_) (fun _ => ?_) | refine t_cond rfl (fun _ => ?_) (fun _ => ?_) | refine c_split_d rfl rfl (fun _ => ?_) (fun _ => ?_) | refine c_split_i rfl rfl (fun _ => ?_) (fun _ => ?_) | refine c_split_j rfl rfl (fun _ => ?_) (fun _ => ?_) | refine c_split_s rfl rfl (fun _ => ?_) (fun _ => ?_) | refine c_split_n rfl rfl (fun _ => ?_) (fun _ => ?_)) <;> try (first | (rename_i hz; exact Bool.noConfusion (show true = false from hz)) | (rename_i hz; exact Bool.noConfusion (show false = true from hz)) | (exfalso; omega)))
    | refine r_val rfl rfl (by (first | (simp only [List.length_replicate, Array.length_toList, List.size_toArray, List.length_cons, List.length_nil]; omega) | omega | exact Nat.le_of_ble_eq_true rfl | (simp only [wrap_u8, IntKind.wrap_i64, IntKind.wrap_i32, wrap_u32', wrap_u64', InI]; (repeat' refine And.intro ?_ ?_) <;> omega) | ((repeat' refine And.intro ?_ ?_) <;> first | omega | rfl | exact Nat.le_refl _ | exact Nat.le_of_ble_eq_true rfl | exact bytesF_one _) | (simp_all; done) | (simp_all; omega))) ?_ | refine r_gval rfl rfl rfl rfl (by (first | (simp only [List.length_replicate, Array.length_toList, List.size_toArray, List.length_cons, List.length_nil]; omega) | omega | exact Nat.le_of_ble_eq_true rfl | (simp only [wrap_u8, IntKind.wrap_i64, IntKind.wrap_i32, wrap_u32', wrap_u64', InI]; (repeat' refine And.intro ?_ ?_) <;> omega) | ((repeat' refine And.intro ?_ ?_) <;> first | omega | rfl | exact Nat.le_refl _ | exact Nat.le_of_ble_eq_true rfl | exact bytesF_one _) | (simp_all; done) | (simp_all; omega))) ?_
    | refine r_obj rfl rfl (by (first | (simp only [List.length_replicate, Array.length_toList, List.size_toArray, List.length_cons, List.length_nil]; omega) | omega | exact Nat.le_of_ble_eq_true rfl | (simp only [wrap_u8, IntKind.wrap_i64, IntKind.wrap_i32, wrap_u32', wrap_u64', InI]; (repeat' refine And.intro ?_ ?_) <;> omega) | ((repeat' refine And.intro ?_ ?_) <;> first | omega | rfl | exact Nat.le_refl _ | exact Nat.le_of_ble_eq_true rfl | exact bytesF_one _) | (simp_all; done) | (simp_all; omega))) ?_ | refine r_sto rfl (by (first | (simp only [List.length_replicate, Array.length_toList, List.size_toArray, List.length_cons, List.length_nil]; omega) | omega | exact Nat.le_of_ble_eq_true rfl | (simp only [wrap_u8, IntKind.wrap_i64, IntKind.wrap_i32, wrap_u32', wrap_u64', InI]; (repeat' refine And.intro ?_ ?_) <;> omega) | ((repeat' refine And.intro ?_ ?_) <;> first | omega | rfl | exact Nat.le_refl _ | exact Nat.le_of_ble_eq_true rfl | exact bytesF_one _) | (simp_all; done) | (simp_all; omega))) ?_ | refine r_gobj rfl rfl rfl rfl (by (first | (simp only [List.length_replicate, Array.length_toList, List.size_toArray, List.length_cons, List.length_nil]; omega) | omega | exact Nat.le_of_ble_eq_true rfl | (simp only [wrap_u8, IntKind.wrap_i64, IntKind.wrap_i32, wrap_u32', wrap_u64', InI]; (repeat' refine And.intro ?_ ?_) <;> omega) | ((repeat' refine And.intro ?_ ?_) <;> first | omega | rfl | exact Nat.le_refl _ | exact Nat.le_of_ble_eq_true rfl | exact bytesF_one _) | (simp_all; done) | (simp_all; omega))) ?_
    | refine e_hit rfl ?_ | refine e_miss rfl ?_
    | refine ⟨by kernel_rfl, ?_⟩ | refine x_end rfl ?_ | ((with_reducible refine c_grd ?_); (fail_if_success (refine c_lit true rfl rfl rfl ?_)); (fail_if_success (refine c_lit false rfl rfl rfl ?_)); refine c_split rfl rfl (fun _ => ?_) (fun _ => ?_)))
  · exact ⟨k + 1, by omega, by omega, ⟨rfl, congrArg D.s (List.replicate_succ' (a := (48 : UInt8)) (n := k)).symm, rfl, trivial⟩, trivial, rfl, by rw [hX]; intro k hk; cases hk⟩
  · rw [show k = n by omega]
    simp

abbrev dig10 : List UInt8 := [48, 49, 50, 51, 52, 53, 54, 55, 56, 57]
theorem dig_at : ∀ n : Nat, n < 10 → (dig10.take (n + 1)).drop n = [UInt8.ofNat (48 + n)] := by decide

theorem rnum_pos (n : Nat) : n ≤ 1000000 → Ctr Tryd.prog 44 [.i .i64 n] (.s (Lib.decDigits n)) := by
  induction n using Nat.strongRecOn with
  | ind n ih =>
    intro hn
    have hl : (Lib.decDigits (n / 10)).length ≤ 100 := dlen (n / 10) (by omega)
    have l1 : dig10.length = 10 := rfl
    by_cases h : n < 10
    · have e : Lib.decDigits n = [UInt8.ofNat (48 + n)] := by rw [Lib.decDigits, dif_pos h]
      refine r_fun Tryd.func44 rfl Tryd.ntmps44 Tryd.results44 rfl rfl fun X hL hX => ?_
      clear ih hl
      repeat' (first
        | with_reducible refine t_seq ?_ | with_reducible refine t_region ?_ | with_reducible refine c_nil ?_ | with_reducible refine n_then ?_
        | with_reducible refine t_ret ?_ | with_reducible refine t_skip ?_ | with_reducible refine t_exit ?_ | with_reducible refine t_block ?_
        | with_reducible refine n_block ?_ | with_reducible refine e_then ?_ | with_reducible refine x_then ?_ | with_reducible refine x_block ?_ | with_reducible refine t_draw ?_
        | refine r_val rfl rfl True.intro ?_ | refine r_gskip rfl rfl rfl ?_ | refine r_gskip2 rfl rfl rfl ?_ | refine r_gval rfl rfl rfl rfl True.intro ?_
        | refine t_true rfl ?_ | refine t_false rfl ?_
        | ((first | refine t_cond_d rfl (fun _ => ?_) (fun _ => ?_) | refine t_cond_i rfl (fun _ => ?_) (fun _ => ?_) | refine t_cond_j rfl (fun _ => ?_) (fun _ => ?_) | refine t_cond_s rfl (fun _ => ?_) (fun _ => ?_) | refine t_cond_n rfl (fun _ => ?_) (fun _ => ?_) | refine t_cond rfl (fun _ => ?_) (fun _ => ?_) | refine c_split_d rfl rfl (fun _ => ?_) (fun _ => ?_) | refine c_split_i rfl rfl (fun _ => ?_) (fun _ => ?_) | refine c_split_j rfl rfl (fun _ => ?_) (fun _ => ?_) | refine c_split_s rfl rfl (fun _ => ?_) (fun _ => ?_) | refine c_split_n rfl rfl (fun _ => ?_) (fun _ => ?_)) <;> try (first | contradiction | (exfalso; omega)))
        | refine r_val rfl rfl (by (first | omega | exact Nat.le_of_ble_eq_true rfl | (simp only [wrap_u8, IntKind.wrap_i64, IntKind.wrap_i32, wrap_u32', wrap_u64', InI]; (repeat' refine And.intro ?_ ?_) <;> omega) | ((repeat' refine And.intro ?_ ?_) <;> first | omega | rfl | exact Nat.le_refl _ | exact Nat.le_of_ble_eq_true rfl | exact bytesF_one _) | (simp_all; done) | (simp_all; omega))) ?_ | refine r_gval rfl rfl rfl rfl (by (first | omega | exact Nat.le_of_ble_eq_true rfl | (simp only [wrap_u8, IntKind.wrap_i64, IntKind.wrap_i32, wrap_u32', wrap_u64', InI]; (repeat' refine And.intro ?_ ?_) <;> omega) | ((repeat' refine And.intro ?_ ?_) <;> first | omega | rfl | exact Nat.le_refl _ | exact Nat.le_of_ble_eq_true rfl | exact bytesF_one _) | (simp_all; done) | (simp_all; omega))) ?_
        | refine r_obj rfl rfl (by (first | omega | exact Nat.le_of_ble_eq_true rfl | (simp only [wrap_u8, IntKind.wrap_i64, IntKind.wrap_i32, wrap_u32', wrap_u64', InI]; (repeat' refine And.intro ?_ ?_) <;> omega) | ((repeat' refine And.intro ?_ ?_) <;> first | omega | rfl | exact Nat.le_refl _ | exact Nat.le_of_ble_eq_true rfl | exact bytesF_one _) | (simp_all; done) | (simp_all; omega))) ?_ | refine r_sto rfl (by (first | omega | exact Nat.le_of_ble_eq_true rfl | (simp only [wrap_u8, IntKind.wrap_i64, IntKind.wrap_i32, wrap_u32', wrap_u64', InI]; (repeat' refine And.intro ?_ ?_) <;> omega) | ((repeat' refine And.intro ?_ ?_) <;> first | omega | rfl | exact Nat.le_refl _ | exact Nat.le_of_ble_eq_true rfl | exact bytesF_one _) | (simp_all; done) | (simp_all; omega))) ?_ | refine r_gobj rfl rfl rfl rfl (by (first | omega | exact Nat.le_of_ble_eq_true rfl | (simp only [wrap_u8, IntKind.wrap_i64, IntKind.wrap_i32, wrap_u32', wrap_u64', InI]; (repeat' refine And.intro ?_ ?_) <;> omega) | ((repeat' refine And.intro ?_ ?_) <;> first | omega | rfl | exact Nat.le_refl _ | exact Nat.le_of_ble_eq_true rfl | exact bytesF_one _) | (simp_all; done) | (simp_all; omega))) ?_
        | refine e_hit rfl ?_ | refine e_miss rfl ?_
        | refine ⟨by kernel_rfl, ?_⟩ | refine x_end rfl ?_ | ((with_reducible refine c_grd ?_); (fail_if_success (refine c_lit true rfl rfl rfl ?_)); (fail_if_success (refine c_lit false rfl rfl rfl ?_)); refine c_split rfl rfl (fun _ => ?_) (fun _ => ?_)))
      rw [e, ← dig_at n h]
      rfl
    · have e : Lib.decDigits n = Lib.decDigits (n / 10) ++ [UInt8.ofNat (48 + n % 10)] := by rw [Lib.decDigits, dif_neg h]
      have c := ih (n / 10) (by omega) (by omega)
      refine r_fun Tryd.func44 rfl Tryd.ntmps44 Tryd.results44 rfl rfl fun X hL hX => ?_
      clear ih
      repeat' (first
        | with_reducible refine t_seq ?_ | with_reducible refine t_region ?_ | with_reducible refine c_nil ?_ | with_reducible refine n_then ?_
        | with_reducible refine t_ret ?_ | with_reducible refine t_skip ?_ | with_reducible refine t_exit ?_ | with_reducible refine t_block ?_
        | with_reducible refine n_block ?_ | with_reducible refine e_then ?_ | with_reducible refine x_then ?_ | with_reducible refine x_block ?_ | with_reducible refine t_draw ?_
        | refine r_val rfl rfl True.intro ?_ | refine r_gskip rfl rfl rfl ?_ | refine r_gskip2 rfl rfl rfl ?_ | refine r_gval rfl rfl rfl rfl True.intro ?_
        | refine t_true rfl ?_ | refine t_false rfl ?_
        | ((first | refine t_cond_d rfl (fun _ => ?_) (fun _ => ?_) | refine t_cond_i rfl (fun _ => ?_) (fun _ => ?_) | refine t_cond_j rfl (fun _ => ?_) (fun _ => ?_) | refine t_cond_s rfl (fun _ => ?_) (fun _ => ?_) | refine t_cond_n rfl (fun _ => ?_) (fun _ => ?_) | refine t_cond rfl (fun _ => ?_) (fun _ => ?_) | refine c_split_d rfl rfl (fun _ => ?_) (fun _ => ?_) | refine c_split_i rfl rfl (fun _ => ?_) (fun _ => ?_) | refine c_split_j rfl rfl (fun _ => ?_) (fun _ => ?_) | refine c_split_s rfl rfl (fun _ => ?_) (fun _ => ?_) | refine c_split_n rfl rfl (fun _ => ?_) (fun _ => ?_)) <;> try (first | (rename_i hz; exact Bool.noConfusion (show true = false from hz)) | (rename_i hz; exact Bool.noConfusion (show false = true from hz)) | (exfalso; omega)))
        | refine r_val rfl rfl (by (first | (simp only [List.length_drop, List.length_take]; omega) | omega | exact Nat.le_of_ble_eq_true rfl | (simp only [wrap_u8, IntKind.wrap_i64, IntKind.wrap_i32, wrap_u32', wrap_u64', InI]; (repeat' refine And.intro ?_ ?_) <;> omega) | ((repeat' refine And.intro ?_ ?_) <;> first | omega | rfl | exact Nat.le_refl _ | exact Nat.le_of_ble_eq_true rfl | exact bytesF_one _) | (simp_all; done) | (simp_all; omega))) ?_ | refine r_gval rfl rfl rfl rfl (by (first | (simp only [List.length_drop, List.length_take]; omega) | omega | exact Nat.le_of_ble_eq_true rfl | (simp only [wrap_u8, IntKind.wrap_i64, IntKind.wrap_i32, wrap_u32', wrap_u64', InI]; (repeat' refine And.intro ?_ ?_) <;> omega) | ((repeat' refine And.intro ?_ ?_) <;> first | omega | rfl | exact Nat.le_refl _ | exact Nat.le_of_ble_eq_true rfl | exact bytesF_one _) | (simp_all; done) | (simp_all; omega))) ?_
        | refine r_obj rfl rfl (by (first | (simp only [List.length_drop, List.length_take]; omega) | omega | exact Nat.le_of_ble_eq_true rfl | (simp only [wrap_u8, IntKind.wrap_i64, IntKind.wrap_i32, wrap_u32', wrap_u64', InI]; (repeat' refine And.intro ?_ ?_) <;> omega) | ((repeat' refine And.intro ?_ ?_) <;> first | omega | rfl | exact Nat.le_refl _ | exact Nat.le_of_ble_eq_true rfl | exact bytesF_one _) | (simp_all; done) | (simp_all; omega))) ?_ | refine r_sto rfl (by (first | (simp only [List.length_drop, List.length_take]; omega) | omega | exact Nat.le_of_ble_eq_true rfl | (simp only [wrap_u8, IntKind.wrap_i64, IntKind.wrap_i32, wrap_u32', wrap_u64', InI]; (repeat' refine And.intro ?_ ?_) <;> omega) | ((repeat' refine And.intro ?_ ?_) <;> first | omega | rfl | exact Nat.le_refl _ | exact Nat.le_of_ble_eq_true rfl | exact bytesF_one _) | (simp_all; done) | (simp_all; omega))) ?_ | refine r_gobj rfl rfl rfl rfl (by (first | (simp only [List.length_drop, List.length_take]; omega) | omega | exact Nat.le_of_ble_eq_true rfl | (simp only [wrap_u8, IntKind.wrap_i64, IntKind.wrap_i32, wrap_u32', wrap_u64', InI]; (repeat' refine And.intro ?_ ?_) <;> omega) | ((repeat' refine And.intro ?_ ?_) <;> first | omega | rfl | exact Nat.le_refl _ | exact Nat.le_of_ble_eq_true rfl | exact bytesF_one _) | (simp_all; done) | (simp_all; omega))) ?_
        | refine e_hit rfl ?_ | refine e_miss rfl ?_
        | refine ⟨by kernel_rfl, ?_⟩ | refine x_end rfl ?_ | refine r_call (f := 44) rfl rfl Tryd.call44 rfl c ?_ | ((with_reducible refine c_grd ?_); (fail_if_success (refine c_lit true rfl rfl rfl ?_)); (fail_if_success (refine c_lit false rfl rfl rfl ?_)); refine c_split rfl rfl (fun _ => ?_) (fun _ => ?_)))
      rw [e, ← dig_at (n % 10) (by omega)]
      rfl
where
  dlen (n : Nat) (h : n ≤ 1000000) : (Lib.decDigits n).length ≤ 100 := by
    have key : ∀ (k n : Nat), n < 10 ^ k → (Lib.decDigits n).length ≤ k + 1 := by
      intro k
      induction k with
      | zero => intro n hn; rw [Lib.decDigits, dif_pos (by omega)]; simp
      | succ k ih =>
        intro n hn
        rw [Lib.decDigits]
        split
        · simp
        · have := ih (n / 10) (by rw [Nat.pow_succ] at hn; omega)
          simp
          omega
    have := key 7 n (by omega)
    omega

theorem rnum_ctr (n : Int) (h0 : -1000000 ≤ n) (h1 : n ≤ 1000000) : Ctr Tryd.prog 44 [.i .i64 n] (.s (Lib.itoa n)) := by
  unfold Lib.itoa
  by_cases h : n < 0
  · rw [if_pos h]
    have c := rnum_pos n.natAbs (by omega)
    rw [show ((n.natAbs : Nat) : Int) = -n by omega] at c
    have hl := rnum_pos.dlen n.natAbs (by omega)
    generalize Lib.decDigits n.natAbs = ds at c hl ⊢
    refine r_fun Tryd.func44 rfl Tryd.ntmps44 Tryd.results44 rfl rfl fun X hL hX => ?_
    repeat' (first
      | with_reducible refine t_seq ?_ | with_reducible refine t_region ?_ | with_reducible refine c_nil ?_ | with_reducible refine n_then ?_
      | with_reducible refine t_ret ?_ | with_reducible refine t_skip ?_ | with_reducible refine t_exit ?_ | with_reducible refine t_block ?_
      | with_reducible refine n_block ?_ | with_reducible refine e_then ?_ | with_reducible refine x_then ?_ | with_reducible refine x_block ?_ | with_reducible refine t_draw ?_
      | refine r_val rfl rfl True.intro ?_ | refine r_gskip rfl rfl rfl ?_ | refine r_gskip2 rfl rfl rfl ?_ | refine r_gval rfl rfl rfl rfl True.intro ?_
      | refine t_true rfl ?_ | refine t_false rfl ?_
      | ((first | refine t_cond_d rfl (fun _ => ?_) (fun _ => ?_) | refine t_cond_i rfl (fun _ => ?_) (fun _ => ?_) | refine t_cond_j rfl (fun _ => ?_) (fun _ => ?_) | refine t_cond_s rfl (fun _ => ?_) (fun _ => ?_) | refine t_cond_n rfl (fun _ => ?_) (fun _ => ?_) | refine t_cond rfl (fun _ => ?_) (fun _ => ?_) | refine c_split_d rfl rfl (fun _ => ?_) (fun _ => ?_) | refine c_split_i rfl rfl (fun _ => ?_) (fun _ => ?_) | refine c_split_j rfl rfl (fun _ => ?_) (fun _ => ?_) | refine c_split_s rfl rfl (fun _ => ?_) (fun _ => ?_) | refine c_split_n rfl rfl (fun _ => ?_) (fun _ => ?_)) <;> try (first | (rename_i hz; exact Bool.noConfusion (show true = false from hz)) | (rename_i hz; exact Bool.noConfusion (show false = true from hz)) | (exfalso; omega)))
      | refine r_val rfl rfl (by (first | (simp only [Array.length_toList, List.size_toArray, List.length_cons, List.length_nil]; omega) | omega | exact Nat.le_of_ble_eq_true rfl | (simp only [wrap_u8, IntKind.wrap_i64, IntKind.wrap_i32, wrap_u32', wrap_u64', InI]; (repeat' refine And.intro ?_ ?_) <;> omega) | ((repeat' refine And.intro ?_ ?_) <;> first | omega | rfl | exact Nat.le_refl _ | exact Nat.le_of_ble_eq_true rfl | exact bytesF_one _) | (simp_all; done) | (simp_all; omega))) ?_ | refine r_gval rfl rfl rfl rfl (by (first | (simp only [Array.length_toList, List.size_toArray, List.length_cons, List.length_nil]; omega) | omega | exact Nat.le_of_ble_eq_true rfl | (simp only [wrap_u8, IntKind.wrap_i64, IntKind.wrap_i32, wrap_u32', wrap_u64', InI]; (repeat' refine And.intro ?_ ?_) <;> omega) | ((repeat' refine And.intro ?_ ?_) <;> first | omega | rfl | exact Nat.le_refl _ | exact Nat.le_of_ble_eq_true rfl | exact bytesF_one _) | (simp_all; done) | (simp_all; omega))) ?_
      | refine r_obj rfl rfl (by (first | (simp only [Array.length_toList, List.size_toArray, List.length_cons, List.length_nil]; omega) | omega | exact Nat.le_of_ble_eq_true rfl | (simp only [wrap_u8, IntKind.wrap_i64, IntKind.wrap_i32, wrap_u32', wrap_u64', InI]; (repeat' refine And.intro ?_ ?_) <;> omega) | ((repeat' refine And.intro ?_ ?_) <;> first | omega | rfl | exact Nat.le_refl _ | exact Nat.le_of_ble_eq_true rfl | exact bytesF_one _) | (simp_all; done) | (simp_all; omega))) ?_ | refine r_sto rfl (by (first | (simp only [Array.length_toList, List.size_toArray, List.length_cons, List.length_nil]; omega) | omega | exact Nat.le_of_ble_eq_true rfl | (simp only [wrap_u8, IntKind.wrap_i64, IntKind.wrap_i32, wrap_u32', wrap_u64', InI]; (repeat' refine And.intro ?_ ?_) <;> omega) | ((repeat' refine And.intro ?_ ?_) <;> first | omega | rfl | exact Nat.le_refl _ | exact Nat.le_of_ble_eq_true rfl | exact bytesF_one _) | (simp_all; done) | (simp_all; omega))) ?_ | refine r_gobj rfl rfl rfl rfl (by (first | (simp only [Array.length_toList, List.size_toArray, List.length_cons, List.length_nil]; omega) | omega | exact Nat.le_of_ble_eq_true rfl | (simp only [wrap_u8, IntKind.wrap_i64, IntKind.wrap_i32, wrap_u32', wrap_u64', InI]; (repeat' refine And.intro ?_ ?_) <;> omega) | ((repeat' refine And.intro ?_ ?_) <;> first | omega | rfl | exact Nat.le_refl _ | exact Nat.le_of_ble_eq_true rfl | exact bytesF_one _) | (simp_all; done) | (simp_all; omega))) ?_
      | refine e_hit rfl ?_ | refine e_miss rfl ?_
      | refine ⟨by kernel_rfl, ?_⟩ | refine x_end rfl ?_ | refine r_call (f := 44) rfl rfl Tryd.call44 rfl c ?_ | ((with_reducible refine c_grd ?_); (fail_if_success (refine c_lit true rfl rfl rfl ?_)); (fail_if_success (refine c_lit false rfl rfl rfl ?_)); refine c_split rfl rfl (fun _ => ?_) (fun _ => ?_)))
    rfl
  · rw [if_neg h]
    have c := rnum_pos n.toNat (by omega)
    rwa [show ((n.toNat : Nat) : Int) = n by omega] at c

theorem itoa_len (n : Int) (h0 : -1000000 ≤ n) (h1 : n ≤ 1000000) : (Lib.itoa n).length ≤ 101 := by
  unfold Lib.itoa
  split
  · have := rnum_pos.dlen n.natAbs (by omega)
    simp only [List.length_cons]
    omega
  · have := rnum_pos.dlen n.toNat (by omega)
    omega

end Go.Proofs.YteidmimpkipcfaaDoor.Flow

/- DEC: numbers and their digits, in plain words. -/
namespace Go.Proofs.YteidmimpkipcfaaDoor.Flow
open Go

/-- Digits as a number. -/
def numA (a : Nat) (l : List UInt8) : Nat := l.foldl (fun n c => 10 * n + (c.toNat - 48)) a
def numL (l : List UInt8) : Nat := numA 0 l

theorem numA_nil (a : Nat) : numA a [] = a := rfl
theorem numA_cons (a : Nat) (c : UInt8) (l : List UInt8) : numA a (c :: l) = numA (10 * a + (c.toNat - 48)) l := by
  unfold numA
  rw [List.foldl_cons]
theorem numA_app (a : Nat) (l m : List UInt8) : numA a (l ++ m) = numA (numA a l) m := by simp [numA]
theorem numA_eq (l : List UInt8) : ∀ a : Nat, numA a l = a * 10 ^ l.length + numL l := by
  induction l with
  | nil =>
    intro a
    simp [numA_nil, numL]
  | cons c l ih =>
    intro a
    have h1 := numA_cons a c l
    have h2 : numL (c :: l) = numA (10 * 0 + (c.toNat - 48)) l := numA_cons 0 c l
    rw [h1, h2, ih, ih (10 * 0 + (c.toNat - 48)), List.length_cons, Nat.pow_succ]
    generalize 10 ^ l.length = t
    generalize c.toNat - 48 = d
    have h3 : 10 * a * t = a * (t * 10) := by rw [Nat.mul_comm 10 a, Nat.mul_assoc, Nat.mul_comm 10 t]
    rw [Nat.add_mul, h3, Nat.mul_zero, Nat.zero_add]
    omega
theorem numL_cons (c : UInt8) (l : List UInt8) : numL (c :: l) = (c.toNat - 48) * 10 ^ l.length + numL l := by
  have : numL (c :: l) = numA (10 * 0 + (c.toNat - 48)) l := numA_cons 0 c l
  rw [this, numA_eq]
  simp
theorem numL_snoc (l : List UInt8) (c : UInt8) : numL (l ++ [c]) = 10 * numL l + (c.toNat - 48) := by
  unfold numL
  rw [numA_app]
  rfl

theorem isD_nat {c : UInt8} (h : isD c = true) : 48 ≤ c.toNat ∧ c.toNat ≤ 57 := by
  have := isD_iff.1 h
  omega

theorem numL_lt : ∀ (l : List UInt8), (∀ c ∈ l, isD c = true) → numL l < 10 ^ l.length
  | [], _ => by decide
  | c :: l, h => by
    have h1 := isD_nat (h c (by simp))
    have h2 := numL_lt l fun c hc => h c (by simp [hc])
    rw [numL_cons, List.length_cons, Nat.pow_succ]
    have h3 : (c.toNat - 48) * 10 ^ l.length ≤ 9 * 10 ^ l.length := Nat.mul_le_mul_right _ (by omega)
    omega

theorem numL_ge {c : UInt8} {l : List UInt8} (h : isD c = true) (h2 : ¬ c = 48) : 10 ^ l.length ≤ numL (c :: l) := by
  have h1 := isD_nat h
  have h3 : ¬ c.toNat = 48 := fun h => h2 (UInt8.toNat_inj.1 h)
  rw [numL_cons]
  have h4 : 1 * 10 ^ l.length ≤ (c.toNat - 48) * 10 ^ l.length := Nat.mul_le_mul_right _ (by omega)
  omega

theorem dec_step {k : Nat} (h : ¬ k < 10) : Lib.decDigits k = Lib.decDigits (k / 10) ++ [UInt8.ofNat (48 + k % 10)] := by rw [Lib.decDigits, dif_neg h]
theorem dec_small {k : Nat} (h : k < 10) : Lib.decDigits k = [UInt8.ofNat (48 + k)] := by rw [Lib.decDigits, dif_pos h]

theorem isD_dig {n : Nat} (h : n < 10) : isD (UInt8.ofNat (48 + n)) = true ∧ (UInt8.ofNat (48 + n)).toNat = 48 + n := by
  have : (UInt8.ofNat (48 + n)).toNat = 48 + n := by simp; omega
  exact ⟨isD_iff.2 (by omega), this⟩

theorem dec_isD (k : Nat) : ∀ c ∈ Lib.decDigits k, isD c = true := by
  induction k using Nat.strongRecOn with
  | ind k ih =>
    by_cases h : k < 10
    · rw [dec_small h]
      intro c hc
      rw [List.mem_singleton.1 hc]
      exact (isD_dig h).1
    · rw [dec_step h]
      intro c hc
      rcases List.mem_append.1 hc with hc | hc
      · exact ih (k / 10) (by omega) c hc
      · rw [List.mem_singleton.1 hc]
        exact (isD_dig (by omega)).1

theorem dec_num (k : Nat) : numL (Lib.decDigits k) = k := by
  induction k using Nat.strongRecOn with
  | ind k ih =>
    by_cases h : k < 10
    · rw [dec_small h, numL_cons, (isD_dig h).2]
      simp [numL, numA]
    · rw [dec_step h, numL_snoc, (isD_dig (by omega)).2, ih (k / 10) (by omega)]
      omega

/-- A number that isn't 0 begins with no 0. -/
theorem dec_first (k : Nat) (h : ¬ k = 0) : ∃ c l, Lib.decDigits k = c :: l ∧ ¬ c = 48 := by
  induction k using Nat.strongRecOn with
  | ind k ih =>
    by_cases h2 : k < 10
    · refine ⟨_, [], dec_small h2, fun h3 => ?_⟩
      have := congrArg UInt8.toNat h3
      rw [(isD_dig h2).2] at this
      have : (48 : UInt8).toNat = 48 := rfl
      omega
    · obtain ⟨c, l, h3, h4⟩ := ih (k / 10) (by omega) (by omega)
      exact ⟨c, l ++ [UInt8.ofNat (48 + k % 10)], by rw [dec_step h2, h3]; rfl, h4⟩

theorem dec_len (k n : Nat) (h : k < 10 ^ n) (hn : 1 ≤ n) : (Lib.decDigits k).length ≤ n := by
  induction n generalizing k with
  | zero => omega
  | succ n ih =>
    by_cases h2 : k < 10
    · rw [dec_small h2]
      simp
    · rw [dec_step h2, List.length_append, List.length_singleton]
      rw [Nat.pow_succ] at h
      by_cases hz : n = 0
      · subst hz
        omega
      · have := ih (k / 10) (by omega) (by omega)
        omega

theorem dec_ten (k : Nat) (h : ¬ k = 0) : Lib.decDigits (10 * k) = Lib.decDigits k ++ [48] := by
  rw [dec_step (by omega), show 10 * k / 10 = k by omega, show 10 * k % 10 = 0 by omega]
  rfl

/-- The digits of a number, none of 0. -/
def dig0 (k : Nat) : List UInt8 := if k = 0 then [] else Lib.decDigits k
theorem dig0_step {k : Nat} (h : ¬ k = 0) : dig0 k = dig0 (k / 10) ++ [UInt8.ofNat (48 + k % 10)] := by
  unfold dig0
  rw [if_neg h]
  by_cases h2 : k < 10
  · rw [dec_small h2, if_pos (by omega), show k % 10 = k by omega]
    rfl
  · rw [dec_step h2, if_neg (by omega)]

theorem norm_none (neg : Bool) (e : Int) : normF neg [] e = ((false, [], 0), 0) := rfl
theorem norm_zero (neg : Bool) (e : Int) : normF neg [48] e = ((false, [], 0), 0) := by
  unfold normF
  rw [if_pos (by decide)]
theorem norm_dig0 (neg : Bool) (k : Nat) (e : Int) : normF neg (dig0 k) e = normF neg (Lib.decDigits k) e := by
  unfold dig0
  split
  · rename_i h
    subst h
    rw [norm_none, show Lib.decDigits 0 = [48] from dec_small (by omega), norm_zero]
  · rfl

/-! ### Zeros at the ends -/

theorem tR_split (s : List UInt8) : s = tR s ++ zs (s.length - (tR s).length) := by
  have key : ∀ (n : Nat) (s : List UInt8), s.length = n → s = tR s ++ zs (s.length - (tR s).length) := by
    intro n
    induction n with
    | zero =>
      intro s h
      obtain rfl := List.length_eq_zero_iff.1 h
      rfl
    | succ n ih =>
      intro s h
      rcases snoc_casesU s with rfl | ⟨r, c, rfl⟩
      · simp at h
      · by_cases hc : c = 48
        · subst hc
          rw [tR_snoc_eq]
          have h1 := ih r (by simpa using h)
          have h2 := tR_len r
          rw [List.length_append, List.length_singleton, show r.length + 1 - (tR r).length = (r.length - (tR r).length) + 1 by omega]
          unfold zs at h1 ⊢
          rw [List.replicate_succ', ← List.append_assoc, ← h1]
        · rw [tR_snoc_ne r c hc]
          simp
  exact key _ s rfl

theorem tR_mem {s : List UInt8} {c : UInt8} (h : c ∈ tR s) : c ∈ s := by
  rw [tR_split s]
  exact List.mem_append_left _ h

theorem tR_lastOk (s : List UInt8) : lastOk (tR s) := by
  have key : ∀ (n : Nat) (s : List UInt8), s.length = n → lastOk (tR s) := by
    intro n
    induction n with
    | zero =>
      intro s h
      obtain rfl := List.length_eq_zero_iff.1 h
      intro c r e
      have : tR [] = [] := rfl
      rw [this] at e
      simp at e
    | succ n ih =>
      intro s h
      rcases snoc_casesU s with rfl | ⟨r, c, rfl⟩
      · simp at h
      · by_cases hc : c = 48
        · subst hc
          rw [tR_snoc_eq]
          exact ih r (by simpa using h)
        · rw [tR_snoc_ne r c hc]
          intro d q e
          have := congrArg List.getLast? e
          simp at this
          rw [← this]
          exact hc
  exact key _ s rfl

theorem lastOk_tR {s : List UInt8} (h : lastOk s) : tR s = s := by
  rcases snoc_casesU s with rfl | ⟨r, c, rfl⟩
  · rfl
  · exact tR_snoc_ne r c (h c r rfl)

theorem tR_zs (s : List UInt8) (n : Nat) : tR (s ++ zs n) = tR s := by
  induction n with
  | zero => simp
  | succ n ih =>
    unfold zs at ih ⊢
    rw [List.replicate_succ', ← List.append_assoc, tR_snoc_eq, ih]

theorem tL_zs (s : List UInt8) (n : Nat) : tL (zs n ++ s) = tL s := by
  induction n with
  | zero => simp
  | succ n ih =>
    unfold zs at ih ⊢
    rw [List.replicate_succ, List.cons_append]
    unfold tL Lib.trimLeftB at ih ⊢
    rw [List.dropWhile_cons]
    simp

theorem tL_ne {c : UInt8} {l : List UInt8} (h : ¬ c = 48) : tL (c :: l) = c :: l := by
  unfold tL Lib.trimLeftB
  rw [List.dropWhile_cons]
  simp [h]

/-- A number's digits, the zeros at the right left out, begin with no 0. -/
theorem tR_first {c : UInt8} {l : List UInt8} (h : ¬ c = 48) : ∃ m, tR (c :: l) = c :: m := by
  have h1 := tR_split (c :: l)
  match hm : tR (c :: l) with
  | [] =>
    rw [hm] at h1
    simp only [List.length_cons, List.length_nil, Nat.sub_zero, List.nil_append] at h1
    unfold zs at h1
    rw [List.replicate_succ] at h1
    exact absurd (List.cons.inj h1).1 h
  | d :: m =>
    rw [hm] at h1
    have := (List.cons.inj h1).1
    exact ⟨m, by rw [this]⟩

/-- A number times a power of ten. -/
def ofF (n e : Int) : Bool × List UInt8 × Int := if e < -2000 ∨ 2000 < e then (false, [], 0) else (normF (decide (n < 0)) (Lib.decDigits n.natAbs) e).1

theorem ofF_zero (e : Int) : ofF 0 e = (false, [], 0) := by
  unfold ofF
  split
  · rfl
  · show (normF false (Lib.decDigits 0) e).1 = _
    rw [show Lib.decDigits 0 = [48] from dec_small (by omega), norm_zero]

theorem ofF_num {n e : Int} (h : ¬ n = 0) (hn : n.natAbs < 10 ^ 19) (h0 : -900 ≤ e) (h1 : e ≤ 900) :
    ofF n e = (decide (n < 0), tR (Lib.decDigits n.natAbs), e + ((Lib.decDigits n.natAbs).length - (tR (Lib.decDigits n.natAbs)).length)) ∧
      RightP (decide (n < 0)) (tR (Lib.decDigits n.natAbs)) (e + ((Lib.decDigits n.natAbs).length - (tR (Lib.decDigits n.natAbs)).length)) := by
  have hl := dec_len n.natAbs 19 hn (by omega)
  obtain ⟨c, l, hc, hc2⟩ := dec_first n.natAbs (by omega)
  have hd := dec_isD n.natAbs
  have hs := tR_split (Lib.decDigits n.natAbs)
  have hk := tR_lastOk (Lib.decDigits n.natAbs)
  have hlen := tR_len (Lib.decDigits n.natAbs)
  have hf := tR_first (l := l) hc2
  rw [← hc] at hf
  unfold ofF normF
  generalize Lib.decDigits n.natAbs = D at *
  obtain ⟨m, hm⟩ := hf
  have hd2 : ∀ c ∈ tR D, isD c = true := fun c h => hd c (by rw [hs]; simp [h])
  rw [hm] at hk hlen hd2 ⊢
  simp only [List.length_cons] at hlen
  rw [if_neg (by omega), tL_ne hc2, if_neg (by simp), if_neg (by simp only [List.length_cons]; omega), if_neg (by simp only [List.length_cons]; omega)]
  refine ⟨rfl, ?_⟩
  rw [right_cons (by simp)]
  refine ⟨fun i hi => isD_iff.1 (hd2 _ ?_), by simp only [List.length_cons]; omega, fun h => hc2 ((u8_eq (n := 48) (by omega)).1 h), fun h => ?_, by simp only [List.length_cons]; omega, by simp only [List.length_cons]; omega⟩
  · simp only [Int.toNat_natCast, List.getD_eq_getElem?_getD, List.getElem?_eq_getElem hi, Option.getD_some]
    exact List.getElem_mem hi
  · rcases snoc_casesU (c :: m) with h2 | ⟨r, w, h2⟩
    · simp at h2
    · rw [h2] at h hk
      have e : ((r ++ [w]).length : Int) - 1 = r.length := by simp
      rw [e, at_last] at h
      exact hk w r rfl ((u8_eq (n := 48) (by omega)).1 h)

theorem ofF_len (n e : Int) (h0 : -9223372036854775808 ≤ n) (h1 : n ≤ 9223372036854775807) : (ofF n e).2.1.length ≤ 1000 := by
  have h := dec_len n.natAbs 19 (by omega) (by omega)
  have h2 := tR_len (Lib.decDigits n.natAbs)
  have h3 := tL_len (tR (Lib.decDigits n.natAbs))
  unfold ofF normF
  repeat' split
  all_goals first | decide | (dsimp only; omega)

theorem ofF_right (n e : Int) (h0 : -9223372036854775808 ≤ n) (h1 : n ≤ 9223372036854775807) (he : -900 ≤ e) (he1 : e ≤ 900) : RightP (ofF n e).1 (ofF n e).2.1 (ofF n e).2.2 := by
  by_cases h : n = 0
  · subst h
    rw [ofF_zero]
    decide
  · obtain ⟨e1, e2⟩ := ofF_num h (e := e) (by omega) he he1
    rw [e1]
    exact e2

/-- The whole number that a decimal is. -/
def intF (neg : Bool) (s : List UInt8) (e : Int) : Int × Bool :=
  if ¬ RightP neg s e ∨ e < 0 ∨ 19 < s.length + e then (0, false)
  else if 4611686018427387904 < numL (s ++ zs e.toNat) then (0, false)
  else if neg = true then (-(numL (s ++ zs e.toNat) : Int), true) else ((numL (s ++ zs e.toNat) : Int), true)

theorem intF_of (n : Int) (h0 : -4611686018427387904 ≤ n) (h1 : n ≤ 4611686018427387904) : intF (ofF n 0).1 (ofF n 0).2.1 (ofF n 0).2.2 = (n, true) := by
  by_cases h : n = 0
  · subst h
    rw [ofF_zero]
    rfl
  · obtain ⟨e1, e2⟩ := ofF_num h (e := 0) (by omega) (by omega) (by omega)
    rw [e1]
    have hs := tR_split (Lib.decDigits n.natAbs)
    have hn := dec_num n.natAbs
    have hl := dec_len n.natAbs 19 (by omega) (by omega)
    have hlen := tR_len (Lib.decDigits n.natAbs)
    generalize Lib.decDigits n.natAbs = D at *
    dsimp only
    unfold intF
    rw [if_neg (fun h => h.elim (fun h => h e2) (fun h => by omega)), show (0 + ((D.length : Int) - (tR D).length)).toNat = D.length - (tR D).length by omega, ← hs, hn, if_neg (by omega)]
    by_cases hn0 : n < 0
    · rw [if_pos (decide_eq_true hn0)]
      congr 1
      omega
    · rw [if_neg (by simp; omega)]
      congr 1
      omega

theorem ofF_ten (a e : Int) (h0 : -900 ≤ e) (h1 : e ≤ 900) : ofF (a * 10) (e - 1) = ofF a e := by
  by_cases h : a = 0
  · subst h
    rw [show (0 : Int) * 10 = 0 by omega, ofF_zero, ofF_zero]
  · unfold ofF
    rw [if_neg (by omega), if_neg (by omega), show (a * 10).natAbs = 10 * a.natAbs by omega, dec_ten _ (by omega)]
    have hlen := tR_len (Lib.decDigits a.natAbs)
    unfold normF
    rw [tR_snoc_eq, List.length_append, List.length_singleton]
    have : decide (a * 10 < 0) = decide (a < 0) := decide_eq_decide.2 (by omega)
    rw [this, show e - 1 + (((Lib.decDigits a.natAbs).length + 1 : Nat) - ((tR (Lib.decDigits a.natAbs)).length : Int)) = e + ((Lib.decDigits a.natAbs).length - (tR (Lib.decDigits a.natAbs)).length) by omega]

/-! ### Numbers of one power of ten lie as the numbers do -/

theorem pad_zs (s : List UInt8) (n j : Nat) : pad (s ++ zs n) j = pad s j := by
  unfold pad
  by_cases h : j < s.length
  · rw [if_pos h, if_pos (by simp; omega)]
    unfold at'
    simp only [Int.toNat_natCast, List.getD_eq_getElem?_getD]
    rw [List.getElem?_append_left h]
  · rw [if_neg h]
    split
    · rename_i h2
      unfold at'
      simp only [Int.toNat_natCast, List.getD_eq_getElem?_getD]
      rw [List.getElem?_append_right (by omega)]
      simp only [List.length_append, List.length_replicate] at h2
      unfold zs
      rw [List.getElem?_replicate, if_pos (by omega)]
      rfl
    · rfl

theorem cmpInt_lt {a b : Int} (h : a < b) : Lib.compareInt a b = -1 := by unfold Lib.compareInt; rw [if_pos h]
theorem cmpInt_gt {a b : Int} (h : b < a) : Lib.compareInt a b = 1 := by unfold Lib.compareInt; rw [if_neg (by omega), if_pos h]
theorem cmpInt_eq {a b : Int} (h : a = b) : Lib.compareInt a b = 0 := by unfold Lib.compareInt; rw [if_neg (by omega), if_neg (by omega)]

/-- Of digits as many as of the others, the first that differs tells. -/
theorem ord_num : ∀ (x y : List UInt8) (f g : Int → Int) (p : Int), x.length = y.length → (∀ c ∈ x, isD c = true) → (∀ c ∈ y, isD c = true) → (∀ j : Nat, f (p - j) = pad x j) → (∀ j : Nat, g (p - j) = pad y j) →
    ordG f g x.length p = Lib.compareInt (numL x) (numL y)
  | [], [], f, g, p, _, _, _, _, _ => rfl
  | [], _ :: _, f, g, p, h, _, _, _, _ => by simp at h
  | _ :: _, [], f, g, p, h, _, _, _, _ => by simp at h
  | c :: x, d :: y, f, g, p, hl, hx, hy, hf, hg => by
    have hl2 : x.length = y.length := by simpa using hl
    have c1 := isD_nat (hx c (by simp))
    have d1 := isD_nat (hy d (by simp))
    have lx := numL_lt x fun c hc => hx c (by simp [hc])
    have ly := numL_lt y fun c hc => hy c (by simp [hc])
    have f0 := hf 0
    have g0 := hg 0
    rw [pad_cons0] at f0 g0
    simp only [Int.natCast_zero, Int.sub_zero] at f0 g0
    have ih := ord_num x y f g (p - 1) hl2 (fun c hc => hx c (by simp [hc])) (fun c hc => hy c (by simp [hc]))
      (fun j => by
        have := hf (j + 1)
        rw [pad_cons] at this
        rw [← this]
        congr 1
        omega)
      (fun j => by
        have := hg (j + 1)
        rw [pad_cons] at this
        rw [← this]
        congr 1
        omega)
    rw [List.length_cons, numL_cons, numL_cons, ordG, f0, g0, ih, ← hl2]
    rw [← hl2] at ly
    generalize 10 ^ x.length = t at *
    by_cases h1 : c.toNat < d.toNat
    · have : (c.toNat - 48 + 1) * t ≤ (d.toNat - 48) * t := Nat.mul_le_mul_right _ (by omega)
      rw [Nat.add_mul, Nat.one_mul] at this
      rw [if_pos (by omega), cmpInt_lt (by omega)]
    · by_cases h2 : d.toNat < c.toNat
      · have : (d.toNat - 48 + 1) * t ≤ (c.toNat - 48) * t := Nat.mul_le_mul_right _ (by omega)
        rw [Nat.add_mul, Nat.one_mul] at this
        rw [if_neg (by omega), if_pos (by omega), cmpInt_gt (by omega)]
      · rw [if_neg (by omega), if_neg (by omega), show c.toNat = d.toNat by omega]
        unfold Lib.compareInt
        generalize (d.toNat - 48) * t = z
        repeat' split
        all_goals omega

theorem size_num (x y : List UInt8) (hx : ∀ c ∈ x, isD c = true) (hy : ∀ c ∈ y, isD c = true) (fx : ∃ c l, x = c :: l ∧ ¬ c = 48) (fy : ∃ c l, y = c :: l ∧ ¬ c = 48) (e : Int) :
    sizeF (tR x) (e + (x.length - (tR x).length)) (tR y) (e + (y.length - (tR y).length)) = Lib.compareInt (numL x) (numL y) := by
  have lx := numL_lt x hx
  have ly := numL_lt y hy
  have sx := tR_split x
  have sy := tR_split y
  have kx := tR_lastOk x
  have ky := tR_lastOk y
  have nx := tR_len x
  have ny := tR_len y
  unfold sizeF
  rw [show ((tR x).length : Int) + (e + (x.length - (tR x).length)) = e + x.length by omega, show ((tR y).length : Int) + (e + (y.length - (tR y).length)) = e + y.length by omega]
  by_cases h1 : x.length < y.length
  · obtain ⟨c, l, rfl, hc⟩ := fy
    have := numL_ge (l := l) (hy c (by simp)) hc
    have h2 : 10 ^ x.length ≤ 10 ^ l.length := Nat.pow_le_pow_right (by decide) (by simp at h1; omega)
    rw [cmpInt_lt (by omega), if_neg (by decide), cmpInt_lt (by omega)]
  · by_cases h2 : y.length < x.length
    · obtain ⟨c, l, rfl, hc⟩ := fx
      have := numL_ge (l := l) (hx c (by simp)) hc
      have h2 : 10 ^ y.length ≤ 10 ^ l.length := Nat.pow_le_pow_right (by decide) (by simp at h2; omega)
      rw [cmpInt_gt (by omega), if_neg (by decide), cmpInt_gt (by omega)]
    · rw [cmpInt_eq (by omega), if_pos rfl]
      have dx : digs (tR x) := fun i hi => isD_iff.1 (hx _ (tR_mem (by
        simp only [Int.toNat_natCast, List.getD_eq_getElem?_getD, List.getElem?_eq_getElem hi, Option.getD_some]
        exact List.getElem_mem hi)))
      have dy : digs (tR y) := fun i hi => isD_iff.1 (hy _ (tR_mem (by
        simp only [Int.toNat_natCast, List.getD_eq_getElem?_getD, List.getElem?_eq_getElem hi, Option.getD_some]
        exact List.getElem_mem hi)))
      have k1 := cmp_pad (tR x) (tR y) x.length (fun q => pad x (-q).toNat) (fun q => pad y (-q).toNat) 0 dx dy kx ky (by omega) (by omega)
        (fun j => by
          show pad x (-(0 - (j : Int))).toNat = _
          rw [show (-(0 - (j : Int))).toNat = j by omega]
          conv => lhs; rw [sx]
          exact pad_zs ..)
        (fun j => by
          show pad y (-(0 - (j : Int))).toNat = _
          rw [show (-(0 - (j : Int))).toNat = j by omega]
          conv => lhs; rw [sy]
          exact pad_zs ..)
      have k2 := ord_num x y (fun q => pad x (-q).toNat) (fun q => pad y (-q).toNat) 0 (by omega) hx hy
        (fun j => by
          show pad x (-(0 - (j : Int))).toNat = _
          rw [show (-(0 - (j : Int))).toNat = j by omega])
        (fun j => by
          show pad y (-(0 - (j : Int))).toNat = _
          rw [show (-(0 - (j : Int))).toNat = j by omega])
      rw [← k2, ← k1]

theorem order_num (a b e : Int) (ha : a.natAbs < 10 ^ 19) (hb : b.natAbs < 10 ^ 19) (h0 : -900 ≤ e) (h1 : e ≤ 900) :
    orderF (ofF a e).1 (ofF a e).2.1 (ofF a e).2.2 (ofF b e).1 (ofF b e).2.1 (ofF b e).2.2 = Lib.compareInt a b := by
  have sg : ∀ n : Int, n.natAbs < 10 ^ 19 → signF (ofF n e).1 (ofF n e).2.1 = if n = 0 then 0 else if n < 0 then -1 else 1 := fun n hn => by
    by_cases h : n = 0
    · subst h
      rw [ofF_zero]
      rfl
    · obtain ⟨e1, e2⟩ := ofF_num h (e := e) hn h0 h1
      rw [e1, if_neg h]
      obtain ⟨c, l, hc, hc2⟩ := dec_first n.natAbs (by omega)
      obtain ⟨m, hm⟩ := tR_first (l := l) hc2
      rw [← hc] at hm
      unfold signF
      dsimp only
      rw [hm, if_neg (by simp)]
      simp
  unfold orderF
  rw [sg a ha, sg b hb]
  by_cases hz : a = 0
  · rw [if_pos hz, if_pos (.inr rfl)]
    unfold Lib.compareInt
    repeat' split
    all_goals omega
  · rw [if_neg hz]
    by_cases hs : (if a < 0 then (-1 : Int) else 1) = if b = 0 then 0 else if b < 0 then -1 else 1
    · have hb0 : ¬ b = 0 := fun h => by
        rw [if_pos h] at hs
        split at hs <;> omega
      rw [if_neg hb0] at hs ⊢
      rw [if_neg (by
        rintro (h | h)
        · exact h hs
        · split at h <;> omega)]
      rw [(ofF_num hz ha h0 h1).1, (ofF_num hb0 hb h0 h1).1]
      dsimp only
      rw [size_num _ _ (dec_isD _) (dec_isD _) (dec_first _ (by omega)) (dec_first _ (by omega)), dec_num, dec_num]
      unfold Lib.compareInt
      by_cases h2 : a < 0
      · have : b < 0 := by
          rw [if_pos h2] at hs
          split at hs <;> omega
        rw [if_pos h2]
        repeat' split
        all_goals omega
      · have : ¬ b < 0 := by
          rw [if_neg h2] at hs
          split at hs <;> omega
        rw [if_neg h2]
        repeat' split
        all_goals omega
    · rw [if_pos (.inl hs)]
      unfold Lib.compareInt
      by_cases h2 : a < 0
      · rw [if_pos h2] at hs ⊢
        repeat' split
        all_goals (repeat' split at hs)
        all_goals omega
      · rw [if_neg h2] at hs ⊢
        repeat' split
        all_goals (repeat' split at hs)
        all_goals omega

end Go.Proofs.YteidmimpkipcfaaDoor.Flow

/- WHOLE: whole numbers among the bits of doubles, in plain words. -/
namespace Go.Proofs.YteidmimpkipcfaaDoor.Flow
open Go

/-- A number below 1 halved, as long as it is even. -/
def hvG : Nat → Nat → Int → Nat × Int
  | 0, m, e => (m, e)
  | k + 1, m, e => if e < 0 ∧ m % 2 = 0 ∧ 0 < m then hvG k (m / 2) (e + 1) else (m, e)

theorem hvG_fuel : ∀ (k k' m : Nat) (e : Int), m ≤ k → m ≤ k' → hvG k m e = hvG k' m e
  | 0, 0, m, e, _, _ => rfl
  | 0, k' + 1, m, e, h, _ => by
    unfold hvG
    rw [if_neg (by omega)]
  | k + 1, 0, m, e, _, h => by
    unfold hvG
    rw [if_neg (by omega)]
  | k + 1, k' + 1, m, e, h, h' => by
    unfold hvG
    split
    · exact hvG_fuel k k' (m / 2) (e + 1) (by omega) (by omega)
    · rfl

def hv (m : Nat) (e : Int) : Nat × Int := hvG m m e
theorem hv_stop {m : Nat} {e : Int} (h : ¬ (e < 0 ∧ m % 2 = 0 ∧ 0 < m)) : hv m e = (m, e) := by
  unfold hv
  cases m with
  | zero => rfl
  | succ m =>
    unfold hvG
    rw [if_neg h]
theorem hv_step {m : Nat} {e : Int} (h : e < 0 ∧ m % 2 = 0 ∧ 0 < m) : hv m e = hv (m / 2) (e + 1) := by
  unfold hv
  cases m with
  | zero => omega
  | succ m =>
    conv => lhs; unfold hvG
    rw [if_pos h]
    exact hvG_fuel _ _ _ _ (by omega) (Nat.le_refl _)

theorem hv_pow (n : Nat) (hn : 0 < n) : ∀ (j : Nat), hv (n * 2 ^ j) (-(j : Int)) = (n, 0)
  | 0 => by
    rw [hv_stop (by omega)]
    simp
  | j + 1 => by
    have e : n * 2 ^ (j + 1) = 2 * (n * 2 ^ j) := by rw [Nat.pow_succ, ← Nat.mul_assoc, Nat.mul_comm]
    have hp : 0 < n * 2 ^ j := Nat.mul_pos hn (Nat.two_pow_pos j)
    rw [hv_step (by rw [e]; omega), e, show 2 * (n * 2 ^ j) / 2 = n * 2 ^ j by omega, show -((j + 1 : Nat) : Int) + 1 = -(j : Int) by omega]
    exact hv_pow n hn j

/-- The whole number up to 2^53 that m times 2 to the e is. -/
def whF (r : Nat × Int) : Option Nat :=
  if r.1 = 0 then some 0 else if r.2 < 0 then none else if 9007199254740992 < r.1 * 2 ^ r.2.toNat then none else some (r.1 * 2 ^ r.2.toNat)

/-- The whole number that bits are. -/
def wholeF (b : Nat) : Option Int :=
  if xP b = 2047 then none
  else match whF (hv (mB (b % 9223372036854775808)) (eB (b % 9223372036854775808))) with
    | none => none
    | some n => some (if 9223372036854775808 ≤ b then -(n : Int) else n)

theorem whF_le {r : Nat × Int} {n : Nat} (h : whF r = some n) : n ≤ 9007199254740992 := by
  unfold whF at h
  repeat' split at h
  all_goals first | (cases h; done) | (have := Option.some.inj h; omega)

theorem wholeF_range {b : Nat} {n : Int} (h : wholeF b = some n) : -9007199254740992 ≤ n ∧ n ≤ 9007199254740992 := by
  unfold wholeF at h
  split at h
  · cases h
  · split at h
    · cases h
    · rename_i k hk
      have := whF_le hk
      have h := Option.some.inj h
      split at h <;> omega

/-- A whole number's text, if there is one. -/
def wText : Option Int → List UInt8 × Bool
  | none => ([], false)
  | some n => (textF (ofF n 0).1 (ofF n 0).2.1 (ofF n 0).2.2, true)

/-! ### The number's own bits -/

theorem pow_between : ∀ n : Nat, 0 < n → ∃ k, 2 ^ k ≤ n ∧ n < 2 ^ (k + 1) := by
  intro n
  induction n using Nat.strongRecOn with
  | ind n ih =>
    intro h
    by_cases h1 : n = 1
    · exact ⟨0, by omega, by omega⟩
    · obtain ⟨k, h2, h3⟩ := ih (n / 2) (by omega) (by omega)
      refine ⟨k + 1, ?_, ?_⟩
      · rw [Nat.pow_succ]
        omega
      · rw [Nat.pow_succ]
        omega

theorem pow_aux {k : Nat} (h : k < 53) : max (k + 1023) 1 = k + 1023 ∧ 52 - k + (k + 1023) = 1075 := by omega

theorem tw_add (a b : Nat) : tw a * tw b = tw (a + b) := (Nat.pow_add 2 a b).symm

/-- A number from 1 to 2^53 has bits of its own. -/
theorem own_bits (n : Nat) (h0 : 0 < n) (h1 : n ≤ 9007199254740992) : ∃ b : Nat, xB b < 2047 ∧ wB b = n * tw 1075 ∧ whF (hv (mB b) (eB b)) = some n := by
  obtain ⟨k, h2, h3⟩ := pow_between n h0
  have hk : k ≤ 53 := by
    rcases Nat.lt_or_ge 53 k with h | h
    · have := Nat.pow_le_pow_right (show 0 < 2 by decide) (show 54 ≤ k from h)
      omega
    · exact h
  rcases Nat.lt_or_ge k 53 with hlt | hge
  · have e52 : (4503599627370496 : Nat) = 2 ^ k * 2 ^ (52 - k) := by
      rw [← Nat.pow_add, show k + (52 - k) = 52 by omega]
    have hm1 : 4503599627370496 ≤ n * 2 ^ (52 - k) := by
      rw [e52]
      exact Nat.mul_le_mul_right _ h2
    have hm2 : n * 2 ^ (52 - k) < 9007199254740992 := by
      have : (9007199254740992 : Nat) = 2 ^ (k + 1) * 2 ^ (52 - k) := by
        rw [← Nat.pow_add, show k + 1 + (52 - k) = 53 by omega]
      rw [this]
      exact Nat.mul_lt_mul_of_pos_right h3 (Nat.two_pow_pos _)
    generalize hM : n * 2 ^ (52 - k) = M at *
    have hx : xB ((k + 1023) * 4503599627370496 + (M - 4503599627370496)) = k + 1023 := by
      unfold xB
      omega
    have hm : mB ((k + 1023) * 4503599627370496 + (M - 4503599627370496)) = M := by
      unfold mB
      rw [hx, if_neg (by omega)]
      omega
    refine ⟨(k + 1023) * 4503599627370496 + (M - 4503599627370496), by rw [hx]; omega, ?_, ?_⟩
    · unfold wB uB
      obtain ⟨q1, q2⟩ := pow_aux hlt
      have q3 : (2 : Nat) ^ (52 - k) = tw (52 - k) := rfl
      rw [hm, hx, q1, ← hM, Nat.mul_assoc, q3, tw_add, q2]
    · have he : eB ((k + 1023) * 4503599627370496 + (M - 4503599627370496)) = -((52 - k : Nat) : Int) := by
        unfold eB
        rw [hx, if_neg (by omega)]
        omega
      rw [hm, he, ← hM, hv_pow n h0 (52 - k)]
      unfold whF
      rw [if_neg (by dsimp only; omega), if_neg (by dsimp only; omega)]
      dsimp only
      rw [show (0 : Int).toNat = 0 from rfl, Nat.pow_zero, Nat.mul_one, if_neg (by omega)]
  · obtain rfl : k = 53 := by omega
    obtain rfl : n = 9007199254740992 := by omega
    have hx : xB (1076 * 4503599627370496) = 1076 := by decide
    have hm : mB (1076 * 4503599627370496) = 4503599627370496 := by decide
    refine ⟨1076 * 4503599627370496, by rw [hx]; decide, ?_, by decide⟩
    unfold wB uB
    rw [hm, hx, show max 1076 1 = 1076 by decide, show (4503599627370496 : Nat) = tw 52 by decide, show (9007199254740992 : Nat) = tw 53 by decide, tw_add, tw_add]

/-- Its own bits are the nearest. -/
theorem ro_own {n b : Nat} (hx : xB b < 2047) (hw : wB b = n * tw 1075) : roB n 1 = b := by
  obtain ⟨f1, f2, f3, _⟩ := flB_ok n 1
  rw [Nat.one_mul, ← hw] at f2
  have hfl : flB n 1 = b := by
    rcases Nat.lt_trichotomy (flB n 1) b with h | h | h
    · have hle : flB n 1 + 1 ≤ b := h
      have h1 : xB (flB n 1 + 1) < 2047 := by
        have : xB (flB n 1 + 1) ≤ xB b := Nat.div_le_div_right hle
        omega
      have h2 := f3 h1
      have h3 := w_mono hle
      rw [Nat.one_mul, ← hw] at h2
      omega
    · exact h
    · have h3 := w_mono (show b + 1 ≤ flB n 1 from h)
      have h4 := w_succ b
      have h5 := h_lt_u b
      omega
  unfold roB
  rw [hfl, if_neg]
  rw [up_iff, Nat.one_mul, ← hw]
  have := hB_pos b
  omega

theorem not_over {n : Nat} (h : n ≤ 9007199254740992) : ¬ overB n 1 := by
  rw [over_iff, Nat.one_mul]
  have h0 : ∀ a b : Nat, a ≤ b → tw a ≤ tw b := fun a b h => Nat.pow_le_pow_right (by decide) h
  have h1 := h0 1075 2045 (by decide)
  have h2 : 18014398509481983 * tw 1075 ≤ 18014398509481983 * tw 2045 := Nat.mul_le_mul_left _ h1
  have h3 : n * tw 1075 ≤ 9007199254740992 * tw 1075 := Nat.mul_le_mul_right _ h
  have h4 : 9007199254740992 * tw 1075 < 18014398509481983 * tw 1075 := Nat.mul_lt_mul_of_pos_right (by decide) (tw_pos _)
  omega

theorem dgV_num (s : List UInt8) : dgV s = numL s := rfl

theorem num_zs (s : List UInt8) (z : Nat) : numL (s ++ zs z) = numL s * 10 ^ z := by
  unfold numL
  rw [numA_app]
  generalize numA 0 s = a
  induction z generalizing a with
  | zero => simp [numA_nil]
  | succ z ih =>
    have e : zs (z + 1) = 48 :: zs z := List.replicate_succ
    rw [e, numA_cons, ih, Nat.pow_succ, show (48 : UInt8).toNat - 48 = 0 from rfl, Nat.add_zero, Nat.mul_comm 10 a, Nat.mul_assoc, Nat.mul_comm 10]

/-- The bits of a whole number up to 2^53 are that number. -/
theorem whole_of (n : Int) (h0 : -9007199254740992 ≤ n) (h1 : n ≤ 9007199254740992) :
    ¬ overB (numV (ofF n 0).2.1 (ofF n 0).2.2) (denV (ofF n 0).2.2) ∧ wholeF (bitsV (ofF n 0).1 (ofF n 0).2.1 (ofF n 0).2.2) = some n ∧ bitsV (ofF n 0).1 (ofF n 0).2.1 (ofF n 0).2.2 < 18446744073709551616 := by
  by_cases hz : n = 0
  · subst hz
    rw [ofF_zero]
    have hb : bitsV false [] 0 = 0 := by
      have : roB 0 1 = 0 := ro_own (n := 0) (b := 0) (by decide) (by rw [w_zero, Nat.zero_mul])
      have q1 : numV [] 0 = 0 := by decide
      have q2 : denV 0 = 1 := by decide
      unfold bitsV
      rw [q1, q2, this, if_neg (by simp)]
    refine ⟨?_, ?_, ?_⟩
    · have q1 : numV [] 0 = 0 := by decide
      have q2 : denV 0 = 1 := by decide
      dsimp only
      rw [q1, q2]
      exact not_over (by decide)
    · rw [hb]
      unfold wholeF
      rw [if_neg (by decide), show mB (0 % 9223372036854775808) = 0 by decide, hv_stop (by omega)]
      rfl
    · rw [hb]
      decide
  · obtain ⟨e1, e2⟩ := ofF_num hz (e := 0) (by omega) (by omega) (by omega)
    rw [e1]
    have hs := tR_split (Lib.decDigits n.natAbs)
    have hn := dec_num n.natAbs
    have hlen := tR_len (Lib.decDigits n.natAbs)
    obtain ⟨c, l, hc, hc2⟩ := dec_first n.natAbs (by omega)
    obtain ⟨m, hm⟩ := tR_first (l := l) hc2
    rw [← hc] at hm
    generalize Lib.decDigits n.natAbs = D at *
    dsimp only
    have hz2 : (0 + ((D.length : Int) - (tR D).length)).toNat = D.length - (tR D).length := by omega
    have hnum : numV (tR D) (0 + ((D.length : Int) - (tR D).length)) = n.natAbs := by
      unfold numV
      rw [hz2, dgV_num, ← num_zs, ← hs, hn]
    have hden : denV (0 + ((D.length : Int) - (tR D).length)) = 1 := by
      unfold denV
      rw [show (-(0 + ((D.length : Int) - (tR D).length))).toNat = 0 by omega]
    rw [hnum, hden]
    refine ⟨not_over (by omega), ?_⟩
    obtain ⟨b, b1, b2, b3⟩ := own_bits n.natAbs (by omega) (by omega)
    have hr := ro_own b1 b2
    have hb63 : b < 9223372036854775808 := by
      unfold xB at b1
      omega
    have hv : bitsV (decide (n < 0)) (tR D) (0 + ((D.length : Int) - (tR D).length)) = b + (if n < 0 then 9223372036854775808 else 0) := by
      unfold bitsV
      rw [hnum, hden, hr, hm]
      by_cases hneg : n < 0
      · rw [if_pos ⟨decide_eq_true hneg, by simp⟩, if_pos hneg]
      · rw [if_neg (by simp [hneg]), if_neg hneg]
    rw [hv]
    have hmod : (b + (if n < 0 then 9223372036854775808 else 0)) % 9223372036854775808 = b := by split <;> omega
    have hxp : xP (b + (if n < 0 then 9223372036854775808 else 0)) = xB b := by
      unfold xP xB
      split <;> omega
    refine ⟨?_, by split <;> omega⟩
    unfold wholeF
    rw [hxp, if_neg (by omega), hmod, b3]
    dsimp only
    by_cases hneg : n < 0
    · rw [if_pos hneg, if_pos (by omega)]
      congr 1
      omega
    · rw [if_neg hneg, if_neg (by omega)]
      congr 1
      omega

end Go.Proofs.YteidmimpkipcfaaDoor.Flow
