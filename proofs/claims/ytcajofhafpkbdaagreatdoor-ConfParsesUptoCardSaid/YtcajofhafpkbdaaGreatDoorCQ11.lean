/- The texts Shelf, Libs, D2, D3, J1, G1, FlowQ, FlowR, G2, one behind the other. -/
import Derived.Test.YtcajofhafpkbdaaGreatDoorCQ8
import Derived.Test.YtcajofhafpkbdaaGreatDoorCQ10
import Derived.Shelf.Strings.Trim
import Derived.Shelf.Small.Strs
import Derived.Shelf.Strconv.Itoa0
import Derived.Shelf.Strconv.Itoa1
import Derived.Shelf.LaysM
import Derived.Shelf.Strconv.Itoa2
import Derived.Shelf.Strconv.Itoa3
import Derived.Shelf.Strings.Prefix
import Derived.Shelf.Strings.Repeat
import Derived.Test.YtcajofhafpkbdaaGreatDoorProg
import Derived.Lib.TrimByte
import Derived.Sort.Grow
import Derived.Test.YtcajofhafpkbdaaGreatDoorRows
import Derived.ProofKit
import Derived.OpenShut
import Derived.JoinedCond
namespace Go.Proofs
open Go.Shelf
def Tryz.lays161_ren : Go.Shelf.Ren := ⟨fun | 161 => 121 | 231 => 148 | 227 => 145 | 233 => 149 | 235 => 150 | 228 => 163 | 197 => 166 | 151 => 165 | 260 => 177 | 152 => 176 | 137 => 82 | 119 => 182 | 224 => 183 | 225 => 184 | 217 => 112 | 266 => 138 | n => n, fun | 9 => 9 | 4 => 4 | 3 => 3 | 5 => 5 | 117 => 179 | 116 => 178 | 0 => 0 | 124 => 182 | 105 => 198 | 21 => 21 | 119 => 157 | 46 => 155 | 139 => 160 | 138 => 159 | n => n, fun | 3 => 0 | 4 => 1 | n => n⟩
theorem Tryz.lays161 : Go.Proofs.Lays.n161 Tryz.prog Tryz.lays161_ren := {
  mixed := by kernel_rfl
  f119 := Tryz.func182.trans (congrArg some (by kernel_rfl))
  f137 := Tryz.func82.trans (congrArg some (by kernel_rfl))
  f151 := Tryz.func165.trans (congrArg some (by kernel_rfl))
  f152 := Tryz.func176.trans (congrArg some (by kernel_rfl))
  f161 := Tryz.func121.trans (congrArg some (by kernel_rfl))
  f197 := Tryz.func166.trans (congrArg some (by kernel_rfl))
  f217 := Tryz.func112.trans (congrArg some (by kernel_rfl))
  f224 := Tryz.func183.trans (congrArg some (by kernel_rfl))
  f225 := Tryz.func184.trans (congrArg some (by kernel_rfl))
  f227 := Tryz.func145.trans (congrArg some (by kernel_rfl))
  f228 := Tryz.func163.trans (congrArg some (by kernel_rfl))
  f231 := Tryz.func148.trans (congrArg some (by kernel_rfl))
  f233 := Tryz.func149.trans (congrArg some (by kernel_rfl))
  f235 := Tryz.func150.trans (congrArg some (by kernel_rfl))
  f260 := Tryz.func177.trans (congrArg some (by kernel_rfl))
  f266 := Tryz.func138.trans (congrArg some (by kernel_rfl))
  t0 := Tryz.underlying0
  a0 := Tryz.isAgg0
  z0 := Tryz.sizeOf0
  v0 := Tryz.zeroValue0
  t3 := Tryz.underlying3
  a3 := Tryz.isAgg3
  z3 := Tryz.sizeOf3
  v3 := Tryz.zeroValue3
  t4 := Tryz.underlying4
  a4 := Tryz.isAgg4
  z4 := Tryz.sizeOf4
  v4 := Tryz.zeroValue4
  t5 := Tryz.underlying5
  a5 := Tryz.isAgg5
  z5 := Tryz.sizeOf5
  v5 := Tryz.zeroValue5
  t9 := Tryz.underlying9
  a9 := Tryz.isAgg9
  z9 := Tryz.sizeOf9
  v9 := Tryz.zeroValue9
  t21 := Tryz.underlying21
  a21 := Tryz.isAgg21
  z21 := Tryz.sizeOf21
  v21 := Tryz.zeroValue21
  t46 := Tryz.underlying155
  a46 := Tryz.isAgg155
  z46 := Tryz.sizeOf155
  v46 := Tryz.zeroValue155
  t105 := Tryz.underlying198
  a105 := Tryz.isAgg198
  z105 := Tryz.sizeOf198
  v105 := Tryz.zeroValue198
  t116 := Tryz.underlying178
  a116 := Tryz.isAgg178
  z116 := Tryz.sizeOf178
  t117 := Tryz.underlying179
  a117 := Tryz.isAgg179
  z117 := Tryz.sizeOf179
  v117 := Tryz.zeroValue179
  t119 := Tryz.underlying157
  a119 := Tryz.isAgg157
  z119 := Tryz.sizeOf157
  t124 := Tryz.underlying182
  a124 := Tryz.isAgg182
  z124 := Tryz.sizeOf182
  v124 := Tryz.zeroValue182
  t138 := Tryz.underlying159
  a138 := Tryz.isAgg159
  z138 := Tryz.sizeOf159
  v138 := Tryz.zeroValue159
  t139 := Tryz.underlying160
  a139 := Tryz.isAgg160
  z139 := Tryz.sizeOf160
  v139 := Tryz.zeroValue160
  g3 := by kernel_rfl
  g4 := by kernel_rfl }
open Go.RowKit in
theorem Tryz.strings_TrimLeft_one (s : ByteArray) (c : UInt8) (hc : c.toNat < 128) (w : World) :
    Calls Tryz.prog 121 #[.string s, .string ⟨#[c]⟩] w fun e w' => e = .returned (.string ⟨(Lib.trimLeftB s.data.toList c).toArray⟩) ∧ w' = w := Any.strings_TrimLeft_one Tryz.lays161 s c hc w
def Tryz.lays162_ren : Go.Shelf.Ren := ⟨fun | 162 => 120 | 232 => 144 | 227 => 145 | 234 => 146 | 236 => 147 | 228 => 163 | 271 => 164 | 151 => 165 | 120 => 175 | 197 => 166 | 152 => 176 | 260 => 177 | 137 => 82 | 119 => 182 | 224 => 183 | 225 => 184 | 217 => 112 | 266 => 138 | n => n, fun | 9 => 9 | 4 => 4 | 3 => 3 | 5 => 5 | 117 => 179 | 116 => 178 | 0 => 0 | 124 => 182 | 21 => 21 | 105 => 198 | 46 => 155 | 119 => 157 | 139 => 160 | 138 => 159 | n => n, fun | 3 => 0 | 4 => 1 | n => n⟩
theorem Tryz.lays162 : Go.Proofs.Lays.n162 Tryz.prog Tryz.lays162_ren := {
  mixed := by kernel_rfl
  f119 := Tryz.func182.trans (congrArg some (by kernel_rfl))
  f120 := Tryz.func175.trans (congrArg some (by kernel_rfl))
  f137 := Tryz.func82.trans (congrArg some (by kernel_rfl))
  f151 := Tryz.func165.trans (congrArg some (by kernel_rfl))
  f152 := Tryz.func176.trans (congrArg some (by kernel_rfl))
  f162 := Tryz.func120.trans (congrArg some (by kernel_rfl))
  f197 := Tryz.func166.trans (congrArg some (by kernel_rfl))
  f217 := Tryz.func112.trans (congrArg some (by kernel_rfl))
  f224 := Tryz.func183.trans (congrArg some (by kernel_rfl))
  f225 := Tryz.func184.trans (congrArg some (by kernel_rfl))
  f227 := Tryz.func145.trans (congrArg some (by kernel_rfl))
  f228 := Tryz.func163.trans (congrArg some (by kernel_rfl))
  f232 := Tryz.func144.trans (congrArg some (by kernel_rfl))
  f234 := Tryz.func146.trans (congrArg some (by kernel_rfl))
  f236 := Tryz.func147.trans (congrArg some (by kernel_rfl))
  f260 := Tryz.func177.trans (congrArg some (by kernel_rfl))
  f266 := Tryz.func138.trans (congrArg some (by kernel_rfl))
  f271 := Tryz.func164.trans (congrArg some (by kernel_rfl))
  t0 := Tryz.underlying0
  a0 := Tryz.isAgg0
  z0 := Tryz.sizeOf0
  v0 := Tryz.zeroValue0
  t3 := Tryz.underlying3
  a3 := Tryz.isAgg3
  z3 := Tryz.sizeOf3
  v3 := Tryz.zeroValue3
  t4 := Tryz.underlying4
  a4 := Tryz.isAgg4
  z4 := Tryz.sizeOf4
  v4 := Tryz.zeroValue4
  t5 := Tryz.underlying5
  a5 := Tryz.isAgg5
  z5 := Tryz.sizeOf5
  v5 := Tryz.zeroValue5
  t9 := Tryz.underlying9
  a9 := Tryz.isAgg9
  z9 := Tryz.sizeOf9
  v9 := Tryz.zeroValue9
  t21 := Tryz.underlying21
  a21 := Tryz.isAgg21
  z21 := Tryz.sizeOf21
  v21 := Tryz.zeroValue21
  t46 := Tryz.underlying155
  a46 := Tryz.isAgg155
  z46 := Tryz.sizeOf155
  v46 := Tryz.zeroValue155
  t105 := Tryz.underlying198
  a105 := Tryz.isAgg198
  z105 := Tryz.sizeOf198
  v105 := Tryz.zeroValue198
  t116 := Tryz.underlying178
  a116 := Tryz.isAgg178
  z116 := Tryz.sizeOf178
  t117 := Tryz.underlying179
  a117 := Tryz.isAgg179
  z117 := Tryz.sizeOf179
  v117 := Tryz.zeroValue179
  t119 := Tryz.underlying157
  a119 := Tryz.isAgg157
  z119 := Tryz.sizeOf157
  t124 := Tryz.underlying182
  a124 := Tryz.isAgg182
  z124 := Tryz.sizeOf182
  v124 := Tryz.zeroValue182
  t138 := Tryz.underlying159
  a138 := Tryz.isAgg159
  z138 := Tryz.sizeOf159
  v138 := Tryz.zeroValue159
  t139 := Tryz.underlying160
  a139 := Tryz.isAgg160
  z139 := Tryz.sizeOf160
  v139 := Tryz.zeroValue160
  g3 := by kernel_rfl
  g4 := by kernel_rfl }
open Go.RowKit in
theorem Tryz.strings_TrimRight_one (s : ByteArray) (c : UInt8) (hc : c.toNat < 128) (w : World) (hs : s.size ≤ 9223372036854775807) :
    Calls Tryz.prog 120 #[.string s, .string ⟨#[c]⟩] w fun e w' => e = .returned (.string ⟨(Lib.trimRightB s.data.toList c).toArray⟩) ∧ w' = w := Any.strings_TrimRight_one Tryz.lays162 s c hc w hs
def Tryz.lays137_ren : Go.Shelf.Ren := ⟨fun | 137 => 82 | 217 => 112 | 266 => 138 | n => n, fun | 9 => 9 | 5 => 5 | 3 => 3 | n => n, fun | n => n⟩
theorem Tryz.lays137 : Go.Proofs.Lays.n137 Tryz.prog Tryz.lays137_ren := {
  mixed := by kernel_rfl
  f137 := Tryz.func82.trans (congrArg some (by kernel_rfl))
  f217 := Tryz.func112.trans (congrArg some (by kernel_rfl))
  f266 := Tryz.func138.trans (congrArg some (by kernel_rfl))
  t3 := Tryz.underlying3
  a3 := Tryz.isAgg3
  z3 := Tryz.sizeOf3
  v3 := Tryz.zeroValue3
  t5 := Tryz.underlying5
  a5 := Tryz.isAgg5
  z5 := Tryz.sizeOf5
  v5 := Tryz.zeroValue5
  t9 := Tryz.underlying9
  a9 := Tryz.isAgg9
  z9 := Tryz.sizeOf9
  v9 := Tryz.zeroValue9 }
open Go.RowKit in
theorem Tryz.strings_IndexByte (s : ByteArray) (c : Int) (w : World) :
    Calls Tryz.prog 82 #[.string s, .int .u8 c] w fun e w' => e = .returned (.int .i64 (Lib.indexByte s.data.toList c.toNat.toUInt8)) ∧ w' = w := Any.strings_IndexByte Tryz.lays137 s c w
open Go.Lib in
open Go.Lib in
open Go.RowKit Go.Sort Go.Lib in
def Tryz.laysM171_ren : Go.Shelf.Ren := ⟨fun | 171 => 94 | 243 => 119 | 246 => 143 | 283 => 159 | 284 => 160 | 285 => 161 | 286 => 162 | 129 => 171 | 317 => 170 | 318 => 172 | 319 => 173 | 320 => 174 | 337 => 180 | 338 => 181 | n => n, fun | 3 => 3 | 9 => 9 | 2 => 2 | 4 => 4 | 171 => 193 | 0 => 0 | 53 => 99 | 37 => 108 | 5 => 5 | 173 => 196 | 212 => 205 | 51 => 187 | 20 => 20 | 213 => 206 | 46 => 155 | 232 => 213 | 233 => 214 | n => n, fun | 17 => 3 | 18 => 4 | 19 => 5 | n => n⟩
theorem Tryz.laysM171 : Go.Proofs.LaysM.n171 Tryz.prog Tryz.laysM171_ren := {
  mixed := by kernel_rfl
  f129 := Tryz.func171.trans (congrArg some (by kernel_rfl))
  f171 := Tryz.func94.trans (congrArg some (by kernel_rfl))
  f243 := Tryz.func119.trans (congrArg some (by kernel_rfl))
  f246 := Tryz.func143.trans (congrArg some (by kernel_rfl))
  f283 := Tryz.func159.trans (congrArg some (by kernel_rfl))
  f284 := Tryz.func160.trans (congrArg some (by kernel_rfl))
  f285 := Tryz.func161.trans (congrArg some (by kernel_rfl))
  f286 := Tryz.func162.trans (congrArg some (by kernel_rfl))
  f317 := Tryz.func170.trans (congrArg some (by kernel_rfl))
  f318 := Tryz.func172.trans (congrArg some (by kernel_rfl))
  f319 := Tryz.func173.trans (congrArg some (by kernel_rfl))
  f320 := Tryz.func174.trans (congrArg some (by kernel_rfl))
  f337 := Tryz.func180.trans (congrArg some (by kernel_rfl))
  f338 := Tryz.func181.trans (congrArg some (by kernel_rfl))
  t0 := Tryz.underlying0
  a0 := Tryz.isAgg0
  z0 := Tryz.sizeOf0
  v0 := Tryz.zeroValue0
  t2 := Tryz.underlying2
  a2 := Tryz.isAgg2
  z2 := Tryz.sizeOf2
  v2 := Tryz.zeroValue2
  t3 := Tryz.underlying3
  a3 := Tryz.isAgg3
  z3 := Tryz.sizeOf3
  v3 := Tryz.zeroValue3
  t4 := Tryz.underlying4
  a4 := Tryz.isAgg4
  z4 := Tryz.sizeOf4
  v4 := Tryz.zeroValue4
  t5 := Tryz.underlying5
  a5 := Tryz.isAgg5
  z5 := Tryz.sizeOf5
  v5 := Tryz.zeroValue5
  t9 := Tryz.underlying9
  a9 := Tryz.isAgg9
  z9 := Tryz.sizeOf9
  v9 := Tryz.zeroValue9
  t20 := Tryz.underlying20
  a20 := Tryz.isAgg20
  z20 := Tryz.sizeOf20
  v20 := Tryz.zeroValue20
  t37 := Tryz.underlying108
  a37 := Tryz.isAgg108
  z37 := Tryz.sizeOf108
  v37 := Tryz.zeroValue108
  t46 := Tryz.underlying155
  a46 := Tryz.isAgg155
  z46 := Tryz.sizeOf155
  v46 := Tryz.zeroValue155
  t51 := Tryz.underlying187
  a51 := Tryz.isAgg187
  z51 := Tryz.sizeOf187
  v51 := Tryz.zeroValue187
  t53 := Tryz.underlying99
  a53 := Tryz.isAgg99
  z53 := Tryz.sizeOf99
  v53 := Tryz.zeroValue99
  t171 := Tryz.underlying193
  a171 := Tryz.isAgg193
  z171 := Tryz.sizeOf193
  v171 := Tryz.zeroValue193
  t173 := Tryz.underlying196
  a173 := Tryz.isAgg196
  z173 := Tryz.sizeOf196
  v173 := Tryz.zeroValue196
  t212 := Tryz.underlying205
  a212 := Tryz.isAgg205
  z212 := Tryz.sizeOf205
  v212 := Tryz.zeroValue205
  t213 := Tryz.underlying206
  a213 := Tryz.isAgg206
  z213 := Tryz.sizeOf206
  t232 := Tryz.underlying213
  a232 := Tryz.isAgg213
  z232 := Tryz.sizeOf213
  v232 := Tryz.zeroValue213
  t233 := Tryz.underlying214
  a233 := Tryz.isAgg214
  z233 := Tryz.sizeOf214
  v233 := Tryz.zeroValue214
  g17 := by kernel_rfl
  g18 := by kernel_rfl
  g19 := by kernel_rfl
  i0 := by kernel_rfl
  i2 := by kernel_rfl
  i3 := by kernel_rfl
  i4 := by kernel_rfl
  i5 := by kernel_rfl
  i9 := by kernel_rfl
  i20 := by kernel_rfl
  i37 := by kernel_rfl
  i46 := by kernel_rfl
  i51 := by kernel_rfl
  i53 := by kernel_rfl
  i171 := by kernel_rfl
  i173 := by kernel_rfl
  i212 := by kernel_rfl
  i232 := by kernel_rfl
  i233 := by kernel_rfl
  m17 := by kernel_rfl
  m18 := by kernel_rfl
  m19 := by kernel_rfl }
open Go.RowKit Go.Sort Go.Lib in
theorem Tryz.strconv_Itoa (n : Int) (h0 : -9223372036854775808 ≤ n) (h1 : n ≤ 9223372036854775807) (w : World) (htab : Lib.TabIs Tryz.prog w "internal/strconv.uint64pow10" .u64 Lib.pow10Tab) :
    Calls Tryz.prog 94 #[.int .i64 n] w fun e w' => e = .returned (.string ⟨(Lib.itoa n).toArray⟩) ∧ ∃ k os, w' = grow (w.drewN k) os := Any.strconv_Itoa Tryz.laysM171 n h0 h1 w htab
def Tryz.lays99_ren : Go.Shelf.Ren := ⟨fun | 99 => 108 | 206 => 129 | n => n, fun | 9 => 9 | 4 => 4 | 3 => 3 | n => n, fun | n => n⟩
theorem Tryz.lays99 : Go.Proofs.Lays.n99 Tryz.prog Tryz.lays99_ren := {
  mixed := by kernel_rfl
  f99 := Tryz.func108.trans (congrArg some (by kernel_rfl))
  f206 := Tryz.func129.trans (congrArg some (by kernel_rfl))
  t3 := Tryz.underlying3
  a3 := Tryz.isAgg3
  z3 := Tryz.sizeOf3
  v3 := Tryz.zeroValue3
  t4 := Tryz.underlying4
  a4 := Tryz.isAgg4
  z4 := Tryz.sizeOf4
  v4 := Tryz.zeroValue4
  t9 := Tryz.underlying9
  a9 := Tryz.isAgg9
  z9 := Tryz.sizeOf9
  v9 := Tryz.zeroValue9 }
open Go.RowKit Go.Lib in
theorem Tryz.strings_HasPrefix (s p : ByteArray) (w : World) :
    Calls Tryz.prog 108 #[.string s, .string p] w fun e w' => e = .returned (.bool (Lib.hasPrefix s.data.toList p.data.toList)) ∧ w' = w := Any.strings_HasPrefix Tryz.lays99 s p w
def Tryz.lays105_ren : Go.Shelf.Ren := ⟨fun | 105 => 114 | 212 => 139 | 99 => 108 | 165 => 140 | 166 => 97 | 170 => 141 | 169 => 67 | 263 => 155 | 264 => 156 | 206 => 129 | 240 => 125 | 241 => 157 | 276 => 152 | 277 => 169 | n => n, fun | 9 => 9 | 3 => 3 | 4 => 4 | 20 => 20 | 0 => 0 | 46 => 155 | 109 => 169 | 5 => 5 | 72 => 110 | 76 => 136 | 51 => 187 | 146 => 188 | 53 => 99 | 148 => 190 | 70 => 107 | 37 => 108 | 75 => 135 | 127 => 139 | 164 => 184 | 80 => 112 | n => n, fun | n => n⟩
theorem Tryz.lays105 : Go.Proofs.Lays.n105 Tryz.prog Tryz.lays105_ren := {
  mixed := by kernel_rfl
  f99 := Tryz.func108.trans (congrArg some (by kernel_rfl))
  f105 := Tryz.func114.trans (congrArg some (by kernel_rfl))
  f165 := Tryz.func140.trans (congrArg some (by kernel_rfl))
  f166 := Tryz.func97.trans (congrArg some (by kernel_rfl))
  f169 := Tryz.func67.trans (congrArg some (by kernel_rfl))
  f170 := Tryz.func141.trans (congrArg some (by kernel_rfl))
  f206 := Tryz.func129.trans (congrArg some (by kernel_rfl))
  f212 := Tryz.func139.trans (congrArg some (by kernel_rfl))
  f240 := Tryz.func125.trans (congrArg some (by kernel_rfl))
  f241 := Tryz.func157.trans (congrArg some (by kernel_rfl))
  f263 := Tryz.func155.trans (congrArg some (by kernel_rfl))
  f264 := Tryz.func156.trans (congrArg some (by kernel_rfl))
  f276 := Tryz.func152.trans (congrArg some (by kernel_rfl))
  f277 := Tryz.func169.trans (congrArg some (by kernel_rfl))
  t0 := Tryz.underlying0
  a0 := Tryz.isAgg0
  z0 := Tryz.sizeOf0
  v0 := Tryz.zeroValue0
  t3 := Tryz.underlying3
  a3 := Tryz.isAgg3
  z3 := Tryz.sizeOf3
  v3 := Tryz.zeroValue3
  t4 := Tryz.underlying4
  a4 := Tryz.isAgg4
  z4 := Tryz.sizeOf4
  v4 := Tryz.zeroValue4
  t5 := Tryz.underlying5
  a5 := Tryz.isAgg5
  z5 := Tryz.sizeOf5
  v5 := Tryz.zeroValue5
  t9 := Tryz.underlying9
  a9 := Tryz.isAgg9
  z9 := Tryz.sizeOf9
  v9 := Tryz.zeroValue9
  t20 := Tryz.underlying20
  a20 := Tryz.isAgg20
  z20 := Tryz.sizeOf20
  v20 := Tryz.zeroValue20
  t37 := Tryz.underlying108
  a37 := Tryz.isAgg108
  z37 := Tryz.sizeOf108
  v37 := Tryz.zeroValue108
  t46 := Tryz.underlying155
  a46 := Tryz.isAgg155
  z46 := Tryz.sizeOf155
  v46 := Tryz.zeroValue155
  t51 := Tryz.underlying187
  a51 := Tryz.isAgg187
  z51 := Tryz.sizeOf187
  v51 := Tryz.zeroValue187
  t53 := Tryz.underlying99
  a53 := Tryz.isAgg99
  z53 := Tryz.sizeOf99
  v53 := Tryz.zeroValue99
  t70 := Tryz.underlying107
  a70 := Tryz.isAgg107
  z70 := Tryz.sizeOf107
  v70 := Tryz.zeroValue107
  t72 := Tryz.underlying110
  a72 := Tryz.isAgg110
  z72 := Tryz.sizeOf110
  v72 := Tryz.zeroValue110
  t75 := Tryz.underlying135
  a75 := Tryz.isAgg135
  z75 := Tryz.sizeOf135
  v75 := Tryz.zeroValue135
  t76 := Tryz.underlying136
  a76 := Tryz.isAgg136
  z76 := Tryz.sizeOf136
  v76 := Tryz.zeroValue136
  t109 := Tryz.underlying169
  a109 := Tryz.isAgg169
  z109 := Tryz.sizeOf169
  v109 := Tryz.zeroValue169
  t127 := Tryz.underlying139
  a127 := Tryz.isAgg139
  z127 := Tryz.sizeOf139
  v127 := Tryz.zeroValue139
  t146 := Tryz.underlying188
  a146 := Tryz.isAgg188
  z146 := Tryz.sizeOf188
  v146 := Tryz.zeroValue188
  t148 := Tryz.underlying190
  a148 := Tryz.isAgg190
  z148 := Tryz.sizeOf190
  v148 := Tryz.zeroValue190
  t164 := Tryz.underlying184
  a164 := Tryz.isAgg184
  z164 := Tryz.sizeOf184
  v164 := Tryz.zeroValue184 }
theorem Tryz.Builder_Extra_105 : Builder.Extra Tryz.prog Tryz.lays105_ren := {
  sizeBuilder := by kernel_rfl
  liesBuilder := by kernel_rfl
  t5 := Tryz.underlying5
  a5 := Tryz.isAgg5
  z5 := Tryz.sizeOf5
  v5 := Tryz.zeroValue5
  infoByte := by kernel_rfl
  cellsByte := by kernel_rfl
  sizeByte := by kernel_rfl
  neB5 := by decide }
open Go.RowKit Go.Lib in
theorem Tryz.strings_Repeat (s : ByteArray) (c : Nat) (w : World) (hc : c ≤ 9223372036854775807) (hlen : s.size * c ≤ 140737488355328) :
    Calls Tryz.prog 114 #[.string s, .int .i64 c] w fun e w' => e = .returned (.string ⟨(Lib.repeatL s.data.toList c).toArray⟩) ∧ Below w.heap.size w w' := Any.strings_Repeat Tryz.lays105 Tryz.Builder_Extra_105 s c w hc hlen
end Go.Proofs

namespace Go.Proofs.YtcajofhafpkbdaaGreatDoor.Flow
open Go
theorem zgJ {vs : Array Value} (h : vs.size = 2) : vs = #[vs.getD 0 undef, vs.getD 1 undef] := by
  obtain ⟨l⟩ := vs
  match l, h with
  | [a, b], _ => rfl
theorem zsn {vs : Array Value} (h : vs.size = 1) : vs = #[vs.getD 0 undef] := by
  obtain ⟨l⟩ := vs
  match l, h with
  | [a], _ => rfl
theorem zei (w : World) (S : Cells) (hv : ∀ b o, S b o → b < w.heap.size) (hg : GOk S w) : Hist { w0 := w, S0 := S, L := fun _ => False } w S := zgF w S _ hv hg
theorem zgG {w w' : World} {S : Cells} (hv : ∀ b o, S b o → b < w.heap.size) (hg : GOk S w) (h : RowKit.Below w.heap.size w w') : Hist { w0 := w, S0 := S, L := fun _ => False } w' S where
  os := h.os
  tape := h.tape
  output := h.output
  size := h.size
  block := fun k hk _ => h.block k hk
  sub := fun _ _ h => h
  cell := fun b o hb => by
    have := h.block b (hv b o hb)
    simp [World.cell?, this]
  new := fun _ _ h => .inl h
  valid := fun b o hb => Nat.lt_of_lt_of_le (hv b o hb) h.size
  glob := hg.mono (fun _ _ h => h) fun b o hb => by
    have := h.block b (hv b o hb)
    simp [World.cell?, this]
theorem zhk (s : List UInt8) (c : UInt8) (hs : s.length ≤ 9223372036854775807) (hc : c.toNat < 128 := by decide) : Ctr Tryz.prog 120 [.s s, .s [c]] (.s (Lib.trimRightB s c)) := by
  intro w S vs hv hg hn hr
  have h0 := hr 0 (by simp)
  have h1 := hr 1 (by simp)
  rw [zgJ hn]
  generalize vs.getD 0 undef = v0 at *
  generalize vs.getD 1 undef = v1 at *
  cases h0
  cases h1
  refine (Tryz.strings_TrimRight_one ⟨s.toArray⟩ c hc w (by simpa [ByteArray.size] using hs)).mono ?_
  rintro e w' ⟨rfl, rfl⟩
  exact ⟨_, S, rfl, .s _ _, zei _ S hv hg⟩
theorem zhU (s : List UInt8) (c : UInt8) (hc : c.toNat < 128 := by decide) : Ctr Tryz.prog 121 [.s s, .s [c]] (.s (Lib.trimLeftB s c)) := by
  intro w S vs hv hg hn hr
  have h0 := hr 0 (by simp)
  have h1 := hr 1 (by simp)
  rw [zgJ hn]
  generalize vs.getD 0 undef = v0 at *
  generalize vs.getD 1 undef = v1 at *
  cases h0
  cases h1
  refine (Tryz.strings_TrimLeft_one ⟨s.toArray⟩ c hc w).mono ?_
  rintro e w' ⟨rfl, rfl⟩
  exact ⟨_, S, rfl, .s _ _, zei _ S hv hg⟩
theorem zdV (s : List UInt8) (c : Int) : Ctr Tryz.prog 82 [.s s, .i .u8 c] (.i .i64 (Lib.indexByte s c.toNat.toUInt8)) := by
  intro w S vs hv hg hn hr
  have h0 := hr 0 (by simp)
  have h1 := hr 1 (by simp)
  rw [zgJ hn]
  generalize vs.getD 0 undef = v0 at *
  generalize vs.getD 1 undef = v1 at *
  cases h0
  cases h1
  refine (Tryz.strings_IndexByte ⟨s.toArray⟩ c w).mono ?_
  rintro e w' ⟨rfl, rfl⟩
  exact ⟨_, S, rfl, .i _ _ _, zei _ S hv hg⟩
theorem zmx (s : List UInt8) (c : Nat) (hc : c ≤ 9223372036854775807) (hlen : s.length * c ≤ 140737488355328) : Ctr Tryz.prog 114 [.s s, .i .i64 c] (.s (Lib.repeatL s c)) := by
  intro w S vs hv hg hn hr
  have h0 := hr 0 (by simp)
  have h1 := hr 1 (by simp)
  rw [zgJ hn]
  generalize vs.getD 0 undef = v0 at *
  generalize vs.getD 1 undef = v1 at *
  cases h0
  cases h1
  refine (Tryz.strings_Repeat ⟨s.toArray⟩ c w hc (by simpa [ByteArray.size] using hlen)).mono ?_
  rintro e w' ⟨rfl, hb⟩
  exact ⟨_, S, rfl, .s _ _, zgG hv hg hb⟩
theorem zjv (w : World) (k : Nat) (os : Array Obj) : RowKit.Below w.heap.size w (Sort.grow (w.drewN k) os) where
  os := rfl
  tape := rfl
  output := rfl
  size := by show w.heap.size ≤ (w.heap ++ os).size; rw [Array.size_append]; omega
  block := fun j hj => by
    show (w.heap ++ os)[j]? = w.heap[j]?
    rw [Array.getElem?_append_left hj]

set_option maxHeartbeats 1000000 in
theorem zld (neg : Bool) (s : List UInt8) (e : Int) (hs : s.length ≤ 1099511627776) (h1 : -4611686018427387904 ≤ e) (h2 : e ≤ 4611686018427387904) :
    Ctr Tryz.prog 95 [.b neg, .s s, .i .i64 e] (.tu [dcV (normF neg s e).1, .i .i64 (normF neg s e).2]) := by
  have c1 := zhk s 48 (by omega)
  have c2 := zhU (tR s) 48
  have l1 := zqB s
  have l2 := zqq (tR s)
  generalize hR : normF neg s e = R
  unfold normF at hR
  replace hR := fun _ : Unit => hR.symm
  change Ctr _ _ _ (.s (tR s)) at c1
  change Ctr _ _ _ (.s (tL (tR s))) at c2
  generalize tL (tR s) = d at *
  have hne : ¬ d = ({ data := #[] } : ByteArray).data.toList → ¬ d.length = 0 := fun h h2 => h (List.length_eq_zero_iff.1 h2)
  generalize tR s = r at *
  refine zay Tryz.func95 rfl Tryz.ntmps95 Tryz.results95 rfl rfl fun X hL hX => ?_
  repeat' (first |with_reducible (first |refine zag ?_|refine zaa ?_|refine zaf ?_|refine zad ?_|refine zaj ?_|refine zai ?_|refine zae ?_|refine zaq ?_|refine zal ?_|refine zap ?_)|refine zab rfl rfl True.intro ?_|refine zau rfl rfl rfl ?_|refine zam rfl rfl rfl rfl True.intro ?_|refine zas rfl ?_|((first |refine zac rfl ?_ ?_|refine zbx rfl ?_ ?_|refine zan rfl rfl ?_ ?_)<;>intro)|((first |refine zab rfl rfl ?_ ?_|refine zao rfl rfl ?_ ?_|refine zar rfl ?_ ?_);focus (first |omega|((repeat' refine And.intro ?_ ?_)<;>omega)|((repeat' refine And.intro ?_ ?_)<;>first |rfl|exact Nat.le_refl _)))|refine zaw rfl ?_|refine zah (f := 120) rfl rfl Tryz.call120 rfl c1 ?_|refine zah (f := 121) rfl rfl Tryz.call121 rfl c2 ?_|fail)
  · rename_i h
    rw [hR (), if_pos (by rw [h]; rfl)]
    rfl
  · rw [hR (), if_neg (hne ‹_›), if_pos (by omega)]
    rfl
  · rw [hR (), if_neg (hne ‹_›), if_neg (by omega), if_pos (by omega)]
    rfl
  · rw [hR (), if_neg (hne ‹_›), if_neg (by omega), if_pos (by omega)]
    rfl
  · rw [hR (), if_neg (hne ‹_›), if_neg (by omega), if_neg (by omega)]
    rfl

def isD (c : UInt8) : Bool := decide (48 ≤ (c.toNat : Int) ∧ (c.toNat : Int) ≤ 57)
theorem zbY {c : UInt8} : isD c = true ↔ 48 ≤ (c.toNat : Int) ∧ (c.toNat : Int) ≤ 57 := by simp [isD]
def dgT (s : List UInt8) (i : Nat) : List UInt8 := (s.drop i).takeWhile isD
theorem zfI {s : List UInt8} {i : Nat} (h : i < s.length) : s.drop i = s.getD i 0 :: s.drop (i + 1) := by
  rw [List.drop_eq_getElem_cons h]
  simp [List.getD_eq_getElem?_getD, h]
theorem zhx {s : List UInt8} {i : Nat} (h : i < s.length) (h2 : 48 ≤ at' s i ∧ at' s i ≤ 57) : dgT s i = s.getD i 0 :: dgT s (i + 1) := by
  unfold dgT
  rw [zfI h, List.takeWhile_cons, if_pos]
  exact zbY.2 h2
theorem zfc {s : List UInt8} {i : Nat} (h : ¬ i < s.length ∨ ¬ (48 ≤ at' s i ∧ at' s i ≤ 57)) : dgT s i = [] := by
  unfold dgT
  by_cases hi : i < s.length
  · rw [zfI hi, List.takeWhile_cons, if_neg]
    intro h2
    rcases h with h | h
    · exact h hi
    · exact h (zbY.1 h2)
  · rw [List.drop_eq_nil_of_le (by omega)]
    rfl
theorem zcw {p : UInt8 → Bool} : ∀ l : List UInt8, l.take (l.takeWhile p).length = l.takeWhile p
  | [] => by simp
  | c :: r => by
    rw [List.takeWhile_cons]
    split
    · simp [zcw r]
    · simp
theorem zbt (s : List UInt8) (i : Nat) : (dgT s i).length ≤ s.length - i := by
  have := List.takeWhile_sublist (p := isD) (l := s.drop i)
  have := this.length_le
  unfold dgT
  simpa using this
theorem zjx (s : List UInt8) (i : Nat) : (s.take (i + (dgT s i).length)).drop i = dgT s i := by
  rw [List.drop_take, show i + (dgT s i).length - i = (dgT s i).length by omega]
  exact zcw _
theorem zcL (s : List UInt8) (i : Nat) : ∀ c ∈ dgT s i, isD c = true := fun c hc => by
  unfold dgT at hc
  generalize s.drop i = l at hc
  induction l with
  | nil => simp at hc
  | cons a r ih =>
    rw [List.takeWhile_cons] at hc
    split at hc
    · rcases List.mem_cons.1 hc with rfl | hc
      · assumption
      · exact ih hc
    · simp at hc
def sat (s : List UInt8) (i : Nat) (c : Int) : Prop := i < s.length ∧ at' s i = c
instance (s : List UInt8) (i : Nat) (c : Int) : Decidable (sat s i c) := by unfold sat; infer_instance
def whN (s : List UInt8) (i : Nat) : List UInt8 × Nat := if sat s i 48 then ([48], i + 1) else (dgT s i, i + (dgT s i).length)
def frN (s : List UInt8) (j : Nat) : List UInt8 × Nat := if sat s j 46 ∧ ¬ dgT s (j + 1) = [] then (dgT s (j + 1), j + 1 + (dgT s (j + 1)).length) else ([], j)
def sgN (s : List UInt8) (a : Nat) : Nat := if sat s a 43 ∨ sat s a 45 then a + 1 else a
def exN (pw : List UInt8 → Int) (s : List UInt8) (k : Nat) : Int × Nat :=
  if (sat s k 101 ∨ sat s k 69) ∧ ¬ dgT s (sgN s (k + 1)) = [] then
    (if sat s (k + 1) 45 then -pw (dgT s (sgN s (k + 1))) else pw (dgT s (sgN s (k + 1))), sgN s (k + 1) + (dgT s (sgN s (k + 1))).length)
  else (0, k)
def sg0 (s : List UInt8) : Nat := if sat s 0 45 then 1 else 0
def parseG (pw : List UInt8 → Int) (s : List UInt8) : (Bool × List UInt8 × Int) × Nat × Int :=
  if (whN s (sg0 s)).1 = [] then ((false, [], 0), 0, 3)
  else
    let w := whN s (sg0 s)
    let f := frN s w.2
    let x := exN pw s f.2
    let r := normF (decide (sat s 0 45)) (w.1 ++ f.1) (x.1 - f.1.length)
    if r.2 = 0 then (r.1, x.2, 0) else ((false, [], 0), 0, r.2)
def powP (x : List UInt8) : Int := x.foldl (fun n c => min (10 * n + ((c.toNat : Int) - 48)) 1099511627776) 0
def powR (x : List UInt8) : Int := x.foldl (fun n c => if n < 1000000000 then 10 * n + (c.toNat : Int) - 48 else n) 0
theorem zle : ∀ (x : List UInt8) (a b : Int), (∀ c ∈ x, isD c = true) → 0 ≤ a → (a = b ∧ a < 1000000000 ∨ 1000000000 ≤ a ∧ 1000000000 ≤ b) →
    let p := x.foldl (fun n c => min (10 * n + ((c.toNat : Int) - 48)) 1099511627776) a
    let r := x.foldl (fun n c => if n < 1000000000 then 10 * n + (c.toNat : Int) - 48 else n) b
    0 ≤ p ∧ (p = r ∧ p < 1000000000 ∨ 1000000000 ≤ p ∧ 1000000000 ≤ r)
  | [], a, b, _, h0, h => ⟨h0, h⟩
  | c :: x, a, b, hx, h0, h => by
    have hc := zbY.1 (hx c (by simp))
    simp only [List.foldl_cons]
    refine zle x _ _ (fun c h => hx c (by simp [h])) (by omega) ?_
    split <;> omega
theorem zni (x : List UInt8) (hx : ∀ c ∈ x, isD c = true) : 0 ≤ powP x ∧ (powP x = powR x ∧ powP x < 1000000000 ∨ 1000000000 ≤ powP x ∧ 1000000000 ≤ powR x) := zle x 0 0 hx (by omega) (.inl ⟨rfl, by omega⟩)
theorem zom : ∀ (x : List UInt8) (a : Int), a ≤ 1099511627776 → x.foldl (fun n c => min (10 * n + ((c.toNat : Int) - 48)) 1099511627776) a ≤ 1099511627776
  | [], a, h => h
  | c :: x, a, h => by
    simp only [List.foldl_cons]
    exact zom x _ (by omega)
theorem zpD (neg : Bool) (d : List UInt8) (e e' : Int) (h1 : d.length ≤ 20000) (h : e = e' ∨ (100000 ≤ e ∧ 100000 ≤ e') ∨ (e ≤ -100000 ∧ e' ≤ -100000)) : normF neg d e = normF neg d e' := by
  have l := zqB d
  rcases h with rfl | h
  · rfl
  · unfold normF
    split
    · rfl
    · split
      · rfl
      · rw [if_pos (by omega), if_pos (by omega)]
theorem zlB (s : List UInt8) (hs : s.length ≤ 5000) : parseG powP s = parseG powR s := by
  unfold parseG
  split
  · rfl
  · have hf : (frN s (whN s (sg0 s)).2).1.length ≤ 5000 := by
      unfold frN
      split
      · have := zbt s ((whN s (sg0 s)).2 + 1)
        dsimp only
        omega
      · simp
    have hw : (whN s (sg0 s)).1.length ≤ 5000 := by
      unfold whN
      split
      · simp
      · have := zbt s (sg0 s)
        dsimp only
        omega
    dsimp only
    generalize (frN s (whN s (sg0 s)).2).2 = k
    generalize (frN s (whN s (sg0 s)).2).1 = f at *
    generalize (whN s (sg0 s)).1 = w at *
    have e2 : (exN powP s k).2 = (exN powR s k).2 := by
      unfold exN
      split <;> rfl
    have e1 : normF (decide (sat s 0 45)) (w ++ f) ((exN powP s k).1 - f.length) = normF (decide (sat s 0 45)) (w ++ f) ((exN powR s k).1 - f.length) := by
      refine zpD _ _ _ _ (by rw [List.length_append]; omega) ?_
      unfold exN
      split
      · have := zni (dgT s (sgN s (k + 1))) (zcL _ _)
        dsimp only
        split <;> omega
      · exact .inl rfl
    rw [e1, e2]

inductive J where
  | mk (kind : Int) (yes neg : Bool) (dig : List UInt8) (exp : Int) (text : List UInt8) (list : List J) (keys : List (List UInt8))
def txF (l : List (List UInt8)) : Nat → List D := fun i => [.s (l.getD i [])]
mutual
def jC : J → List D
  | .mk k y n d e t l ks => [.i .i64 k, .b y, .b n, .s d, .i .i64 e, .s t, .sl 8 l.length (jF l), .sl 1 ks.length (txF ks)]
def jF : List J → Nat → List D
  | [], _ => []
  | x :: _, 0 => jC x
  | _ :: r, i + 1 => jF r i
end
def j0 : J := .mk 0 false false [] 0 [] [] []
def j0C : List D := [.i .i64 0, .b false, .b false, .s [], .i .i64 0, .s [], .nilS, .nilS]
theorem zri : ∀ {l : List J} {i : Nat}, i < l.length → jF l i = jC (l.getD i j0)
  | [], _, h => by simp at h
  | x :: r, 0, _ => by rw [jF]; rfl
  | x :: r, i + 1, h => by
    rw [jF, zri (l := r) (by simpa using h)]
    rfl
abbrev JR := Sum (J × Nat) (Nat × Int)
def blkB (c : UInt8) : Bool := decide (c = 32 ∨ c = 9 ∨ c = 10 ∨ c = 13)
def skN (s : List UInt8) (i : Nat) : Nat := i + ((s.drop i).takeWhile blkB).length
def jpeek (s : List UInt8) (i : Nat) : Sum Nat (Nat × Int) := if skN s i < s.length then .inl (skN s i) else .inr (skN s i, 2)
def jword (s : List UInt8) (i : Nat) (w : List UInt8) (x : J) : JR := if Lib.hasPrefix (s.drop i) w = true then .inl (x, i + w.length) else .inr (i, 3)
def jtext (s : List UInt8) (i : Nat) : Sum (List UInt8 × Nat) (Nat × Int) := if (unqF s i).2.2 = 0 then .inl ((unqF s i).1, (unqF s i).2.1.toNat) else .inr (i, (unqF s i).2.2)
def jnumV (r : Bool × List UInt8 × Int) : J := .mk 2 false r.1 r.2.1 r.2.2 [] [] []
def jnum (s : List UInt8) (i : Nat) : JR := if (parseG powP (s.drop i)).2.2 = 0 then .inl (jnumV (parseG powP (s.drop i)).1, i + (parseG powP (s.drop i)).2.1) else .inr (i, (parseG powP (s.drop i)).2.2)
def jkey (s : List UInt8) (i : Nat) (ks : List (List UInt8)) : Sum (List UInt8 × Nat) (Nat × Int) :=
  match jpeek s i with
  | .inr e => .inr e
  | .inl j => if ¬ at' s j = 34 then .inr (j, 3) else
    match jtext s j with
    | .inr e => .inr e
    | .inl (k, n) => if k ∈ ks then .inr (j, 3) else
      match jpeek s n with
      | .inr e => .inr e
      | .inl m => if ¬ at' s m = 58 then .inr (m, 3) else .inl (k, m + 1)
def jkeys (s : List UInt8) (mp : Bool) (i : Nat) (ks : List (List UInt8)) : Sum (List (List UInt8) × Nat) (Nat × Int) :=
  if mp = true then (match jkey s i ks with
    | .inl (k, n) => .inl (ks ++ [k], n)
    | .inr e => .inr e) else .inl (ks, i)
def kindM (mp : Bool) : Int := if mp = true then 5 else 4
def endM (mp : Bool) : Int := if mp = true then 125 else 93
def manyV (mp : Bool) (l : List J) (ks : List (List UInt8)) : J := .mk (kindM mp) false false [] 0 [] l ks
def jgo (s : List UInt8) (val : Nat → JR) (mp : Bool) (i : Nat) (l : List J) (ks : List (List UInt8)) : JR :=
  match jkeys s mp i ks with
  | .inr e => .inr e
  | .inl (ks', i1) =>
    match val i1 with
    | .inr e => .inr e
    | .inl (x, i2) =>
      match jpeek s i2 with
      | .inr e => .inr e
      | .inl i3 => if at' s i3 = endM mp then .inl (manyV mp (l ++ [x]) ks', i3 + 1)
        else if at' s i3 = 44 then (if i ≤ i3 ∧ i3 < s.length then jgo s val mp (i3 + 1) (l ++ [x]) ks' else .inr (0, 3)) else .inr (i3, 3)
termination_by s.length - i
def jmany (s : List UInt8) (val : Nat → JR) (mp : Bool) (i : Nat) : JR :=
  match jpeek s (i + 1) with
  | .inr e => .inr e
  | .inl j => if at' s j = endM mp then .inl (manyV mp [] [], j + 1) else jgo s val mp j [] []
def nullW : List UInt8 := [110, 117, 108, 108]
def trueW : List UInt8 := [116, 114, 117, 101]
def falseW : List UInt8 := [102, 97, 108, 115, 101]
def jval (s : List UInt8) : Nat → Nat → JR
  | d, i => match jpeek s i with
    | .inr e => .inr e
    | .inl j => match d with
      | 0 => .inr (j, 9)
      | d + 1 => if at' s j = 110 then jword s j nullW j0
        else if at' s j = 116 then jword s j trueW (.mk 1 true false [] 0 [] [] [])
        else if at' s j = 102 then jword s j falseW (.mk 1 false false [] 0 [] [] [])
        else if at' s j = 34 then (match jtext s j with
          | .inl (t, n) => .inl (.mk 3 false false [] 0 t [] [], n)
          | .inr e => .inr e)
        else if at' s j = 91 then jmany s (jval s d) false j
        else if at' s j = 123 then jmany s (jval s d) true j
        else jnum s j
def jparse (s : List UInt8) : J × Nat × Int := if 1048576 < s.length then (j0, 0, 5) else
  match jval s 64 0 with
  | .inr (p, e) => (j0, p, e)
  | .inl (x, n) => if skN s n < s.length then (j0, skN s n, 3) else (x, s.length, 0)
theorem zbT {s : List UInt8} {i : Nat} (h : i ≤ s.length) : i ≤ skN s i ∧ skN s i ≤ s.length := by
  have h1 : ((s.drop i).takeWhile blkB).length ≤ (s.drop i).length := (List.takeWhile_sublist _).length_le
  rw [List.length_drop] at h1
  unfold skN
  omega
theorem zoV {s : List UInt8} {i : Nat} (h : skN s i < s.length) : blkB (s.getD (skN s i) 0) = false := by
  have key : ∀ q : List UInt8, (q.takeWhile blkB).length < q.length → blkB (q.getD (q.takeWhile blkB).length 0) = false := by
    intro q
    induction q with
    | nil => intro h; simp at h
    | cons c q ih =>
      intro h
      by_cases hc : blkB c = true
      · rw [List.takeWhile_cons, if_pos hc] at h ⊢
        exact ih (by simpa using h)
      · rw [List.takeWhile_cons, if_neg hc]
        simpa using hc
  have := key (s.drop i) (by unfold skN at h; rw [List.length_drop]; omega)
  unfold skN
  simpa [List.getD_eq_getElem?_getD] using this
theorem zaW {s : List UInt8} {i j : Nat} (hi : i ≤ s.length) (h : jpeek s i = .inl j) : i ≤ j ∧ j < s.length ∧ j = skN s i := by
  unfold jpeek at h
  split at h
  · cases h
    have := zbT hi
    exact ⟨this.1, ‹_›, rfl⟩
  · cases h
theorem zfY (s : List UInt8) : ∀ (n : Nat) (i : Int) (o : List UInt8), 0 ≤ i → i ≤ s.length → (unqG s n i o).2.2 = 0 → i < (unqG s n i o).2.1 ∧ (unqG s n i o).2.1 ≤ s.length
  | 0, i, o, _, _, h => by
    unfold unqG at h
    cases h
  | n + 1, i, o, h0, h1, h => by
    unfold unqG at h ⊢
    by_cases hi : i < s.length
    · rw [if_pos hi] at h ⊢
      by_cases hq : at' s i = 34
      · rw [if_pos hq] at h ⊢
        by_cases hv : validL o = true
        · rw [if_pos hv]
          dsimp only
          omega
        · rw [if_neg hv] at h
          cases h
      · rw [if_neg hq] at h ⊢
        by_cases he : at' s i = 92
        · rw [if_pos he] at h ⊢
          have hr := zcG s (i + 1) o (by omega) (by omega)
          by_cases hz : (escP s (i + 1) o).2.2 = 0
          · rw [if_pos hz] at h ⊢
            have := zfY s n _ _ (by omega) (by omega) h
            omega
          · rw [if_neg hz] at h
            exact absurd h hz
        · rw [if_neg he] at h ⊢
          by_cases hl : at' s i < 32
          · rw [if_pos hl] at h
            cases h
          · rw [if_neg hl] at h ⊢
            have := zfY s n _ _ (by omega) (by omega) h
            omega
    · rw [if_neg hi] at h
      cases h
theorem zff {s : List UInt8} {i : Int} (h : (unqF s i).2.2 = 0) : i < (unqF s i).2.1 ∧ (unqF s i).2.1 ≤ s.length ∧ 0 ≤ i := by
  unfold unqF at h ⊢
  by_cases hb : i < 0 ∨ s.length < i
  · rw [if_pos hb] at h
    cases h
  · rw [if_neg hb] at h ⊢
    have hm := zbB s i 0 34 (by omega) (by omega)
    by_cases hz : (mustF s i 0 34).2 = 0
    · rw [if_pos hz] at h ⊢
      have := zfY s _ _ _ (by omega) (by omega) h
      omega
    · rw [if_neg hz] at h
      exact absurd h hz
theorem zhr {s t : List UInt8} {i n : Nat} (h : jtext s i = .inl (t, n)) : i < n ∧ n ≤ s.length := by
  unfold jtext at h
  split at h
  · rename_i hz
    have := zff hz
    cases h
    omega
  · cases h

structure SrcR where
  arch : Txt
  lays : List Fld
  csv : Txt
  key : Txt
  attr : Txt
  only : List Txt
  notl : List Txt
  texts : Bool
  drop : Bool
def sameS (a b : SrcR) : Prop := a.arch = b.arch ∧ a.lays = b.lays ∧ a.csv = b.csv ∧ a.key = b.key ∧ a.attr = b.attr ∧ a.only = b.only ∧ a.notl = b.notl ∧ a.texts = b.texts ∧ a.drop = b.drop
instance (a b : SrcR) : Decidable (sameS a b) := by unfold sameS; infer_instance
theorem ziq (a b : SrcR) : sameS a b ↔ a = b := by
  constructor
  · intro h
    obtain ⟨a1, a2, a3, a4, a5, a6, a7, a8, a9⟩ := a
    obtain ⟨h1, h2, h3, h4, h5, h6, h7, h8, h9⟩ := h
    cases h1
    cases h2
    cases h3
    cases h4
    cases h5
    cases h6
    cases h7
    cases h8
    cases h9
    rfl
  · rintro rfl
    exact ⟨rfl, rfl, rfl, rfl, rfl, rfl, rfl, rfl, rfl⟩
instance : DecidableEq SrcR := fun a b => decidable_of_iff _ (ziq a b)
def s0R : SrcR := ⟨[], [], [], [], [], [], [], false, false⟩
def srcP (s : SrcR) : List D := [.s s.arch, .sl 2 s.lays.length (fldF s.lays), .s s.csv, .s s.key, .s s.attr, .sl 1 s.only.length (txF s.only), .sl 1 s.notl.length (txF s.notl), .b s.texts, .b s.drop]
def srcF (l : List SrcR) : Nat → List D := fun i => srcP (l.getD i s0R)
structure CmpR where
  id : Txt
  srcs : List SrcR
  buf : Int
  mx : Int
  lim : Int
def sameC (a b : CmpR) : Prop := a.id = b.id ∧ a.srcs = b.srcs ∧ a.buf = b.buf ∧ a.mx = b.mx ∧ a.lim = b.lim
instance (a b : CmpR) : Decidable (sameC a b) := by unfold sameC; infer_instance
theorem zid (a b : CmpR) : sameC a b ↔ a = b := by
  constructor
  · intro h
    obtain ⟨a1, a2, a3, a4, a5⟩ := a
    obtain ⟨h1, h2, h3, h4, h5⟩ := h
    cases h1
    cases h2
    cases h3
    cases h4
    cases h5
    rfl
  · rintro rfl
    exact ⟨rfl, rfl, rfl, rfl, rfl⟩
instance : DecidableEq CmpR := fun a b => decidable_of_iff _ (zid a b)
def c0R : CmpR := ⟨[], [], 0, 0, 0⟩
def cmpP (c : CmpR) : List D := [.s c.id, .sl 9 c.srcs.length (srcF c.srcs), .i .i64 c.buf, .i .i64 c.mx, .i .i64 c.lim]
def cmpF (l : List CmpR) : Nat → List D := fun i => cmpP (l.getD i c0R)
def smallS (s : SrcR) : Prop := s.lays.length ≤ 4194304 ∧ s.only.length ≤ 4194304 ∧ s.notl.length ≤ 4194304
def smallC (c : CmpR) : Prop := c.srcs.length ≤ 4194304 ∧ ∀ i, smallS (c.srcs.getD i s0R)
def smallL (l : List CmpR) : Prop := l.length ≤ 4194304 ∧ ∀ i, smallC (l.getD i c0R)
theorem zds {α : Type} (d : α) {a b : List α} {i : Nat} (h : a.take i = b.take i) (ha : i < a.length) (hb : i < b.length) (he : a.getD i d = b.getD i d) : a.take (i + 1) = b.take (i + 1) := by
  rw [List.take_add_one, List.take_add_one, h]
  simp only [List.getD_eq_getElem?_getD, List.getElem?_eq_getElem ha, List.getElem?_eq_getElem hb, Option.getD_some, Option.toList_some] at he ⊢
  rw [he]
theorem zer {α : Type} {a b : List α} {i : Nat} (h : a.take i = b.take i) (hl : a.length = b.length) (hi : a.length ≤ i) : a = b := by
  rwa [List.take_of_length_le hi, List.take_of_length_le (by omega)] at h
end Go.Proofs.YtcajofhafpkbdaaGreatDoor.Flow

namespace Go.Proofs.YtcajofhafpkbdaaGreatDoor.Flow
open Go.ChangeShapes Go.WideShapes Go.ChangeAt Go.RowKit
theorem zoQ : ownKnob Tryz.prog.godebug = none := by kernel_rfl
theorem zmY : laidOutB Tryz.prog = true := by kernel_rfl
variable {H : Type} {enc : TypeId × Value → H}
def allOf (W : World) : Cells := fun b _ => b < W.heap.size
theorem zgZ {W W' : World} {S' : Cells} (h : Hist { w0 := W, S0 := allOf W, L := fun _ => False } W' S') : Below W.heap.size W W' :=
  ⟨h.os, h.tape, h.output, h.size, fun k hk => h.block k hk (fun h => h)⟩
theorem zeh {W W' : World} (hb : Below W.heap.size W W') {sp : Nat → Bool} : ∀ {ts : List TypeId} {vs : List Value} {ds : List (DataW H)} {ps : List MemPlace}, (∀ t ∈ ts, Tryz.prog.readableRec t = true ∧ t < Tryz.prog.types.size) → (∀ x ∈ ps, x.block < W.heap.size) →
    DataW.TrodAll enc Tryz.prog W 0 (fun _ => true) true ts vs ds ps → (∀ p ∈ ps, sp p.block = true) → DataW.TrodAll enc Tryz.prog W' 0 sp true ts vs ds ps
  | [], [], [], _, _, _, h, _ => h
  | [], [], _ :: _, _, _, _, h, _ => h.elim
  | [], _ :: _, _, _, _, _, h, _ => h.elim
  | _ :: _, [], _, _, _, _, h, _ => h.elim
  | _ :: _, _ :: _, [], _, _, _, h, _ => h.elim
  | t :: ts, v :: vs, d :: ds, ps, ht, hlt, h, hsp => by
    obtain ⟨p, q, h1, h2, rfl⟩ := h
    refine ⟨p, q, ?_, zeh hb (fun t ht' => ht t (by simp [ht'])) (fun x hx => hlt x (by simp [hx])) h2 (fun x hx => hsp x (by simp [hx])), rfl⟩
    exact WideElems.Trod_stays zmY (ht t (by simp)).1 (ht t (by simp)).2 h1 (fun x hx => hb.same (hlt x (by simp [hx]))) (fun x hx => hsp x (by simp [hx]))
theorem zpd {f : Func} {s : ChangeSpec} {apart fresh handsOn : Bool} {W W' : World} {args : Array Value} {ds gs : List (DataW H)} {before : List MemPlace} {t : TypeId}
    (hW : DataW.Whole enc Tryz.prog f.params.toList s.vars apart W args.toList ds gs before) (hvars : s.vars = []) (hpar : ∀ t ∈ f.params.toList, Tryz.prog.readableRec t = true ∧ t < Tryz.prog.types.size)
    (hres : f.resultTypes = #[t]) (ht : Tryz.prog.underlying t = some .bool) (hspec : s.fn H (ds ++ gs) = { results := [.lit (.bool true)], args := ds }) (hb : Below W.heap.size W W') :
    s.post enc Tryz.prog f apart fresh handsOn false W args (.bool true) W' := by
  have hW' := hW
  obtain ⟨p, q, hA, hV, rfl, hfz, hnd⟩ := hW
  rw [hvars] at hV
  have hq : gs = [] ∧ q = [] := by
    cases gs with
    | nil => exact ⟨rfl, hV⟩
    | cons => exact hV.elim
  obtain ⟨rfl, rfl⟩ := hq
  have hlt : ∀ x ∈ p, x.block < W.heap.size := fun x hx => by simpa using hW'.lt x (by simpa using hx)
  refine ⟨ds, [], p ++ [], [], p, [], hW', ?_, ?_, ?_, hb.frame _, fun h => nomatch h⟩
  · rw [hspec, hres]
    exact trodAll_mk1 (shut_bool ht true)
  · rw [hspec]
    exact zeh hb hpar hlt hA (fun x hx => by simpa using hlt x hx)
  · rw [hspec, hvars]
    rfl

set_option maxRecDepth 100000
variable {H : Type} {enc : TypeId × Value → H} {W : World}
def strOf : DataW H → List UInt8
  | .lit (.string l) => l
  | _ => []
def Tells (enc : TypeId × Value → H) (W : World) (t z : Nat) (G : DataW H → List D) : Prop :=
  ∀ fuel cs x, DataW.trod enc Tryz.prog W 0 (fun _ => true) true fuel t cs = some x → cs.length = z ∧ (G x.1).length = z ∧ (G x.1).all D.plain = true ∧ ∀ j, j < z → Rel (allOf W) W noRho ((G x.1).getD j .any) (cs.getD j undef)
theorem znA {t : TypeId} (ht : Tryz.prog.underlying t = some .string) : Tells enc W t 1 (fun d => [.s (strOf d)]) := fun fuel cs x h => by
  obtain ⟨s, rfl, rfl, _⟩ := DataW.trod_string ht h
  refine ⟨rfl, rfl, rfl, fun j hj => ?_⟩
  obtain rfl : j = 0 := by omega
  exact .s _ s.data.toList
inductive TellsF (enc : TypeId × Value → H) (W : World) : List Field → Nat → List (DataW H → List D) → Nat → Prop
  | nil (off : Nat) : TellsF enc W [] off [] off
  | cons (f : Field) (fs : List Field) (off z N : Nat) (G : DataW H → List D) (Gs : List (DataW H → List D)) (ho : f.offset = off) (hc : Tryz.prog.cellsOf f.type = z) (hG : Tells enc W f.type z G) (h : TellsF enc W fs (off + z) Gs N) : TellsF enc W (f :: fs) off (G :: Gs) N
theorem zrm {base : Nat} {t : TypeId} {v : Value} {d : DataW H} {ps : List MemPlace} (ht : Tryz.prog.underlying t = some .string) (hv : Value.okWide Tryz.prog W .any base t v) (h : DataW.Trod enc Tryz.prog W 0 (fun _ => true) true t v d ps) : Rel (allOf W) W noRho (.s (strOf d)) v := by
  obtain ⟨s, rfl⟩ := okWide_string ht hv
  obtain ⟨fuel, hf⟩ := h
  have := (znA ht _ _ _ hf).2.2.2 0 (by omega)
  exact this
theorem zpi (d : DataW H) : (strOf d).length ≤ Rows.uptoBulk d := by
  cases d with
  | lit l => cases l <;> simp [strOf, Rows.uptoBulk]
  | _ => simp [strOf]
end Go.Proofs.YtcajofhafpkbdaaGreatDoor.Flow

namespace Go.Proofs.YtcajofhafpkbdaaGreatDoor.Flow
open Go
theorem zdT (a b : List Txt) (ha : a.length ≤ 4194304) (_hb : b.length ≤ 4194304) : Ctr Tryz.prog 44 [.sl 1 a.length (txF a), .sl 1 b.length (txF b)] (.b (decide (a = b))) := by
  refine zay Tryz.func44 rfl Tryz.ntmps44 Tryz.results44 rfl rfl fun X hL hX => ?_
  by_cases hlen : a.length = b.length
  rotate_left
  · skip
    repeat' (first |with_reducible (first |refine zag ?_|refine zaa ?_|refine zaf ?_|refine zad ?_|refine zaj ?_|refine zal ?_)|refine zab rfl rfl True.intro ?_|((first |refine zat rfl ?_ ?_)<;>intro<;>try (first |(exfalso;omega)))|refine zaw rfl ?_|fail)
    all_goals exact congrArg D.b (decide_eq_false fun h => hlen (by rw [h])).symm
  repeat' (first |with_reducible (first |refine zag ?_|refine zaa ?_|refine zaf ?_|refine zad ?_|refine zai ?_|refine zae ?_)|refine zab rfl rfl True.intro ?_|((first |refine zat rfl ?_ ?_)<;>intro<;>try (first |(exfalso;omega)))|fail)
  refine T.loop hL (fun i : Nat => [(0, .sl 1 a.length (txF a)), (1, .sl 1 b.length (txF b)), (5, .i .i64 i)]) (fun _ => [])
    (fun i => i ≤ a.length ∧ a.take i = b.take i) (fun i => a.length - i) 0 ⟨by omega, by simp⟩
    ⟨⟨rfl, rfl, rfl, trivial⟩, trivial, rfl, by rw [hX]; simp⟩ ?_
  rintro i ⟨h1, h2⟩
  try dsimp only at h1 h2 ⊢
  by_cases hlt : i < a.length
  rotate_left
  · have he : a = b := zer h2 hlen (by omega)
    repeat' (first |with_reducible (first |refine zag ?_|refine zaa ?_|refine zaf ?_|refine zad ?_|refine zaj ?_|refine zaz ?_|refine zaA ?_)|refine zab rfl rfl True.intro ?_|((first |refine zac rfl ?_ ?_)<;>intro<;>try (first |(exfalso;omega)))|refine zaJ rfl ?_|refine zaw rfl ?_|fail)
    all_goals exact congrArg D.b (decide_eq_true he).symm
  by_cases he : a.getD i [] = b.getD i []
  · have hn := zds [] h2 hlt (by omega) he
    have he' : (a.getD (i : Int).toNat [] == b.getD (i : Int).toNat []) = true := by rw [Int.toNat_natCast, he]; exact beq_self_eq_true _
    repeat' (first |with_reducible (first |refine zag ?_|refine zaa ?_|refine zaf ?_|refine zad ?_|refine zaj ?_|refine zai ?_|refine zae ?_|refine zaq ?_|refine zal ?_|refine zap ?_|refine zaD ?_)|refine zab rfl rfl True.intro ?_|((first |refine zac rfl ?_ ?_|refine zbw rfl ?_ ?_)<;>intro<;>try (first |(exfalso;omega)))|((first |refine zab rfl rfl ?_ ?_);focus (first |omega|exact le_ rfl))|with_reducible refine ⟨by kernel_rfl, ?_⟩|refine zaw rfl ?_|fail)
    all_goals first
      | exact ⟨i + 1, ⟨by omega, hn⟩, by omega, ⟨rfl, rfl, rfl, trivial⟩, trivial, rfl, by rw [hX]; simp⟩
      | exact Bool.noConfusion (he'.symm.trans (by assumption : _ = false))
      | trace_state
  · have hne : a ≠ b := fun h => he (by rw [h])
    have he' : (a.getD (i : Int).toNat [] == b.getD (i : Int).toNat []) = false := by rw [Int.toNat_natCast]; exact beq_eq_false_iff_ne.2 he
    repeat' (first |with_reducible (first |refine zag ?_|refine zaa ?_|refine zaf ?_|refine zad ?_|refine zaj ?_|refine zai ?_|refine zae ?_|refine zaq ?_|refine zal ?_|refine zap ?_|refine zaD ?_)|refine zab rfl rfl True.intro ?_|((first |refine zac rfl ?_ ?_|refine zbw rfl ?_ ?_)<;>intro<;>try (first |(exfalso;omega)))|((first |refine zab rfl rfl ?_ ?_);focus (first |omega|exact le_ rfl))|with_reducible refine ⟨by kernel_rfl, ?_⟩|refine zaw rfl ?_|fail)
    all_goals first
      | exact congrArg D.b (decide_eq_false hne).symm
      | exact Bool.noConfusion ((by assumption : _ = true).symm.trans he')
      | trace_state
end Go.Proofs.YtcajofhafpkbdaaGreatDoor.Flow
