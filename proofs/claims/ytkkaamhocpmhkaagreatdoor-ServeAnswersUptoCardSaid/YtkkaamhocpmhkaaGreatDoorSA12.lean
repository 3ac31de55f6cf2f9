/- The texts Shelf, Libs, K29, FlowZb, FlowXk, one behind the other. -/
import Derived.Test.YtkkaamhocpmhkaaGreatDoorSA9
import Derived.Test.YtkkaamhocpmhkaaGreatDoorSA10
import Derived.Test.YtkkaamhocpmhkaaGreatDoorSA11
import Derived.Shelf.Strings.Trim
import Derived.Shelf.Small.Strs
import Derived.Shelf.Small.Wraps
import Derived.Shelf.Strconv.Itoa0
import Derived.Shelf.Strconv.Itoa1
import Derived.Shelf.LaysM
import Derived.Shelf.Strconv.Itoa2
import Derived.Shelf.Strconv.Itoa3
import Derived.Shelf.Strconv.Itoa4
import Derived.Shelf.Strings.Prefix
import Derived.Shelf.Strings.Split
import Derived.Shelf.Strings.IndexAnyAll
import Derived.Shelf.Strings.Repeat
import Derived.Test.YtkkaamhocpmhkaaGreatDoorProg
import Derived.Lib.TrimByte
import Derived.Sort.Grow
import Derived.Shelf.Spec.SlicesGrow
import Derived.Lib.FrozenHead
namespace Go.Proofs
open Go.Shelf
open Go.RowKit in
open Go.RowKit in
open Go.RowKit in
def Tryz.lays103_ren : Go.Shelf.Ren := ⟨fun | 103 => 94 | 210 => 143 | 206 => 193 | n => n, fun | 9 => 9 | 4 => 4 | 24 => 82 | 3 => 3 | n => n, fun | n => n⟩
theorem Tryz.lays103 : Go.Proofs.Lays.n103 Tryz.prog Tryz.lays103_ren := {
  mixed := by kernel_rfl
  f103 := Tryz.func94.trans (congrArg some (by kernel_rfl))
  f206 := Tryz.func193.trans (congrArg some (by kernel_rfl))
  f210 := Tryz.func143.trans (congrArg some (by kernel_rfl))
  t3 := Tryz.underlying3
  a3 := Tryz.isAgg3
  z3 := Tryz.sizeOf3
  v3 := Tryz.zeroValue3
  t4 := Tryz.underlying4
  a4 := Tryz.isAgg4
  z4 := Tryz.sizeOf4
  v4 := Tryz.zeroValue4
  t9 := Tryz.underlying9
  a9 := Tryz.isAgg9
  z9 := Tryz.sizeOf9
  v9 := Tryz.zeroValue9
  t24 := Tryz.underlying82
  a24 := Tryz.isAgg82
  z24 := Tryz.sizeOf82
  v24 := Tryz.zeroValue82 }
open Go.RowKit in
theorem Tryz.strings_CutPrefix (s p : ByteArray) (w : World) :
    Calls Tryz.prog 94 #[.string s, .string p] w fun e w' => e = .returned (.tuple #[.string ⟨(Lib.trimPrefix s.data.toList p.data.toList).toArray⟩, .bool (Lib.hasPrefix s.data.toList p.data.toList)]) ∧ w' = w := Any.strings_CutPrefix Tryz.lays103 s p w
def Tryz.lays104_ren : Go.Shelf.Ren := ⟨fun | 104 => 95 | 211 => 144 | 207 => 194 | n => n, fun | 9 => 9 | 4 => 4 | 24 => 82 | 3 => 3 | n => n, fun | n => n⟩
theorem Tryz.lays104 : Go.Proofs.Lays.n104 Tryz.prog Tryz.lays104_ren := {
  mixed := by kernel_rfl
  f104 := Tryz.func95.trans (congrArg some (by kernel_rfl))
  f207 := Tryz.func194.trans (congrArg some (by kernel_rfl))
  f211 := Tryz.func144.trans (congrArg some (by kernel_rfl))
  t3 := Tryz.underlying3
  a3 := Tryz.isAgg3
  z3 := Tryz.sizeOf3
  v3 := Tryz.zeroValue3
  t4 := Tryz.underlying4
  a4 := Tryz.isAgg4
  z4 := Tryz.sizeOf4
  v4 := Tryz.zeroValue4
  t9 := Tryz.underlying9
  a9 := Tryz.isAgg9
  z9 := Tryz.sizeOf9
  v9 := Tryz.zeroValue9
  t24 := Tryz.underlying82
  a24 := Tryz.isAgg82
  z24 := Tryz.sizeOf82
  v24 := Tryz.zeroValue82 }
open Go.RowKit in
theorem Tryz.strings_CutSuffix (s p : ByteArray) (w : World) (hs : s.size ≤ 9223372036854775807) :
    Calls Tryz.prog 95 #[.string s, .string p] w fun e w' => e = .returned (.tuple #[.string ⟨(Lib.trimSuffix s.data.toList p.data.toList).toArray⟩, .bool (Lib.hasSuffix s.data.toList p.data.toList)]) ∧ w' = w := Any.strings_CutSuffix Tryz.lays104 s p w hs
open Go.RowKit in
open Go.Lib in
open Go.Lib in
open Go.RowKit Go.Sort Go.Lib in
def Tryz.laysM171_ren : Go.Shelf.Ren := ⟨fun | 171 => 56 | 243 => 105 | 246 => 121 | 283 => 168 | 284 => 169 | 285 => 170 | 286 => 171 | 129 => 117 | 317 => 211 | 318 => 212 | 319 => 213 | 320 => 214 | 337 => 248 | 338 => 249 | n => n, fun | 3 => 3 | 9 => 9 | 2 => 2 | 4 => 4 | 171 => 207 | 0 => 0 | 53 => 43 | 37 => 58 | 5 => 5 | 173 => 209 | 212 => 257 | 51 => 139 | 20 => 20 | 213 => 258 | 46 => 153 | 232 => 293 | 233 => 294 | n => n, fun | 17 => 2 | 18 => 4 | 19 => 5 | n => n⟩
theorem Tryz.laysM171 : Go.Proofs.LaysM.n171 Tryz.prog Tryz.laysM171_ren := {
  mixed := by kernel_rfl
  f129 := Tryz.func117.trans (congrArg some (by kernel_rfl))
  f171 := Tryz.func56.trans (congrArg some (by kernel_rfl))
  f243 := Tryz.func105.trans (congrArg some (by kernel_rfl))
  f246 := Tryz.func121.trans (congrArg some (by kernel_rfl))
  f283 := Tryz.func168.trans (congrArg some (by kernel_rfl))
  f284 := Tryz.func169.trans (congrArg some (by kernel_rfl))
  f285 := Tryz.func170.trans (congrArg some (by kernel_rfl))
  f286 := Tryz.func171.trans (congrArg some (by kernel_rfl))
  f317 := Tryz.func211.trans (congrArg some (by kernel_rfl))
  f318 := Tryz.func212.trans (congrArg some (by kernel_rfl))
  f319 := Tryz.func213.trans (congrArg some (by kernel_rfl))
  f320 := Tryz.func214.trans (congrArg some (by kernel_rfl))
  f337 := Tryz.func248.trans (congrArg some (by kernel_rfl))
  f338 := Tryz.func249.trans (congrArg some (by kernel_rfl))
  t0 := Tryz.underlying0
  a0 := Tryz.isAgg0
  z0 := Tryz.sizeOf0
  v0 := Tryz.zeroValue0
  t2 := Tryz.underlying2
  a2 := Tryz.isAgg2
  z2 := Tryz.sizeOf2
  v2 := Tryz.zeroValue2
  t3 := Tryz.underlying3
  a3 := Tryz.isAgg3
  z3 := Tryz.sizeOf3
  v3 := Tryz.zeroValue3
  t4 := Tryz.underlying4
  a4 := Tryz.isAgg4
  z4 := Tryz.sizeOf4
  v4 := Tryz.zeroValue4
  t5 := Tryz.underlying5
  a5 := Tryz.isAgg5
  z5 := Tryz.sizeOf5
  v5 := Tryz.zeroValue5
  t9 := Tryz.underlying9
  a9 := Tryz.isAgg9
  z9 := Tryz.sizeOf9
  v9 := Tryz.zeroValue9
  t20 := Tryz.underlying20
  a20 := Tryz.isAgg20
  z20 := Tryz.sizeOf20
  v20 := Tryz.zeroValue20
  t37 := Tryz.underlying58
  a37 := Tryz.isAgg58
  z37 := Tryz.sizeOf58
  v37 := Tryz.zeroValue58
  t46 := Tryz.underlying153
  a46 := Tryz.isAgg153
  z46 := Tryz.sizeOf153
  v46 := Tryz.zeroValue153
  t51 := Tryz.underlying139
  a51 := Tryz.isAgg139
  z51 := Tryz.sizeOf139
  v51 := Tryz.zeroValue139
  t53 := Tryz.underlying43
  a53 := Tryz.isAgg43
  z53 := Tryz.sizeOf43
  v53 := Tryz.zeroValue43
  t171 := Tryz.underlying207
  a171 := Tryz.isAgg207
  z171 := Tryz.sizeOf207
  v171 := Tryz.zeroValue207
  t173 := Tryz.underlying209
  a173 := Tryz.isAgg209
  z173 := Tryz.sizeOf209
  v173 := Tryz.zeroValue209
  t212 := Tryz.underlying257
  a212 := Tryz.isAgg257
  z212 := Tryz.sizeOf257
  v212 := Tryz.zeroValue257
  t213 := Tryz.underlying258
  a213 := Tryz.isAgg258
  z213 := Tryz.sizeOf258
  t232 := Tryz.underlying293
  a232 := Tryz.isAgg293
  z232 := Tryz.sizeOf293
  v232 := Tryz.zeroValue293
  t233 := Tryz.underlying294
  a233 := Tryz.isAgg294
  z233 := Tryz.sizeOf294
  v233 := Tryz.zeroValue294
  g17 := by kernel_rfl
  g18 := by kernel_rfl
  g19 := by kernel_rfl
  i0 := by kernel_rfl
  i2 := by kernel_rfl
  i3 := by kernel_rfl
  i4 := by kernel_rfl
  i5 := by kernel_rfl
  i9 := by kernel_rfl
  i20 := by kernel_rfl
  i37 := by kernel_rfl
  i46 := by kernel_rfl
  i51 := by kernel_rfl
  i53 := by kernel_rfl
  i171 := by kernel_rfl
  i173 := by kernel_rfl
  i212 := by kernel_rfl
  i232 := by kernel_rfl
  i233 := by kernel_rfl
  m17 := by kernel_rfl
  m18 := by kernel_rfl
  m19 := by kernel_rfl }
open Go.RowKit Go.Sort Go.Lib in
theorem Tryz.strconv_Itoa (n : Int) (h0 : -9223372036854775808 ≤ n) (h1 : n ≤ 9223372036854775807) (w : World) (htab : Lib.TabIs Tryz.prog w "internal/strconv.uint64pow10" .u64 Lib.pow10Tab) :
    Calls Tryz.prog 56 #[.int .i64 n] w fun e w' => e = .returned (.string ⟨(Lib.itoa n).toArray⟩) ∧ ∃ k os, w' = grow (w.drewN k) os := Any.strconv_Itoa Tryz.laysM171 n h0 h1 w htab
open Go.RowKit Go.Sort Go.Lib in
open Go.RowKit Go.Lib in
def Tryz.lays146_ren : Go.Shelf.Ren := ⟨fun | 146 => 97 | 221 => 145 | 268 => 195 | 138 => 196 | 143 => 197 | 195 => 232 | 197 => 233 | 218 => 234 | 219 => 235 | 260 => 254 | 217 => 172 | 225 => 228 | 224 => 227 | 267 => 255 | 266 => 215 | 314 => 258 | n => n, fun | 9 => 9 | 31 => 22 | 3 => 3 | 4 => 4 | 0 => 0 | 105 => 272 | 21 => 21 | 5 => 5 | 46 => 153 | 119 => 203 | 139 => 206 | 138 => 205 | 146 => 263 | 51 => 139 | n => n, fun | 1 => 3 | 3 => 0 | 4 => 1 | n => n⟩
theorem Tryz.lays146 : Go.Proofs.Lays.n146 Tryz.prog Tryz.lays146_ren := {
  mixed := by kernel_rfl
  f138 := Tryz.func196.trans (congrArg some (by kernel_rfl))
  f143 := Tryz.func197.trans (congrArg some (by kernel_rfl))
  f146 := Tryz.func97.trans (congrArg some (by kernel_rfl))
  f195 := Tryz.func232.trans (congrArg some (by kernel_rfl))
  f197 := Tryz.func233.trans (congrArg some (by kernel_rfl))
  f217 := Tryz.func172.trans (congrArg some (by kernel_rfl))
  f218 := Tryz.func234.trans (congrArg some (by kernel_rfl))
  f219 := Tryz.func235.trans (congrArg some (by kernel_rfl))
  f221 := Tryz.func145.trans (congrArg some (by kernel_rfl))
  f224 := Tryz.func227.trans (congrArg some (by kernel_rfl))
  f225 := Tryz.func228.trans (congrArg some (by kernel_rfl))
  f260 := Tryz.func254.trans (congrArg some (by kernel_rfl))
  f266 := Tryz.func215.trans (congrArg some (by kernel_rfl))
  f267 := Tryz.func255.trans (congrArg some (by kernel_rfl))
  f268 := Tryz.func195.trans (congrArg some (by kernel_rfl))
  f314 := Tryz.func258.trans (congrArg some (by kernel_rfl))
  t0 := Tryz.underlying0
  a0 := Tryz.isAgg0
  z0 := Tryz.sizeOf0
  v0 := Tryz.zeroValue0
  t3 := Tryz.underlying3
  a3 := Tryz.isAgg3
  z3 := Tryz.sizeOf3
  v3 := Tryz.zeroValue3
  t4 := Tryz.underlying4
  a4 := Tryz.isAgg4
  z4 := Tryz.sizeOf4
  v4 := Tryz.zeroValue4
  t5 := Tryz.underlying5
  a5 := Tryz.isAgg5
  z5 := Tryz.sizeOf5
  v5 := Tryz.zeroValue5
  t9 := Tryz.underlying9
  a9 := Tryz.isAgg9
  z9 := Tryz.sizeOf9
  v9 := Tryz.zeroValue9
  t21 := Tryz.underlying21
  a21 := Tryz.isAgg21
  z21 := Tryz.sizeOf21
  v21 := Tryz.zeroValue21
  t31 := Tryz.underlying22
  a31 := Tryz.isAgg22
  z31 := Tryz.sizeOf22
  v31 := Tryz.zeroValue22
  t46 := Tryz.underlying153
  a46 := Tryz.isAgg153
  z46 := Tryz.sizeOf153
  v46 := Tryz.zeroValue153
  t51 := Tryz.underlying139
  a51 := Tryz.isAgg139
  z51 := Tryz.sizeOf139
  v51 := Tryz.zeroValue139
  t105 := Tryz.underlying272
  a105 := Tryz.isAgg272
  z105 := Tryz.sizeOf272
  v105 := Tryz.zeroValue272
  t119 := Tryz.underlying203
  a119 := Tryz.isAgg203
  z119 := Tryz.sizeOf203
  t138 := Tryz.underlying205
  a138 := Tryz.isAgg205
  z138 := Tryz.sizeOf205
  v138 := Tryz.zeroValue205
  t139 := Tryz.underlying206
  a139 := Tryz.isAgg206
  z139 := Tryz.sizeOf206
  v139 := Tryz.zeroValue206
  t146 := Tryz.underlying263
  a146 := Tryz.isAgg263
  z146 := Tryz.sizeOf263
  v146 := Tryz.zeroValue263
  g1 := by kernel_rfl
  g3 := by kernel_rfl
  g4 := by kernel_rfl }
open Go.RowKit Go.Lib in
theorem Tryz.strings_Split (s sep : ByteArray) (m : Int) (w : World) (hs : s.size < 4294967281) (hm : w.cell? ⟨3, 0, none⟩ = some (.int .i64 m)) (h1 : 1 ≤ sep.size) :
    Calls Tryz.prog 97 #[.string s, .string sep] w fun e w' =>
      e = .returned (.slice (some ⟨w.heap.size, 0, none⟩) (Lib.countB s sep + 1) (Lib.countB s sep + 1)) ∧ w' = w.alloc (.cells ((Lib.splitB sep 0 (Lib.countB s sep) s).map Value.string).toArray 9) := Any.strings_Split Tryz.lays146 (by kernel_rfl) s sep m w hs hm h1
open Go.RowKit Go.Lib in
def Tryz.lays105_ren : Go.Shelf.Ren := ⟨fun | 105 => 128 | 212 => 175 | 99 => 166 | 165 => 176 | 166 => 177 | 170 => 178 | 169 => 179 | 263 => 222 | 264 => 223 | 206 => 193 | 240 => 224 | 241 => 225 | 276 => 252 | 277 => 253 | n => n, fun | 9 => 9 | 3 => 3 | 4 => 4 | 20 => 20 | 0 => 0 | 46 => 153 | 109 => 212 | 5 => 5 | 72 => 216 | 76 => 220 | 51 => 139 | 146 => 263 | 53 => 43 | 148 => 265 | 70 => 214 | 37 => 58 | 75 => 219 | 127 => 267 | 164 => 289 | 80 => 148 | n => n, fun | n => n⟩
theorem Tryz.lays105 : Go.Proofs.Lays.n105 Tryz.prog Tryz.lays105_ren := {
  mixed := by kernel_rfl
  f99 := Tryz.func166.trans (congrArg some (by kernel_rfl))
  f105 := Tryz.func128.trans (congrArg some (by kernel_rfl))
  f165 := Tryz.func176.trans (congrArg some (by kernel_rfl))
  f166 := Tryz.func177.trans (congrArg some (by kernel_rfl))
  f169 := Tryz.func179.trans (congrArg some (by kernel_rfl))
  f170 := Tryz.func178.trans (congrArg some (by kernel_rfl))
  f206 := Tryz.func193.trans (congrArg some (by kernel_rfl))
  f212 := Tryz.func175.trans (congrArg some (by kernel_rfl))
  f240 := Tryz.func224.trans (congrArg some (by kernel_rfl))
  f241 := Tryz.func225.trans (congrArg some (by kernel_rfl))
  f263 := Tryz.func222.trans (congrArg some (by kernel_rfl))
  f264 := Tryz.func223.trans (congrArg some (by kernel_rfl))
  f276 := Tryz.func252.trans (congrArg some (by kernel_rfl))
  f277 := Tryz.func253.trans (congrArg some (by kernel_rfl))
  t0 := Tryz.underlying0
  a0 := Tryz.isAgg0
  z0 := Tryz.sizeOf0
  v0 := Tryz.zeroValue0
  t3 := Tryz.underlying3
  a3 := Tryz.isAgg3
  z3 := Tryz.sizeOf3
  v3 := Tryz.zeroValue3
  t4 := Tryz.underlying4
  a4 := Tryz.isAgg4
  z4 := Tryz.sizeOf4
  v4 := Tryz.zeroValue4
  t5 := Tryz.underlying5
  a5 := Tryz.isAgg5
  z5 := Tryz.sizeOf5
  v5 := Tryz.zeroValue5
  t9 := Tryz.underlying9
  a9 := Tryz.isAgg9
  z9 := Tryz.sizeOf9
  v9 := Tryz.zeroValue9
  t20 := Tryz.underlying20
  a20 := Tryz.isAgg20
  z20 := Tryz.sizeOf20
  v20 := Tryz.zeroValue20
  t37 := Tryz.underlying58
  a37 := Tryz.isAgg58
  z37 := Tryz.sizeOf58
  v37 := Tryz.zeroValue58
  t46 := Tryz.underlying153
  a46 := Tryz.isAgg153
  z46 := Tryz.sizeOf153
  v46 := Tryz.zeroValue153
  t51 := Tryz.underlying139
  a51 := Tryz.isAgg139
  z51 := Tryz.sizeOf139
  v51 := Tryz.zeroValue139
  t53 := Tryz.underlying43
  a53 := Tryz.isAgg43
  z53 := Tryz.sizeOf43
  v53 := Tryz.zeroValue43
  t70 := Tryz.underlying214
  a70 := Tryz.isAgg214
  z70 := Tryz.sizeOf214
  v70 := Tryz.zeroValue214
  t72 := Tryz.underlying216
  a72 := Tryz.isAgg216
  z72 := Tryz.sizeOf216
  v72 := Tryz.zeroValue216
  t75 := Tryz.underlying219
  a75 := Tryz.isAgg219
  z75 := Tryz.sizeOf219
  v75 := Tryz.zeroValue219
  t76 := Tryz.underlying220
  a76 := Tryz.isAgg220
  z76 := Tryz.sizeOf220
  v76 := Tryz.zeroValue220
  t109 := Tryz.underlying212
  a109 := Tryz.isAgg212
  z109 := Tryz.sizeOf212
  v109 := Tryz.zeroValue212
  t127 := Tryz.underlying267
  a127 := Tryz.isAgg267
  z127 := Tryz.sizeOf267
  v127 := Tryz.zeroValue267
  t146 := Tryz.underlying263
  a146 := Tryz.isAgg263
  z146 := Tryz.sizeOf263
  v146 := Tryz.zeroValue263
  t148 := Tryz.underlying265
  a148 := Tryz.isAgg265
  z148 := Tryz.sizeOf265
  v148 := Tryz.zeroValue265
  t164 := Tryz.underlying289
  a164 := Tryz.isAgg289
  z164 := Tryz.sizeOf289
  v164 := Tryz.zeroValue289 }
theorem Tryz.Builder_Extra_105 : Builder.Extra Tryz.prog Tryz.lays105_ren := {
  sizeBuilder := by kernel_rfl
  liesBuilder := by kernel_rfl
  t5 := Tryz.underlying5
  a5 := Tryz.isAgg5
  z5 := Tryz.sizeOf5
  v5 := Tryz.zeroValue5
  infoByte := by kernel_rfl
  cellsByte := by kernel_rfl
  sizeByte := by kernel_rfl
  neB5 := by decide }
open Go.RowKit Go.Lib in
theorem Tryz.strings_Repeat (s : ByteArray) (c : Nat) (w : World) (hc : c ≤ 9223372036854775807) (hlen : s.size * c ≤ 140737488355328) :
    Calls Tryz.prog 128 #[.string s, .int .i64 c] w fun e w' => e = .returned (.string ⟨(Lib.repeatL s.data.toList c).toArray⟩) ∧ Below w.heap.size w w' := Any.strings_Repeat Tryz.lays105 Tryz.Builder_Extra_105 s c w hc hlen
end Go.Proofs

namespace Go.Proofs.YtkkaamhocpmhkaaGreatDoor.Flow
open Go
theorem zjz {vs : Array Value} (h : vs.size = 2) : vs = #[vs.getD 0 undef, vs.getD 1 undef] := by
  obtain ⟨l⟩ := vs
  match l, h with
  | [a, b], _ => rfl
theorem zmJ {vs : Array Value} (h : vs.size = 1) : vs = #[vs.getD 0 undef] := by
  obtain ⟨l⟩ := vs
  match l, h with
  | [a], _ => rfl
theorem zeq {w w' : World} {S : Cells} (hv : ∀ b o, S b o → b < w.heap.size) (hg : GOk S w) (h : RowKit.Below w.heap.size w w') : Hist { w0 := w, S0 := S, L := fun _ => False } w' S where
  os := h.os
  tape := h.tape
  output := h.output
  size := h.size
  block := fun k hk _ => h.block k hk
  sub := fun _ _ h => h
  cell := fun b o hb => by
    have := h.block b (hv b o hb)
    simp [World.cell?, this]
  new := fun _ _ h => .inl h
  valid := fun b o hb => Nat.lt_of_lt_of_le (hv b o hb) h.size
  glob := hg.mono (fun _ _ h => h) fun b o hb => by
    have := h.block b (hv b o hb)
    simp [World.cell?, this]
theorem zhz (s : List UInt8) (c : Nat) (hc : c ≤ 9223372036854775807) (hlen : s.length * c ≤ 140737488355328) : Ctr Tryz.prog 128 [.s s, .i .i64 c] (.s (Lib.repeatL s c)) := by
  intro w S vs hv hg hn hr
  have h0 := hr 0 (by simp)
  have h1 := hr 1 (by simp)
  rw [zjz hn]
  generalize vs.getD 0 undef = v0 at *
  generalize vs.getD 1 undef = v1 at *
  cases h0
  cases h1
  refine (Tryz.strings_Repeat ⟨s.toArray⟩ c w hc (by simpa [ByteArray.size] using hlen)).mono ?_
  rintro e w' ⟨rfl, hb⟩
  exact ⟨_, S, rfl, .s _ _, zeq hv hg hb⟩
theorem zgE (w : World) (k : Nat) (os : Array Obj) : RowKit.Below w.heap.size w (Sort.grow (w.drewN k) os) where
  os := rfl
  tape := rfl
  output := rfl
  size := by show w.heap.size ≤ (w.heap ++ os).size; rw [Array.size_append]; omega
  block := fun j hj => by
    show (w.heap ++ os)[j]? = w.heap[j]?
    rw [Array.getElem?_append_left hj]

def growRenH : Go.Shelf.Ren := ⟨fun | 4 => 104 | n => n, fun | 22 => 50 | 25 => 54 | n => n, fun | n => n⟩
theorem growLaysH : Go.Proofs.Lays8.n4 Tryz.prog growRenH := {
  mixed := by kernel_rfl
  f4 := ⟨"slices.Grow[[][2]string,[2]string]", rfl, Tryz.func104.trans (congrArg some (by kernel_rfl))⟩
  t0 := Tryz.underlying0
  a0 := Tryz.isAgg0
  z0 := Tryz.sizeOf0
  v0 := Tryz.zeroValue0
  t3 := Tryz.underlying3
  a3 := Tryz.isAgg3
  z3 := Tryz.sizeOf3
  v3 := Tryz.zeroValue3
  t4 := Tryz.underlying4
  a4 := Tryz.isAgg4
  z4 := Tryz.sizeOf4
  v4 := Tryz.zeroValue4
  t9 := Tryz.underlying9
  a9 := Tryz.isAgg9
  z9 := Tryz.sizeOf9
  v9 := Tryz.zeroValue9
  t20 := Tryz.underlying20
  a20 := Tryz.isAgg20
  z20 := Tryz.sizeOf20
  v20 := Tryz.zeroValue20
  t22 := Tryz.underlying50
  a22 := Tryz.isAgg50
  z22 := Tryz.sizeOf50
  v22 := Tryz.zeroValue50 }
theorem growInfoH : (Tryz.prog.info? 54).map (fun i => (i.zero, i.size, i.bytes)) = some (some (Value.agg #[.string ⟨#[]⟩, .string ⟨#[]⟩]), 2, 32) := by kernel_rfl
theorem zim (n : Nat) (h0 : 0 < n) (hn : n ≤ 100000000) (f : Nat → List D) : CtrO Tryz.prog 104 [.nilS, .i .i64 n] [] (.gs 105 2 0 f) [(105, .row 54 2 0)] := by
  intro X vs hids hH hI hsz hr
  have q0 := hr 0 (by simp)
  have q1 := hr 1 (by simp)
  rw [zjz hsz]
  generalize vs.getD 0 undef = v0 at *
  generalize vs.getD 1 undef = v1 at *
  cases q0
  cases q1
  obtain ⟨i0, hi0, hz0, hs0, hb0⟩ : ∃ i0 : TypeInfo, Tryz.prog.info? (growRenH.t 25) = some i0 ∧ i0.zero = some (Value.agg #[.string ⟨#[]⟩, .string ⟨#[]⟩]) ∧ i0.size = 2 ∧ i0.bytes = 32 := by
    have h := growInfoH
    show ∃ i0 : TypeInfo, Tryz.prog.info? 54 = some i0 ∧ _
    cases hq : Tryz.prog.info? 54 with
    | none => rw [hq] at h; cases h
    | some i0 =>
      rw [hq] at h
      simp only [Option.map_some, Option.some.injEq, Prod.mk.injEq] at h
      exact ⟨i0, rfl, h.1, h.2.1, h.2.2⟩
  refine (Any8.slices_Grow_grow growLaysH i0 _ hi0 hz0 (by omega) none 0 0 n [] X.w0 (Nat.le_refl _) (by omega) (by rw [hb0]; omega) (by omega) (by simp) (fun _ => rfl) (fun a h => by cases h)).mono ?_
  rintro e w' ⟨rfl, rfl⟩
  have hG := grownCap_le_maxLen X.w0 (0 + n) 0 (growRenH.t 25) (by unfold maxLen; omega)
  have hG2 : 0 + n ≤ grownCap X.w0 (0 + n) 0 (growRenH.t 25) := grownCap_ge X.w0 _ _ _
  generalize grownCap X.w0 (0 + n) 0 (growRenH.t 25) = G at hG hG2 ⊢
  obtain ⟨S', r', g1, g2, g3, g4, g5, g6⟩ := zed false (g := none) (k := 105) (cur := ([] : List Value).toArray ++ Builtin.zeroCells (Value.agg #[.string ⟨#[]⟩, .string ⟨#[]⟩]).cells (0 + n - 0) ++ Builtin.zeroCells (Value.agg #[.string ⟨#[]⟩, .string ⟨#[]⟩]).cells (G - (0 + n))) (el := 54) (z := 2) (N := 0) (cap := G) (f := f) (c := fun _ _ => undef) hH hI (Chg.drewAlloc X.w0 X.S0 hH.valid _ none) (fun b hb => by cases hb) (.inl ⟨Nat.le_refl _, by simp, Nat.le_refl _⟩) (RhoLe.new (hI.dom 105 rfl))
    (heap_alloc_new X.w0.drew _) (Nat.zero_le _) hG (by
      have hz : (Value.agg #[.string ⟨#[]⟩, .string ⟨#[]⟩]).cells.size = 2 := rfl
      simp only [Builtin.zeroCells, Array.size_append, Array.size_map, Array.size_range, hz, List.size_toArray, List.length_nil]
      omega) (fun i j hi hj => by omega) (fun o _ hs => by have := hH.valid _ _ hs; omega) (fun i hi => by omega) (fun i j hi hj => by omega)
  refine ⟨_, S', r', rfl, g1, g2, ?_, g6⟩
  rw [zaA]
  exact g3
def hdLF (ls : List (List (List UInt8 × List UInt8))) : Nat → List D := fun i => [.sl 2 (ls.getD i []).length (hdF (ls.getD i []))]
theorem zfQ {ls : List (List (List UInt8 × List UInt8))} {i : Nat} (h : i < ls.length) : (ls.take (i + 1)).flatten = (ls.take i).flatten ++ ls.getD i [] := by
  rw [List.take_add_one, List.flatten_append]
  simp [List.getD_eq_getElem?_getD, h]
theorem zcp (ls : List (List (List UInt8 × List UInt8))) (i : Nat) : (ls.take i).flatten.length ≤ ls.flatten.length := by
  have e : ls.flatten.length = (ls.take i).flatten.length + (ls.drop i).flatten.length := by
    rw [← List.length_append, ← List.flatten_append, List.take_append_drop]
  omega
theorem zgO (a b : List (List UInt8 × List UInt8)) (g : Nat → List D) (hg : ∀ i, i < b.length → g i = hdF b i) : catF a.length (hdF a) b.length g = hdF (a ++ b) := by
  funext j
  unfold catF
  by_cases h : j < a.length
  · rw [if_pos h]
    simp [hdF, List.getD_eq_getElem?_getD, List.getElem?_append_left h]
  · rw [if_neg h]
    by_cases h2 : j < a.length + b.length
    · rw [if_pos h2, hg _ (by omega)]
      simp [hdF, List.getD_eq_getElem?_getD, List.getElem?_append_right (show a.length ≤ j by omega)]
    · rw [if_neg h2]
      simp only [hdF, List.getD_eq_getElem?_getD]
      rw [List.getElem?_eq_none (show a.length ≤ j by omega), List.getElem?_eq_none (show (a ++ b).length ≤ j by rw [List.length_append]; omega)]
theorem zew (a b : List (List UInt8 × List UInt8)) : catF a.length (hdF a) b.length (hdF b) = hdF (a ++ b) := zgO a b _ fun _ _ => rfl
set_option maxRecDepth 100000 in
set_option maxHeartbeats 4000000 in
theorem zgj (ls : List (List (List UInt8 × List UInt8))) (hl : ls.length ≤ 100) (h0 : 0 < ls.flatten.length) (hn : ls.flatten.length ≤ 1000000) :
    CtrO Tryz.prog 55 [.sl 1 ls.length (hdLF ls)] [] (.gs 105 2 ls.flatten.length (hdF ls.flatten)) [(105, .row 54 2 ls.flatten.length)] := by
  refine zbG (ids := []) (ids2 := [105]) Tryz.func55 rfl Tryz.ntmps55 Tryz.results55 rfl rfl rfl (fun _ h => by cases h) rfl rfl fun X hL hX => ?_
  repeat' (first |with_reducible (first |refine zag ?_|refine zaa ?_|refine zaf ?_|refine zac ?_|refine zae ?_)|refine zab rfl rfl True.intro ?_|fail)
  refine T.loop hL (fun i : Nat => [(0, .sl 1 ls.length (hdLF ls)), (3, .i .i64 (ls.take i).flatten.length), (9, .sl 1 ls.length (hdLF ls)), (10, .i .i64 ls.length), (11, .i .i64 i)]) (fun _ => [])
    (fun i => i ≤ ls.length) (fun i => ls.length - i) 0 (Nat.zero_le _)
    ⟨⟨rfl, rfl, rfl, rfl, rfl, trivial⟩, trivial, rfl, by rw [hX]; simp⟩ ?_
  rintro i g1
  try dsimp only at g1 ⊢
  have hle := zcp ls i
  have hnat : (i : Int).toNat = i := Int.toNat_natCast i
  by_cases hil : i < ls.length
  · have hil' : (i : Int) < ls.length := by omega
    have hle2 := zcp ls (i + 1)
    have e : ((ls.take (i + 1)).flatten.length : Int) = (ls.take i).flatten.length + ((ls.getD (i : Int).toNat []).length : Int) := by
      rw [zfQ hil, List.length_append, hnat]
      omega
    have hpos : ¬ ((ls.take i).flatten.length : Int) + ((ls.getD (i : Int).toNat []).length : Int) < 0 := by omega
    have hsz : (ls.getD (i : Int).toNat []).length ≤ 1000000 := by omega
    repeat' (first |with_reducible (first |refine zag ?_|refine zaa ?_|refine zaf ?_|refine zac ?_|refine zah ?_|refine zae ?_|refine zai ?_)|refine zab rfl rfl True.intro ?_|refine zak rfl ?_|((first |refine zad rfl ?_ ?_)<;>intro<;>try (first |contradiction))|((first |refine zab rfl rfl ?_ ?_);focus (first |omega|exact le_ rfl|((repeat' refine And.intro ?_ ?_)<;>omega)))|fail)
    all_goals exact ⟨i + 1, by omega, by omega, ⟨rfl, congrArg (D.i .i64) e.symm, rfl, rfl, rfl, trivial⟩, trivial, rfl, by rw [hX]; simp⟩
  have hil' : ¬ (i : Int) < ls.length := by omega
  have ea : ls.take i = ls := List.take_of_length_le (by omega)
  rw [ea]
  have cG := zim ls.flatten.length h0 (by omega) (hdF [])
  repeat' (first |refine zby (f := 104) [] [(105, .row 54 2 0)] [] [105] rfl rfl (by decide) (fun _ h => by cases h) (fun k h _ => by rw [List.mem_singleton.1 h];rfl) rfl rfl Tryz.call104 trivial rfl rfl rfl rfl cG ?_|with_reducible (first |refine zag ?_|refine zaa ?_|refine zaf ?_|refine zac ?_|refine zan ?_|refine zae ?_|refine zao ?_)|refine zab rfl rfl True.intro ?_|((first |refine zad rfl ?_ ?_)<;>intro<;>try (first |contradiction))|refine zat rfl ?_|fail)
  refine T.loop hL (fun i : Nat => [(6, .gs 105 2 (ls.take i).flatten.length (hdF (ls.take i).flatten)), (25, .sl 1 ls.length (hdLF ls)), (26, .i .i64 ls.length), (27, .i .i64 i)]) (fun i => [(105, .row 54 2 (ls.take i).flatten.length)])
    (fun i => i ≤ ls.length) (fun i => ls.length - i) 0 (Nat.zero_le _)
    ⟨⟨by rfl, rfl, rfl, rfl, trivial⟩, ⟨by rfl, trivial⟩, rfl, by rw [hX]; simp⟩ ?_
  clear cG ea hil hil' hle hnat
  rintro q g1
  try dsimp only at g1 ⊢
  have hle := zcp ls q
  have hnat : (q : Int).toNat = q := Int.toNat_natCast q
  by_cases hil : q < ls.length
  · have hil' : (q : Int) < ls.length := by omega
    have hle2 := zcp ls (q + 1)
    have e := zfQ hil
    have e2 := zew (ls.take q).flatten (ls.getD (q : Int).toNat [])
    rw [hnat] at e2
    have el : (ls.take (q + 1)).flatten.length = (ls.take q).flatten.length + (ls.getD q []).length := by rw [e, List.length_append]
    have hsz : (ls.getD (q : Int).toNat []).length ≤ 1000000 := by rw [hnat]; omega
    have hb1 : ((ls.take q).flatten.length + (ls.getD (q : Int).toNat []).length) * 32 ≤ 140737488355328 := by rw [hnat]; omega
    repeat' (first |with_reducible (first |refine zag ?_|refine zaa ?_|refine zaf ?_|refine zac ?_|refine zah ?_|refine zae ?_|refine zai ?_)|refine zab rfl rfl True.intro ?_|((first |refine zad rfl ?_ ?_)<;>intro<;>try (first |contradiction))|((first |refine zab rfl rfl ?_ ?_|refine zaw rfl rfl ?_ ?_);focus (first |omega|exact le_ rfl|((repeat' refine And.intro ?_ ?_)<;>omega)|((repeat' refine And.intro ?_ ?_)<;>first |omega|rfl)))|fail)
    all_goals exact ⟨q + 1, by omega, by omega, ⟨by rw [e, ← e2, List.length_append]; rfl, rfl, rfl, rfl, trivial⟩, ⟨by rw [e, List.length_append]; rfl, trivial⟩, rfl, by rw [hX]; simp⟩
  have hil' : ¬ (q : Int) < ls.length := by omega
  have ea : ls.take q = ls := List.take_of_length_le (by omega)
  rw [ea]
  repeat' (first |with_reducible (first |refine zag ?_|refine zaa ?_|refine zaf ?_|refine zac ?_|refine zar ?_|refine zan ?_|refine zao ?_)|refine zab rfl rfl True.intro ?_|((first |refine zad rfl ?_ ?_)<;>intro<;>try (first |contradiction))|refine zat rfl ?_|refine zev rfl rfl ?_|fail)
  all_goals exact ⟨⟨rfl, trivial⟩⟩

section
variable {P : Program} {X : Ctx} {n : Nat} {o : Oper} {fr : Fr} {ow : Ow} {t k : Nat} {ty src dst e : TypeId} {x y : Operand} {l : List UInt8} {len i : Nat} {f : Nat → Int}
theorem zky (ho : o.op = .convert src dst x) (hs : P.underlying src = some .string) (hd' : P.underlying dst = some (.slice e)) (he' : P.underlying e = some (.int .u8)) (hx : ev fr x = .s l) (hl : l.length < maxLen) (hk : look k ow = none) (hd : dstOk o.dst n) :
    ∀ F' O', (∀ y ∈ o.op.operands.toList, evF F' y = evF (fF fr) y) → (∀ j ∈ [k], O' j = fO ow j) → StepAt P X n o F' O' (.ah k 1 l.length) [(k, .bm e l.length fun i => ((l.getD i 0).toNat : Int))] := by
  intro F' O' he hO
  refine zap hd fun a w S r hH hI hr => ?_
  have hk' : O' k = none := (hO k (by simp)).trans hk
  have hx' := hr x
  rw [he x (by simp [ho, Op.operands]), zaP, hx] at hx'
  generalize hv : a.eval x = vx at hx'
  cases hx'
  have hrun := run_bytes_of_string (P := P) w src dst e ⟨l.toArray⟩ hs hd' he'
  have hsz : (ByteArray.mk l.toArray).size = l.length := by simp [ByteArray.size]
  rw [hsz] at hrun
  have hge := grownCap_ge w l.length 0 e
  have hcm := grownCap_le_maxLen w l.length 0 e (by omega)
  generalize hcap : grownCap w l.length 0 e = cap at *
  have hc := Chg.drewAlloc w S hH.valid (.cells (bytesRow ⟨l.toArray⟩ cap) e ((bytesRow ⟨l.toArray⟩ cap).size, (bytesRow ⟨l.toArray⟩ cap).size + 1)) none
  have hle : RhoLe r (updR r k (.row (.slice (some ⟨w.heap.size, 0, none⟩) l.length cap) l.length)) := RhoLe.new (hI.dom k hk')
  have hk0 : updR r k (.row (.slice (some ⟨w.heap.size, 0, none⟩) l.length cap) l.length) k = some (.row (.slice (some ⟨w.heap.size, 0, none⟩) l.length cap) l.length) := by simp [updR]
  refine ⟨_, _, S, _, .inl (by simp [execOp, ho, hv, hrun]), .ah _ k 1 l.length cap _ _ l.length hk0 (Nat.le_refl _) (fun _ => .refl _) (fun _ => ⟨_, rfl⟩), hH.chg hc (fun b hb => by cases hb) (fun _ _ h => h) (fun _ _ h => .inl h), ?_, fun _ _ h => h, hc.cell, hle⟩
  refine hI.put hc (fun _ _ h => h) hle k _ _ ⟨w.heap.size, cap, _, _, hk0, heap_alloc_new w.drew _, .inr rfl, hge, hcm, ?_, fun i hi => ?_, fun o ho => by have := hH.valid _ _ ho; omega⟩ hk0 (fun j hj => by simp [updR, hj]) (fun b hb => ?_) (fun b hb => by cases hb) (fun b o h => .inl h)
  · simp only [bytesRow, Array.size_append, Array.size_map, List.size_toArray, Array.size_replicate, hsz]
    omega
  · simp only [bytesRow, List.map_toArray, Array.getD_eq_getD_getElem?]
    rw [Array.getElem?_append_left (by simpa using hi)]
    simp [hi, List.getD_eq_getElem?_getD]
  · simp only [Loc.block, Option.some.injEq] at hb
    subst hb
    exact .inl ⟨Nat.le_refl _, .inl hH.size⟩
end
section
variable {X : Ctx} {n : Nat} {all rest : List Oper} {fr : Fr} {ow : Ow} {tr : List (List Nat × List Nat)} {K : Fr → Ow → List (List Nat × List Nat) → Prop}
variable {t k : Nat} {ty ty' src dst e : TypeId} {ps : String} {af : Array Edge} {x y : Operand} {l : List UInt8} {len i : Nat} {f : Nat → Int} {m : Int}
set_option maxRecDepth 100000 in
theorem zmC (hs : Tryz.prog.underlying src = some .string) (hd' : Tryz.prog.underlying dst = some (.slice e)) (he' : Tryz.prog.underlying e = some (.int .u8)) (hx : ev fr x = .s l) (hl : l.length < 9223372036854775807) (hk : look t ow = none) (hn : Nat.blt t n = true)
    (h : CT Tryz.prog X n all rest ((t, .ah t 1 l.length) :: fr) ((t, .bm e l.length fun i => ((l.getD i 0).toNat : Int)) :: ow) (tr ++ [([t], [t])]) K) : CT Tryz.prog X n all (⟨some t, .convert src dst x, ty', ps, af, none⟩ :: rest) fr ow tr K :=
  CT.cons (e := ⟨.ah t 1 l.length, [t], [(t, .bm e l.length fun i => ((l.getD i 0).toNat : Int))]⟩) (.plain rfl (zky (o := ⟨some t, .convert src dst x, ty', ps, af, none⟩) rfl hs hd' he' hx hl hk (show t < n by simpa using hn))) (zaD ..) (zaA ..) h
end

section
variable {P : Program} {X : Ctx} {n : Nat} {o : Oper} {fr : Fr} {ow : Ow} {ty e tt t2 : TypeId} {x y lo hi mx : Operand}
theorem zhQ {S : Cells} {w : World} {r : Rho} {z len lo hi mx cap : Nat} {f : Nat → List D} {a : Option Addr} (h : Rel S w r (.sl z len f) (.slice a len cap)) (h1 : lo ≤ hi) (h2 : hi ≤ mx) (h3 : mx ≤ len) :
    Rel S w r (.sl z (hi - lo) (fun i => f (lo + i))) (.slice (if mx = lo then a else a.map (·.add (lo * z))) (hi - lo) (mx - lo)) := by
  obtain ⟨a', cap', c, e, hc, hm, hl, hr, hcell⟩ := zaU h
  cases e
  refine .sl _ _ _ _ _ _ (fun i j => c (lo + i) j) (by omega) (by omega) (fun i hi' => hl _ (by omega)) (fun i j hi' hj => ?_) (fun i j hi' hj => hr _ _ (by omega) hj)
  obtain ⟨b, o, he, hs, hcl⟩ := hcell (lo + i) j (by omega) hj
  rw [if_neg (by omega)]
  refine ⟨b, o + lo * z, by rw [he]; simp [Addr.add_lit], ?_⟩
  have e : o + lo * z + i * z + j = o + (lo + i) * z + j := by rw [Nat.add_mul]; omega
  rw [e]
  exact ⟨hs, hcl⟩
theorem zkL {B' : Tb} {el z by' len l h m : Nat} {g : Bool} {f : Nat → List D} {k1 k2 k3 : IntKind} {a b c : Int} (hB : tb P = B') (ho : o.op = .slice ty x (some lo) (some hi) (some mx)) (hty : B'.ty ty = .slice el z g by') (hx : ev fr x = .sl z len f)
    (hlo : ev fr lo = .i k1 a) (hhi : ev fr hi = .i k2 b) (hmx : ev fr mx = .i k3 c) (ha : a = l) (hb : b = h) (hc : c = m) (h1 : l ≤ h) (h2 : h ≤ m) (h3 : m ≤ len) (hd : dstOk o.dst n) :
    ∀ F' O', (∀ y ∈ o.op.operands.toList, evF F' y = evF (fF fr) y) → (∀ j ∈ ([] : List Nat), O' j = fO ow j) → StepAt P X n o F' O' (.sl z (h - l) (fun i => f (l + i))) [] := by
  intro F' O' he hO
  subst ha hb hc
  have hty' : tyOf P ty = .slice el z g by' := by subst hB; exact hty
  obtain ⟨hu, hz, _⟩ := zav hty'
  refine zap hd fun a w S r hH hI hr => ?_
  have hx' := hr x
  rw [he x (by simp [ho, Op.operands]), zaP, hx] at hx'
  have e1 := hr lo
  rw [he lo (by simp [ho, Op.operands]), zaP, hlo] at e1
  have e2 := hr hi
  rw [he hi (by simp [ho, Op.operands]), zaP, hhi] at e2
  have e3 := hr mx
  rw [he mx (by simp [ho, Op.operands]), zaP, hmx] at e3
  obtain ⟨va, cap, c, hv, hcap, _⟩ := zaU hx'
  rw [hv] at hx'
  generalize hv1 : a.eval lo = v1 at e1
  generalize hv2 : a.eval hi = v2 at e2
  generalize hv3 : a.eval mx = v3 at e3
  cases e1
  cases e2
  cases e3
  have hsub := zhQ hx' h1 h2 h3
  refine zaq hH hI rfl ?_ hsub
  have q1 : m ≤ cap := by omega
  simp [execOp, ho, hv, hv1, hv2, hv3, Instr.sliceAt, Instr.slice, run_underlying hu, Instr.sliceBounds, Instr.sliceBound, asIntOf, q1, h1, h2, zaz (w := w) hz]
theorem zmn {B' : Tb} {el len m : Nat} {f : Nat → List D} {cs : List D} (hB : tb P = B') (ho : o.op = .sliceToArrayPointer ty x) (hty : B'.ty ty = .array cs.length el 1 false) (hx : ev fr x = .sl 1 len f) (hl : cs.length = m + 1) (hm : m < len) (hcs : ∀ i, i < cs.length → f i = [cs.getD i .any]) (hd : dstOk o.dst n) :
    ∀ F' O', (∀ y ∈ o.op.operands.toList, evF F' y = evF (fF fr) y) → (∀ j ∈ ([] : List Nat), O' j = fO ow j) → StepAt P X n o F' O' (.rf cs 0) [] := by
  intro F' O' he hO
  have hty' : tyOf P ty = .array cs.length el 1 false := by subst hB; exact hty
  obtain ⟨hu, hsz⟩ := zaX hty'
  refine zap hd fun a w S r hH hI hr => ?_
  have hx' := hr x
  rw [he x (by simp [ho, Op.operands]), zaP, hx] at hx'
  obtain ⟨va, cap, c, hv, hcap, _, hl1, hr1, hcell⟩ := zaU hx'
  obtain ⟨b, q, rfl, _⟩ := hcell 0 0 (by omega) (by omega)
  refine zaq hH hI rfl (v := .pointer (some ⟨b, q + 0, none⟩)) ?_ (.rf r cs 0 b q (fun j => c j 0) ?_ (fun j hj => ?_) (fun j hj => ?_))
  · have : ¬ len < cs.length := by omega
    simp [execOp, ho, hv, Instr.arrayAt, run_underlying hu, this]
  · rw [List.all_eq_true]
    intro d hd
    obtain ⟨i, hi, rfl⟩ := List.getElem_of_mem hd
    have h := (hl1 i (by omega)).2
    rw [hcs i hi] at h
    simpa [List.getD_eq_getElem?_getD, hi] using h
  · obtain ⟨b', q', he', hs, hc⟩ := hcell j 0 (by omega) (by omega)
    cases he'
    rw [Nat.mul_one, Nat.add_zero] at hs hc
    exact ⟨hs, hc⟩
  · have h := hr1 j 0 (by omega) (by omega)
    rw [hcs j hj] at h
    exact h
theorem zbq (P : Program) (g o : Nat) (t : TypeId) (fz : Nat × Nat) : ∀ (vs : List Value) (i : Nat) (cur : Array Value) (w : World), w.heap[g]? = some (.cells cur t fz) → (fz = (0, 0) ∨ fz.1 = cur.size) → o + i + vs.length ≤ cur.size → (∀ v ∈ vs, v.oneCell' = true) →
    (storeCells ⟨g, o, none⟩ vs i).run P w = .ok () (w.setRow g (cur.toList.take (o + i) ++ vs ++ cur.toList.drop (o + i + vs.length)).toArray)
  | [], i, cur, w, hg, _, _, _ => by
    simp only [storeCells, List.append_nil, List.length_nil, Nat.add_zero, List.take_append_drop, Array.toArray_toList]
    rw [setRow_self w g cur t fz hg]
    rfl
  | v :: rest, i, cur, w, hg, hfz, hl, h1 => by
    have hi : o + i < cur.size := by simp at hl; omega
    have hadd : (⟨g, o, none⟩ : Addr).add i = ⟨g, o + i, none⟩ := by unfold Addr.add; split <;> simp_all
    have hcell : w.cell? ⟨g, o + i, none⟩ = some cur[o + i] := by simp [World.cell?, hg, hi]
    have hfro : w.frozen? ⟨g, o + i, none⟩ = false := by
      obtain ⟨lo, hi'⟩ := fz
      simp only [World.frozen?, hg, Bool.and_eq_false_iff, decide_eq_false_iff_not]
      rcases hfz with h | h
      · cases h
        right
        omega
      · left
        simp only at h
        omega
    have hst : (store ((⟨g, o, none⟩ : Addr).add i) v).run P w = .ok () (w.setRow g (cur.setIfInBounds (o + i) v)) := by
      rw [hadd, run_store P w _ v _ (h1 v (by simp)), hcell]
      simp [hfro, setCell_eq_setRow w g (o + i) cur t fz v hg]
    have ih := zbq P g o t fz rest (i + 1) (cur.setIfInBounds (o + i) v) (w.setRow g (cur.setIfInBounds (o + i) v)) (setRow_heap w g cur _ t _ hg) (by simpa using hfz) (by simp at hl ⊢; omega) (fun x hx => h1 x (by simp [hx]))
    simp only [storeCells, Sem.run_bind, hst, Result.andThen_ok, ih, setRow_setRow]
    congr 3
    have e := list_seg_step cur.toList (o + i) v rest (by simp at hl ⊢; omega)
    simpa [Array.toList_setIfInBounds, Nat.add_assoc] using e
theorem zdS {w : World} {t tx ty e : TypeId} {i : TypeInfo} (ht : P.underlying t = some (.slice e)) (hi : P.info? e = some i) (hi1 : i.size = 1) {g sLen sCap : Nat} {cur : Array Value} {fz : Nat × Nat} (hg : w.heap[g]? = some (.cells cur e fz)) (hfz : fz = (0, 0) ∨ fz.1 = cur.size)
    {x : Value} {m : Nat} {news : List Value} (hs : Src P 1 tx x m news w) (hroom : sLen + m ≤ sCap) (hfit : sLen + news.length ≤ cur.size) :
    (Builtin.append_ #[t, tx] ty #[.slice (some ⟨g, 0, none⟩) sLen sCap, x]).run P w =
      .ok (.slice (some ⟨g, 0, none⟩) (sLen + m) sCap) (w.setRow g (cur.toList.take sLen ++ news ++ cur.toList.drop (sLen + news.length)).toArray) := by
  have hst := zbq P g sLen e fz news 0 cur w hg hfz (by simpa using hfit) hs.one
  simp only [Nat.add_zero] at hst
  have hlen := hs.len w
  have hcs := hs.cells
  rcases hs.kind with ⟨e', hk⟩ | hk <;> simp [Builtin.append_, run_underlying ht, run_underlying hk, sizeOf, typeInfo, hi, hi1, hlen, hroom, hcs, Addr.add_lit, hst]
abbrev bI (l : List UInt8) : Nat → Int := fun i => ((l.getD i 0).toNat : Int)
theorem zlh {B' : Tb} {k : Nat} {g : Bool} {l l2 : List UInt8} {gf : Nat → List D} (hB : tb P = B') (ho : o.op = .call { callee := .builtin .append, args := ⟨[x, y]⟩, argTypes := ⟨[tt, t2]⟩ }) (hty : B'.ty tt = .slice e 1 g 1) (hz : zeroOk B' e 1 = true)
    (hx : ev fr x = .ah k 1 l.length) (hk : look k ow = some (.bm e l.length (bI l))) (hs : srcD B' tt t2 e (ev fr y) = some (1, l2.length, gf)) (hg : ∀ i, i < l2.length → gf i = bytesF l2 i) (hm : l.length + l2.length ≤ 100000000000) (hd : dstOk o.dst n) :
    ∀ F' O', (∀ y ∈ o.op.operands.toList, evF F' y = evF (fF fr) y) → (∀ j ∈ [k], O' j = fO ow j) → StepAt P X n o F' O' (.ah k 1 (l ++ l2).length) [(k, .bm e (l ++ l2).length (bI (l ++ l2)))] := by
  intro F' O' he hO
  subst hB
  have hu0 := zav (P := P) hty
  obtain ⟨hu, hsz, it, hi1, hi2, hi3⟩ := hu0
  obtain ⟨zv, hzv, hzs⟩ : ∃ zv, it.zero = some zv ∧ zv.cells.size = 1 := by
    unfold zeroOk at hz
    split at hz
    · rename_i zd hzd
      simp only [Bool.and_eq_true] at hz
      obtain ⟨ii, zv, hii, hzv, rfl⟩ := zaW hzd
      rw [hi1] at hii
      cases hii
      refine ⟨zv, hzv, ?_⟩
      rw [(zaY (zbf (fun _ _ => False) default noRho zv) hz.2).1]
      exact Nat.eq_of_beq_eq_true hz.1
    · cases hz
  refine zap hd fun a w S r hH hI hr => ?_
  have hx' := hr x
  rw [he x (by simp [ho, Op.operands, Call.operands]), zaP, hx] at hx'
  have hy' := hr y
  rw [he y (by simp [ho, Op.operands, Call.operands]), zaP] at hy'
  obtain ⟨g0, cap, cur, fz, h1, h2, hfz, h3, h4, h5, h6, h7⟩ := hI.obj k _ ((hO k (by simp)).trans hk)
  obtain ⟨c2, q1, q2, q3⟩ := zbY (P := P) hs hu hy' (by decide)
  have hc2 : ∀ j, j < l2.length → c2 j 0 = .int .u8 (bI l2 j) := fun j hj => by
    have h := q3 j 0 hj (by decide)
    rw [hg j hj] at h
    generalize c2 j 0 = v at h
    cases h
    rfl
  have hnl : (flat 1 l2.length c2).length = l2.length := by rw [zaF, Nat.mul_one]
  have hll : (l ++ l2).length = l.length + l2.length := List.length_append
  have hcat : ∀ i, i < l.length + l2.length → (if i < l.length then Value.int .u8 (bI l i) else Value.int .u8 (bI l2 (i - l.length))) = .int .u8 (bI (l ++ l2) i) := fun i hi => by
    by_cases h : i < l.length
    · rw [if_pos h]
      simp [bI, List.getD_eq_getElem?_getD, List.getElem?_append_left h]
    · rw [if_neg h]
      simp [bI, List.getD_eq_getElem?_getD, List.getElem?_append_right (Nat.le_of_not_lt h)]
  generalize hv : a.eval x = vx at hx'
  cases hx' with
  | ah _ _ _ _ cap' a' tv L' p1 p2 p3 p4 =>
    rw [h1] at p1
    cases p1
    rcases p3 rfl with p5 | ⟨p5, _⟩
    · cases p5
      have hb0 : (Loc.row (.slice (some ⟨g0, 0, none⟩) l.length cap) l.length).block = some g0 := rfl
      have hcm : (100000000000 : Nat) ≤ maxLen := by unfold maxLen; omega
      rw [hll]
      by_cases hroom : l.length + l2.length ≤ cap
      · have hrun := zdS (P := P) (w := w) (ty := o.type) hu hi1 hi2 h2 hfz q1 hroom (by omega)
        have hch := Chg.setRow w S g0 cur (cur.toList.take l.length ++ flat 1 l2.length c2 ++ cur.toList.drop (l.length + (flat 1 l2.length c2).length)).toArray e fz h2 (fun o ho => absurd ho (h7 o))
        have hle : RhoLe r (updR r k (.row (.slice (some ⟨g0, 0, none⟩) (l.length + l2.length) cap) (l.length + l2.length))) := RhoLe.upd h1 ⟨by omega, fun e => by
          have : l2.length = 0 := by omega
          rw [this, Nat.add_zero]⟩
        have hk0 : updR r k (.row (.slice (some ⟨g0, 0, none⟩) (l.length + l2.length) cap) (l.length + l2.length)) k = some (.row (.slice (some ⟨g0, 0, none⟩) (l.length + l2.length) cap) (l.length + l2.length)) := by simp [updR]
        have hnsz : (cur.toList.take l.length ++ flat 1 l2.length c2 ++ cur.toList.drop (l.length + (flat 1 l2.length c2).length)).toArray.size = cur.size := by
          simp only [List.size_toArray, List.length_append, List.length_take, List.length_drop, Array.length_toList, hnl]
          omega
        refine ⟨_, _, S, _, .inl (by simp [execOp, ho, resolve, invoke, builtin, hv, hrun]), .ah _ k 1 (l.length + l2.length) cap _ _ (l.length + l2.length) hk0 (Nat.le_refl _) (fun _ => .refl _) (fun _ => ⟨_, rfl⟩), hH.chg hch (fun b hb => by cases hb; exact hI.low k _ g0 h1 hb0) (fun _ _ h => h) (fun _ _ h => .inl h), ?_, fun _ _ h => h, hch.cell, hle⟩
        refine hI.put hch (fun _ _ h => h) hle k _ _ ⟨g0, cap, _, fz, hk0, setRow_heap w g0 cur _ e fz h2, by rw [hnsz]; exact hfz, hroom, h4, by rw [hnsz]; exact h5, fun i hi => ?_, h7⟩ hk0 (fun j hj => by simp [updR, hj]) (fun b hb => .inr ⟨_, h1, hb⟩) (fun b hb => ⟨_, h1, by cases hb; rfl⟩) (fun b o h => .inl h)
        rw [← hcat i hi, zbZ, List.append_assoc]
        by_cases h : i < l.length
        · rw [if_pos h, ← h6 i h, List.getD_eq_getElem?_getD, List.getElem?_append_left (by simp; omega), List.getElem?_take_of_lt h, Array.getElem?_toList, Array.getD_eq_getD_getElem?]
        · have ht : (cur.toList.take l.length).length = l.length := by simp; omega
          have hf := zcm (z := 1) (m := l2.length) (i := i - l.length) (j := 0) c2 (by omega) (by omega)
          rw [Nat.mul_one, Nat.add_zero] at hf
          rw [if_neg h, List.getD_eq_getElem?_getD, List.getElem?_append_right (by omega), ht, List.getElem?_append_left (by omega), hf, Option.getD_some]
          exact hc2 _ (by omega)
      · have hlt : cap < l.length + l2.length := by omega
        have hge := grownCap_ge w (l.length + l2.length) cap e
        have hcm2 : grownCap w (l.length + l2.length) cap e ≤ maxLen := grownCap_le_maxLen w (l.length + l2.length) cap e (by omega)
        have hold : (Builtin.firstCells it.size l.length (.slice (some ⟨g0, 0, none⟩) l.length cap)).run P w.drew = .ok (flat 1 l.length (fun i _ => .int .u8 (bI l i))).toArray w.drew := by
          rw [hi2]
          refine zdr (P := P) (w := w.drew) (by decide) (fun i j hi hj => ⟨g0, 0, rfl, ?_⟩)
          obtain rfl : j = 0 := by omega
          have hc := cell_of_row w g0 i cur e fz h2
          have h8 := h6 i hi
          rw [Array.getD_eq_getD_getElem?, Array.getElem?_eq_getElem (by omega), Option.getD_some] at h8
          rw [Array.getElem?_eq_getElem (by omega), h8] at hc
          simpa using hc
        have hrun := run_append_grow_src (P := P) w tt t2 o.type e it zv hu hi1 hzv (some ⟨g0, 0, none⟩) l.length cap _ hold (a.eval y) l2.length (flat 1 l2.length c2) (by rw [hi2]; exact q1) hlt (by omega) (zfm hlt (by rw [hi3]; omega))
        have hch := Chg.drewAlloc w S hH.valid (.cells ((flat 1 l.length (fun i _ => Value.int .u8 (bI l i)) ++ flat 1 l2.length c2).toArray ++ Builtin.zeroCells zv.cells (grownCap w (l.length + l2.length) cap e - (l.length + l2.length))) e) none
        generalize grownCap w (l.length + l2.length) cap e = G at *
        have hle : RhoLe r (updR r k (.row (.slice (some ⟨w.heap.size, 0, none⟩) (l.length + l2.length) G) (l.length + l2.length))) := RhoLe.upd h1 ⟨by omega, fun e => by omega⟩
        have hk0 : updR r k (.row (.slice (some ⟨w.heap.size, 0, none⟩) (l.length + l2.length) G) (l.length + l2.length)) k = some (.row (.slice (some ⟨w.heap.size, 0, none⟩) (l.length + l2.length) G) (l.length + l2.length)) := by simp [updR]
        refine ⟨_, _, S, _, .inl (by simp [execOp, ho, resolve, invoke, builtin, hv, hrun]), .ah _ k 1 (l.length + l2.length) G _ _ (l.length + l2.length) hk0 (Nat.le_refl _) (fun _ => .refl _) (fun _ => ⟨_, rfl⟩), hH.chg hch (fun b hb => by cases hb) (fun _ _ h => h) (fun _ _ h => .inl h), ?_, fun _ _ h => h, hch.cell, hle⟩
        refine hI.put hch (fun _ _ h => h) hle k _ _ ⟨w.heap.size, G, _, (0, 0), hk0, heap_alloc_new w.drew _, .inl rfl, hge, hcm2, ?_, fun i hi => ?_, fun o ho => by have := hH.valid _ _ ho; omega⟩ hk0 (fun j hj => by simp [updR, hj]) (fun b hb => ?_) (fun b hb => by cases hb) (fun b o h => .inl h)
        · simp only [Array.size_append, List.size_toArray, List.length_append, zce, hzs, zaF]
          omega
        · have hca := ziK (z := 1) (n := l.length) (m := l2.length) (i := i) (j := 0) (c1 := fun i _ => Value.int .u8 (bI l i)) (c2 := c2) (Builtin.zeroCells zv.cells (G - (l.length + l2.length))).toList hi (by decide)
          rw [Nat.mul_one, Nat.add_zero] at hca
          have : ((flat 1 l.length (fun i _ => Value.int .u8 (bI l i)) ++ flat 1 l2.length c2).toArray ++ Builtin.zeroCells zv.cells (G - (l.length + l2.length)))[i]? = some (if i < l.length then Value.int .u8 (bI l i) else c2 (i - l.length) 0) := by
            rw [← hca, ← Array.getElem?_toList]
            simp
          rw [← hcat i hi, Array.getD_eq_getD_getElem?, this, Option.getD_some]
          by_cases h : i < l.length
          · rw [if_pos h, if_pos h]
          · rw [if_neg h, if_neg h]
            exact hc2 _ (by omega)
        · simp only [Loc.block, Option.some.injEq] at hb
          subst hb
          exact .inl ⟨Nat.le_refl _, .inl hH.size⟩
    · cases p5
end
section
variable {X : Ctx} {n : Nat} {all rest : List Oper} {fr : Fr} {ow : Ow} {tr : List (List Nat × List Nat)} {K : Fr → Ow → List (List Nat × List Nat) → Prop}
variable {t k : Nat} {ty ty' tt t2 e : TypeId} {ps : String} {af : Array Edge} {x y lo hi mx : Operand}
theorem zlO {el z by' len l h m : Nat} {g : Bool} {f : Nat → List D} {k1 k2 k3 : IntKind} {a b c : Int} (o : Oper) (ho : o.op = .slice ty x (some lo) (some hi) (some mx)) (hgd : o.guard = none) (hds : o.dst = some t) (hty : B.ty ty = .slice el z g by') (hx : ev fr x = .sl z len f)
    (hlo : ev fr lo = .i k1 a) (hhi : ev fr hi = .i k2 b) (hmx : ev fr mx = .i k3 c) (ha : a = l) (hb : b = h) (hc : c = m) (h1 : l ≤ h) (h2 : h ≤ m) (h3 : m ≤ len) (hn : Nat.blt t n = true)
    (hh : CT Tryz.prog X n all rest ((t, .sl z (h - l) (fun i => f (l + i))) :: fr) ow (tr ++ [([], [])]) K) : CT Tryz.prog X n all (o :: rest) fr ow tr K := by
  have q := zcO
  have q1 := @zkL Tryz.prog X n o fr ow ty x lo hi mx B el z by' len l h m g f k1 k2 k3 a b c q ho hty hx hlo hhi hmx ha hb hc h1 h2 h3 (by rw [hds]; exact Nat.le_of_ble_eq_true hn)
  refine CT.cons (e := ⟨.sl z (h - l) (fun i => f (l + i)), [], []⟩) (.plain hgd q1) ?_ rfl hh
  rw [hds]
  exact zaD ..
theorem r_sl3 {el z by' len : Nat} (l h m : Nat) {g : Bool} {f : Nat → List D} {k1 k2 k3 : IntKind} {a b c : Int} (hty : B.ty ty = .slice el z g by') (hx : ev fr x = .sl z len f)
    (hlo : ev fr lo = .i k1 a) (hhi : ev fr hi = .i k2 b) (hmx : ev fr mx = .i k3 c) (ha : a = l) (hb : b = h) (hc : c = m) (h1 : l ≤ h) (h2 : h ≤ m) (h3 : m ≤ len) (hn : Nat.blt t n = true)
    (hh : CT Tryz.prog X n all rest ((t, .sl z (h - l) (fun i => f (l + i))) :: fr) ow (tr ++ [([], [])]) K) : CT Tryz.prog X n all (⟨some t, .slice ty x (some lo) (some hi) (some mx), ty', ps, af, none⟩ :: rest) fr ow tr K := by
  generalize ho : (⟨some t, .slice ty x (some lo) (some hi) (some mx), ty', ps, af, none⟩ : Oper) = o
  exact zlO o (by rw [← ho]) (by rw [← ho]) (by rw [← ho]) hty hx hlo hhi hmx ha hb hc h1 h2 h3 hn hh
theorem zmO {el z by' len : Nat} (l h m : Nat) {g : Bool} {f : Nat → List D} {k1 k2 k3 : IntKind} {a b c : Int} (hty : B.ty ty = .slice el z g by') (hx : ev fr x = .sl z len f)
    (hlo : ev fr lo = .i k1 a) (hhi : ev fr hi = .i k2 b) (hmx : ev fr mx = .i k3 c) (ha : a = l) (hb : b = ((l + h : Nat) : Int)) (hc : c = m) (h2 : l + h ≤ m) (h3 : m ≤ len) (hn : Nat.blt t n = true)
    (hh : CT Tryz.prog X n all rest ((t, .sl z h (fun i => f (l + i))) :: fr) ow (tr ++ [([], [])]) K) : CT Tryz.prog X n all (⟨some t, .slice ty x (some lo) (some hi) (some mx), ty', ps, af, none⟩ :: rest) fr ow tr K :=
  r_sl3 l (l + h) m hty hx hlo hhi hmx ha hb hc (Nat.le_add_right _ _) h2 h3 hn (by rw [Nat.add_sub_cancel_left]; exact hh)
theorem zmQ {el len m : Nat} {f : Nat → List D} {cs : List D} (o : Oper) (ho : o.op = .sliceToArrayPointer ty x) (hgd : o.guard = none) (hds : o.dst = some t) (hty : B.ty ty = .array cs.length el 1 false) (hx : ev fr x = .sl 1 len f) (hl : cs.length = m + 1) (hm : m < len) (hcs : ∀ i, i < cs.length → f i = [cs.getD i .any]) (hn : Nat.blt t n = true)
    (hh : CT Tryz.prog X n all rest ((t, .rf cs 0) :: fr) ow (tr ++ [([], [])]) K) : CT Tryz.prog X n all (o :: rest) fr ow tr K := by
  have q := zcO
  have q1 := @zmn Tryz.prog X n o fr ow ty x B el len m f cs q ho hty hx hl hm hcs (by rw [hds]; exact Nat.le_of_ble_eq_true hn)
  refine CT.cons (e := ⟨.rf cs 0, [], []⟩) (.plain hgd q1) ?_ rfl hh
  rw [hds]
  exact zaD ..
theorem r_sa {el len m : Nat} {f : Nat → List D} (cs : List D) (hty : B.ty ty = .array cs.length el 1 false) (hx : ev fr x = .sl 1 len f) (hl : cs.length = m + 1) (hm : m < len) (hcs : ∀ i, i < cs.length → f i = [cs.getD i .any]) (hn : Nat.blt t n = true)
    (hh : CT Tryz.prog X n all rest ((t, .rf cs 0) :: fr) ow (tr ++ [([], [])]) K) : CT Tryz.prog X n all (⟨some t, .sliceToArrayPointer ty x, ty', ps, af, none⟩ :: rest) fr ow tr K := by
  generalize ho : (⟨some t, .sliceToArrayPointer ty x, ty', ps, af, none⟩ : Oper) = o
  exact zmQ o (by rw [← ho]) (by rw [← ho]) (by rw [← ho]) hty hx hl hm hcs hn hh
theorem zmo {g : Bool} {l l2 : List UInt8} {gf : Nat → List D} (o : Oper) (ho : o.op = .call { callee := .builtin .append, args := ⟨[x, y]⟩, argTypes := ⟨[tt, t2]⟩ }) (hgd : o.guard = none) (hds : o.dst = some t) (hty : B.ty tt = .slice e 1 g 1) (hz : zeroOk B e 1 = true)
    (hx : ev fr x = .ah k 1 l.length) (hk : look k ow = some (.bm e l.length (bI l))) (hs : srcD B tt t2 e (ev fr y) = some (1, l2.length, gf)) (hg : ∀ i, i < l2.length → gf i = bytesF l2 i) (hm : l.length + l2.length ≤ 100000000000) (hn : Nat.blt t n = true)
    (hh : CT Tryz.prog X n all rest ((t, .ah k 1 (l ++ l2).length) :: fr) ((k, .bm e (l ++ l2).length (bI (l ++ l2))) :: ow) (tr ++ [([k], [k])]) K) : CT Tryz.prog X n all (o :: rest) fr ow tr K := by
  have q := zcO
  have q1 := @zlh Tryz.prog X n o fr ow e tt t2 x y B k g l l2 gf q ho hty hz hx hk hs hg hm (by rw [hds]; exact Nat.le_of_ble_eq_true hn)
  refine CT.cons (e := ⟨.ah k 1 (l ++ l2).length, [k], [(k, .bm e (l ++ l2).length (bI (l ++ l2)))]⟩) (.plain hgd q1) ?_ (zaA ..) hh
  rw [hds]
  exact zaD ..
theorem zld {g : Bool} (l l2 : List UInt8) {gf : Nat → List D} (hty : B.ty tt = .slice e 1 g 1) (hz : zeroOk B e 1 = true)
    (hx : ev fr x = .ah k 1 l.length) (hk : look k ow = some (.bm e l.length (bI l))) (hs : srcD B tt t2 e (ev fr y) = some (1, l2.length, gf)) (hg : ∀ i, i < l2.length → gf i = bytesF l2 i) (hm : l.length + l2.length ≤ 100000000000) (hn : Nat.blt t n = true)
    (hh : CT Tryz.prog X n all rest ((t, .ah k 1 (l ++ l2).length) :: fr) ((k, .bm e (l ++ l2).length (bI (l ++ l2))) :: ow) (tr ++ [([k], [k])]) K) : CT Tryz.prog X n all (⟨some t, .call { callee := .builtin .append, args := ⟨[x, y]⟩, argTypes := ⟨[tt, t2]⟩ }, ty', ps, af, none⟩ :: rest) fr ow tr K := by
  generalize ho : (⟨some t, .call { callee := .builtin .append, args := ⟨[x, y]⟩, argTypes := ⟨[tt, t2]⟩ }, ty', ps, af, none⟩ : Oper) = o
  exact zmo o (by rw [← ho]) (by rw [← ho]) (by rw [← ho]) hty hz hx hk hs hg hm hn hh
end
theorem CtrO.shutB {P : Program} {f : FuncId} {args : List D} {k : Nat} {e : TypeId} {l : List UInt8} (h : CtrO P f args [] (.ah k 1 l.length) [(k, .bm e l.length (bI l))]) : Ctr P f args (.sl 1 l.length (bytesF l)) := by
  intro w S vs hv hgl hn hr
  refine (h ⟨w, S, fun _ => False, noRho, [], []⟩ vs rfl ⟨rfl, rfl, rfl, Nat.le_refl _, fun _ _ _ => rfl, fun _ _ h => h, fun _ _ _ => rfl, fun _ _ h => .inl h, hv, hgl⟩ (zeA _ _ _) hn hr).mono ?_
  rintro e' w' ⟨v, S', r', rfl, h1, h2, h3, _⟩
  obtain ⟨g, cap, cur, fz, g1, q1, hfz, q2, q3, q4, q6, q7⟩ := h3.obj k (.bm e l.length (bI l)) (by show look k [(k, _)] = _; simp [look])
  cases h1 with
  | ah _ _ _ _ cap1 ax tv' L' hk0 hL hta hag =>
    rw [hk0] at g1
    cases g1
    let S2 : Cells := fun b o => S' b o ∨ (b < w'.heap.size ∧ b = g ∧ o < l.length)
    have hS2 : ∀ b o, S' b o → S2 b o := fun _ _ h => .inl h
    have hg : g < w'.heap.size := (Array.getElem?_eq_some_iff.1 q1).1
    refine ⟨_, S2, rfl, ?_, h2.os, h2.tape, h2.output, h2.size, h2.block, fun b o hb => .inl (h2.sub b o hb), h2.cell, fun b o hb => ?_, fun b o hb => ?_, h2.glob.mono hS2 (fun _ _ _ => rfl)⟩
    · rcases hta rfl with e1 | ⟨e1, _⟩
      · cases e1
        refine .sl _ _ _ _ _ _ (fun i j => cur.getD i undef) q2 q3 (fun i hi => ⟨rfl, rfl⟩) (fun i j hi hj => ⟨g, 0, rfl, .inr ⟨hg, rfl, by omega⟩, ?_⟩) (fun i j hi hj => ?_)
        · rw [Nat.zero_add, cell_of_row w' g _ cur e fz q1]
          have : i * 1 + j = i := by omega
          rw [this, Array.getD_eq_getD_getElem?, Array.getElem?_eq_getElem (by omega)]
          rfl
        · obtain rfl : j = 0 := by omega
          rw [q6 i hi]
          exact .i ..
      · cases e1
    · rcases hb with hb | ⟨_, rfl, _⟩
      · exact h2.new b o hb
      · rcases h3.low k _ b hk0 rfl with h | h
        · exact .inr (.inl h)
        · exact h.elim
    · rcases hb with hb | ⟨hb, _⟩
      · exact h2.valid b o hb
      · exact hb
end Go.Proofs.YtkkaamhocpmhkaaGreatDoor.Flow
