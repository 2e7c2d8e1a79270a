/- A part of the proof of WktNumbers. -/
import Derived.Shelf.Strings.Trim
import Derived.Shelf.Strconv.Itoa1
import Derived.Shelf.Strconv.Itoa2
import Derived.Shelf.Strings.Search2
import Derived.Shelf.Strings.Prefix
import Derived.Shelf.Strings.Repeat
import Derived.Test.YtcjidlgmbjebjaaDoorProg
import GoSem.Step
import Derived.WalkKit
import Derived.WalkSpells
import Derived.WalkLawsBesides
import Derived.Below
import Derived.Outline
import Derived.Lib.Hide
import Derived.LoopTactic
import Derived.Tactics
import Derived.Tactics2
import Derived.StillTactics
import Derived.OwnWalk
import Derived.Deep.RegionHeld3
import Derived.KernelRfl
import Derived.Handy
import Derived.Shelf.Strings.Builder1
import Derived.Shelf.Strings.Builder2
import Derived.Shelf.Strconv.Itoa0
import Derived.Shelf.LaysM
import Derived.Shelf.Strconv.Itoa3
import Derived.Lib.ItoaLen
import Derived.Laws.RangeAny
import Derived.Laws.Strings3
import Derived.Laws.RangeString
import Derived.Laws.Runes
import Derived.Lib.Strings
import Derived.Laws.BitsAllLaws
import Derived.Laws.Bits64
import Derived.Lib.SmallJoins
import Derived.Lib.ItoaMem
import Derived.Lib.AppendIntMem
import Derived.BigCall
import Derived.BigGuard
import Derived.Lib.ItoaNum
import Derived.Lib.IndexMore
import Derived.Lib.TrimByte
import Derived.Lib.CutLaws
import Derived.Deep.RegionWith
set_option linter.unusedVariables false
set_option linter.unusedSimpArgs false
set_option maxRecDepth 100000
namespace Go.Proofs.YtcjidlgmbjebjaaDoor
open Go Go.Shelf
def Tryd.lays162_ren : Go.Shelf.Ren := ⟨fun | 162 => 103 | 232 => 137 | 227 => 138 | 234 => 139 | 236 => 140 | 228 => 173 | 271 => 174 | 151 => 175 | 120 => 207 | 197 => 208 | 152 => 209 | 260 => 224 | 137 => 225 | 119 => 226 | 224 => 212 | 225 => 211 | 217 => 210 | 266 => 227 | n => n, fun | 9 => 9 | 4 => 4 | 3 => 3 | 5 => 5 | 117 => 199 | 116 => 198 | 0 => 0 | 124 => 202 | 21 => 21 | 105 => 240 | 46 => 80 | 119 => 282 | 139 => 285 | 138 => 284 | n => n, fun | 3 => 8 | 4 => 9 | n => n⟩
theorem Tryd.lays162 : Go.Proofs.Lays.n162 Tryd.prog Tryd.lays162_ren := {
  mixed := by kernel_rfl
  f119 := Tryd.func226.trans (congrArg some (by kernel_rfl))
  f120 := Tryd.func207.trans (congrArg some (by kernel_rfl))
  f137 := Tryd.func225.trans (congrArg some (by kernel_rfl))
  f151 := Tryd.func175.trans (congrArg some (by kernel_rfl))
  f152 := Tryd.func209.trans (congrArg some (by kernel_rfl))
  f162 := Tryd.func103.trans (congrArg some (by kernel_rfl))
  f197 := Tryd.func208.trans (congrArg some (by kernel_rfl))
  f217 := Tryd.func210.trans (congrArg some (by kernel_rfl))
  f224 := Tryd.func212.trans (congrArg some (by kernel_rfl))
  f225 := Tryd.func211.trans (congrArg some (by kernel_rfl))
  f227 := Tryd.func138.trans (congrArg some (by kernel_rfl))
  f228 := Tryd.func173.trans (congrArg some (by kernel_rfl))
  f232 := Tryd.func137.trans (congrArg some (by kernel_rfl))
  f234 := Tryd.func139.trans (congrArg some (by kernel_rfl))
  f236 := Tryd.func140.trans (congrArg some (by kernel_rfl))
  f260 := Tryd.func224.trans (congrArg some (by kernel_rfl))
  f266 := Tryd.func227.trans (congrArg some (by kernel_rfl))
  f271 := Tryd.func174.trans (congrArg some (by kernel_rfl))
  t0 := Tryd.underlying0
  a0 := Tryd.isAgg0
  z0 := Tryd.sizeOf0
  v0 := Tryd.zeroValue0
  t3 := Tryd.underlying3
  a3 := Tryd.isAgg3
  z3 := Tryd.sizeOf3
  v3 := Tryd.zeroValue3
  t4 := Tryd.underlying4
  a4 := Tryd.isAgg4
  z4 := Tryd.sizeOf4
  v4 := Tryd.zeroValue4
  t5 := Tryd.underlying5
  a5 := Tryd.isAgg5
  z5 := Tryd.sizeOf5
  v5 := Tryd.zeroValue5
  t9 := Tryd.underlying9
  a9 := Tryd.isAgg9
  z9 := Tryd.sizeOf9
  v9 := Tryd.zeroValue9
  t21 := Tryd.underlying21
  a21 := Tryd.isAgg21
  z21 := Tryd.sizeOf21
  v21 := Tryd.zeroValue21
  t46 := Tryd.underlying80
  a46 := Tryd.isAgg80
  z46 := Tryd.sizeOf80
  v46 := Tryd.zeroValue80
  t105 := Tryd.underlying240
  a105 := Tryd.isAgg240
  z105 := Tryd.sizeOf240
  v105 := Tryd.zeroValue240
  t116 := Tryd.underlying198
  a116 := Tryd.isAgg198
  z116 := Tryd.sizeOf198
  t117 := Tryd.underlying199
  a117 := Tryd.isAgg199
  z117 := Tryd.sizeOf199
  v117 := Tryd.zeroValue199
  t119 := Tryd.underlying282
  a119 := Tryd.isAgg282
  z119 := Tryd.sizeOf282
  t124 := Tryd.underlying202
  a124 := Tryd.isAgg202
  z124 := Tryd.sizeOf202
  v124 := Tryd.zeroValue202
  t138 := Tryd.underlying284
  a138 := Tryd.isAgg284
  z138 := Tryd.sizeOf284
  v138 := Tryd.zeroValue284
  t139 := Tryd.underlying285
  a139 := Tryd.isAgg285
  z139 := Tryd.sizeOf285
  v139 := Tryd.zeroValue285
  g3 := by kernel_rfl
  g4 := by kernel_rfl }
open Go.RowKit in
theorem Tryd.strings_TrimRight_one (s : ByteArray) (c : UInt8) (hc : c.toNat < 128) (w : World) (hs : s.size ≤ 9223372036854775807) :
    Calls Tryd.prog 103 #[.string s, .string ⟨#[c]⟩] w fun e w' => e = .returned (.string ⟨(Lib.trimRightB s.data.toList c).toArray⟩) ∧ w' = w := Any.strings_TrimRight_one Tryd.lays162 s c hc w hs
def Tryd.lays283_ren : Go.Shelf.Ren := ⟨fun | 283 => 169 | n => n, fun | 3 => 3 | 9 => 9 | 4 => 4 | n => n, fun | n => n⟩
theorem Tryd.lays283 : Go.Proofs.Lays.n283 Tryd.prog Tryd.lays283_ren := {
  mixed := by kernel_rfl
  f283 := Tryd.func169.trans (congrArg some (by kernel_rfl))
  t3 := Tryd.underlying3
  a3 := Tryd.isAgg3
  z3 := Tryd.sizeOf3
  v3 := Tryd.zeroValue3
  t4 := Tryd.underlying4
  a4 := Tryd.isAgg4
  z4 := Tryd.sizeOf4
  v4 := Tryd.zeroValue4
  t9 := Tryd.underlying9
  a9 := Tryd.isAgg9
  z9 := Tryd.sizeOf9
  v9 := Tryd.zeroValue9 }
open Go.Lib in
theorem Tryd.internal_strconv_small (i : Nat) (h : i < 100) (w : World) :
    Calls Tryd.prog 169 #[.int .i64 i] w fun e w' => e = .returned (.string ⟨(Lib.decDigits i).toArray⟩) ∧ w' = w := Any.internal_strconv_small Tryd.lays283 i h w
def Tryd.laysM284_ren : Go.Shelf.Ren := ⟨fun | 284 => 170 | 129 => 203 | 317 => 202 | 318 => 204 | n => n, fun | 53 => 100 | 3 => 3 | 212 => 266 | 0 => 0 | 4 => 4 | 46 => 80 | 5 => 5 | 9 => 9 | n => n, fun | 17 => 4 | n => n⟩
theorem Tryd.laysM284 : Go.Proofs.LaysM.n284 Tryd.prog Tryd.laysM284_ren := {
  mixed := by kernel_rfl
  f129 := Tryd.func203.trans (congrArg some (by kernel_rfl))
  f284 := Tryd.func170.trans (congrArg some (by kernel_rfl))
  f317 := Tryd.func202.trans (congrArg some (by kernel_rfl))
  f318 := Tryd.func204.trans (congrArg some (by kernel_rfl))
  t0 := Tryd.underlying0
  a0 := Tryd.isAgg0
  z0 := Tryd.sizeOf0
  v0 := Tryd.zeroValue0
  t3 := Tryd.underlying3
  a3 := Tryd.isAgg3
  z3 := Tryd.sizeOf3
  v3 := Tryd.zeroValue3
  t4 := Tryd.underlying4
  a4 := Tryd.isAgg4
  z4 := Tryd.sizeOf4
  v4 := Tryd.zeroValue4
  t5 := Tryd.underlying5
  a5 := Tryd.isAgg5
  z5 := Tryd.sizeOf5
  v5 := Tryd.zeroValue5
  t9 := Tryd.underlying9
  a9 := Tryd.isAgg9
  z9 := Tryd.sizeOf9
  v9 := Tryd.zeroValue9
  t46 := Tryd.underlying80
  a46 := Tryd.isAgg80
  z46 := Tryd.sizeOf80
  v46 := Tryd.zeroValue80
  t53 := Tryd.underlying100
  a53 := Tryd.isAgg100
  z53 := Tryd.sizeOf100
  v53 := Tryd.zeroValue100
  t212 := Tryd.underlying266
  a212 := Tryd.isAgg266
  z212 := Tryd.sizeOf266
  v212 := Tryd.zeroValue266
  g17 := by kernel_rfl
  i0 := by kernel_rfl
  i3 := by kernel_rfl
  i4 := by kernel_rfl
  i5 := by kernel_rfl
  i9 := by kernel_rfl
  i46 := by kernel_rfl
  i53 := by kernel_rfl
  i212 := by kernel_rfl
  m17 := by kernel_rfl }
open Go.Lib in
theorem Tryd.internal_strconv_numDigits (u : Nat) (h1 : 1 ≤ u) (h2 : u < 18446744073709551616) (w : World) (htab : Lib.TabIs Tryd.prog w "internal/strconv.uint64pow10" .u64 Lib.pow10Tab) :
    Calls Tryd.prog 170 #[.int .u64 u] w fun e w' => e = .returned (.int .i64 (Lib.nDigits u)) ∧ w' = w := Any.internal_strconv_numDigits Tryd.laysM284 u h1 h2 w htab
def Tryd.lays285_ren : Go.Shelf.Ren := ⟨fun | 285 => 171 | n => n, fun | 37 => 43 | 53 => 100 | 3 => 3 | 4 => 4 | 51 => 243 | 9 => 9 | 5 => 5 | 0 => 0 | n => n, fun | n => n⟩
theorem Tryd.lays285 : Go.Proofs.Lays.n285 Tryd.prog Tryd.lays285_ren := {
  mixed := by kernel_rfl
  f285 := Tryd.func171.trans (congrArg some (by kernel_rfl))
  t0 := Tryd.underlying0
  a0 := Tryd.isAgg0
  z0 := Tryd.sizeOf0
  v0 := Tryd.zeroValue0
  t3 := Tryd.underlying3
  a3 := Tryd.isAgg3
  z3 := Tryd.sizeOf3
  v3 := Tryd.zeroValue3
  t4 := Tryd.underlying4
  a4 := Tryd.isAgg4
  z4 := Tryd.sizeOf4
  v4 := Tryd.zeroValue4
  t5 := Tryd.underlying5
  a5 := Tryd.isAgg5
  z5 := Tryd.sizeOf5
  v5 := Tryd.zeroValue5
  t9 := Tryd.underlying9
  a9 := Tryd.isAgg9
  z9 := Tryd.sizeOf9
  v9 := Tryd.zeroValue9
  t37 := Tryd.underlying43
  a37 := Tryd.isAgg43
  z37 := Tryd.sizeOf43
  v37 := Tryd.zeroValue43
  t51 := Tryd.underlying243
  a51 := Tryd.isAgg243
  z51 := Tryd.sizeOf243
  v51 := Tryd.zeroValue243
  t53 := Tryd.underlying100
  a53 := Tryd.isAgg100
  z53 := Tryd.sizeOf100
  v53 := Tryd.zeroValue100 }
open Go.RowKit Go.Sort Go.Lib in
theorem Tryd.internal_strconv_formatBase10 (blk off cap : Nat) (u : Nat) (d : Array UInt8) (w : World) (hH : Holds (fun (b : UInt8) => Value.int .u8 (b.toNat : Int)) w blk off d) (hu : u < 10 ^ d.size) (hu64 : u < 18446744073709551616) (hsz : d.size < 4611686018427387904) :
    Calls Tryd.prog 171 #[.slice (some ⟨blk, off, none⟩) d.size cap, .int .u64 u] w fun e w' =>
      e = .returned (.tuple #[]) ∧ ∃ (n v' : Nat) (dk : Array UInt8), w' = (putRow (fun (b : UInt8) => Value.int .u8 (b.toNat : Int)) w blk off dk).drewN n ∧ FmtInv d.size u 0 v' dk := Any.internal_strconv_formatBase10 Tryd.lays285 blk off cap u d w hH hu hu64 hsz
def Tryd.lays219_ren : Go.Shelf.Ren := ⟨fun | 219 => 177 | 217 => 210 | 225 => 211 | 224 => 212 | 267 => 213 | 266 => 227 | 314 => 228 | n => n, fun | 9 => 9 | 3 => 3 | 4 => 4 | 5 => 5 | 46 => 80 | 146 => 244 | 51 => 243 | n => n, fun | 1 => 5 | n => n⟩
theorem Tryd.lays219 : Go.Proofs.Lays.n219 Tryd.prog Tryd.lays219_ren := {
  mixed := by kernel_rfl
  f217 := Tryd.func210.trans (congrArg some (by kernel_rfl))
  f219 := Tryd.func177.trans (congrArg some (by kernel_rfl))
  f224 := Tryd.func212.trans (congrArg some (by kernel_rfl))
  f225 := Tryd.func211.trans (congrArg some (by kernel_rfl))
  f266 := Tryd.func227.trans (congrArg some (by kernel_rfl))
  f267 := Tryd.func213.trans (congrArg some (by kernel_rfl))
  f314 := Tryd.func228.trans (congrArg some (by kernel_rfl))
  t3 := Tryd.underlying3
  a3 := Tryd.isAgg3
  z3 := Tryd.sizeOf3
  v3 := Tryd.zeroValue3
  t4 := Tryd.underlying4
  a4 := Tryd.isAgg4
  z4 := Tryd.sizeOf4
  v4 := Tryd.zeroValue4
  t5 := Tryd.underlying5
  a5 := Tryd.isAgg5
  z5 := Tryd.sizeOf5
  v5 := Tryd.zeroValue5
  t9 := Tryd.underlying9
  a9 := Tryd.isAgg9
  z9 := Tryd.sizeOf9
  v9 := Tryd.zeroValue9
  t46 := Tryd.underlying80
  a46 := Tryd.isAgg80
  z46 := Tryd.sizeOf80
  v46 := Tryd.zeroValue80
  t51 := Tryd.underlying243
  a51 := Tryd.isAgg243
  z51 := Tryd.sizeOf243
  v51 := Tryd.zeroValue243
  t146 := Tryd.underlying244
  a146 := Tryd.isAgg244
  z146 := Tryd.sizeOf244
  v146 := Tryd.zeroValue244
  g1 := by kernel_rfl }
open Go.RowKit Go.Lib in
theorem Tryd.stringslite_Index_one (s : ByteArray) (c : UInt8) (w : World) :
    Calls Tryd.prog 177 #[.string s, .string ⟨#[c]⟩] w fun e w' => e = .returned (.int .i64 (Lib.indexByte s.data.toList c)) ∧ w' = w := Any.stringslite_Index_one Tryd.lays219 s c w
def Tryd.lays101_ren : Go.Shelf.Ren := ⟨fun | 101 => 104 | 208 => 141 | 206 => 176 | n => n, fun | 9 => 9 | 4 => 4 | 3 => 3 | n => n, fun | n => n⟩
theorem Tryd.lays101 : Go.Proofs.Lays.n101 Tryd.prog Tryd.lays101_ren := {
  mixed := by kernel_rfl
  f101 := Tryd.func104.trans (congrArg some (by kernel_rfl))
  f206 := Tryd.func176.trans (congrArg some (by kernel_rfl))
  f208 := Tryd.func141.trans (congrArg some (by kernel_rfl))
  t3 := Tryd.underlying3
  a3 := Tryd.isAgg3
  z3 := Tryd.sizeOf3
  v3 := Tryd.zeroValue3
  t4 := Tryd.underlying4
  a4 := Tryd.isAgg4
  z4 := Tryd.sizeOf4
  v4 := Tryd.zeroValue4
  t9 := Tryd.underlying9
  a9 := Tryd.isAgg9
  z9 := Tryd.sizeOf9
  v9 := Tryd.zeroValue9 }
open Go.RowKit Go.Lib in
theorem Tryd.strings_TrimPrefix (s p : ByteArray) (w : World) :
    Calls Tryd.prog 104 #[.string s, .string p] w fun e w' => e = .returned (.string ⟨(Lib.trimPrefix s.data.toList p.data.toList).toArray⟩) ∧ w' = w := Any.strings_TrimPrefix Tryd.lays101 s p w
def Tryd.lays105_ren : Go.Shelf.Ren := ⟨fun | 105 => 106 | 212 => 143 | 99 => 144 | 165 => 110 | 166 => 111 | 170 => 145 | 169 => 112 | 263 => 178 | 264 => 179 | 206 => 176 | 240 => 147 | 241 => 148 | 276 => 180 | 277 => 181 | n => n, fun | 9 => 9 | 3 => 3 | 4 => 4 | 20 => 20 | 0 => 0 | 46 => 80 | 109 => 203 | 5 => 5 | 72 => 171 | 76 => 147 | 51 => 243 | 146 => 244 | 53 => 100 | 148 => 246 | 70 => 169 | 37 => 43 | 75 => 146 | 127 => 207 | 164 => 248 | 80 => 97 | n => n, fun | n => n⟩
theorem Tryd.lays105 : Go.Proofs.Lays.n105 Tryd.prog Tryd.lays105_ren := {
  mixed := by kernel_rfl
  f99 := Tryd.func144.trans (congrArg some (by kernel_rfl))
  f105 := Tryd.func106.trans (congrArg some (by kernel_rfl))
  f165 := Tryd.func110.trans (congrArg some (by kernel_rfl))
  f166 := Tryd.func111.trans (congrArg some (by kernel_rfl))
  f169 := Tryd.func112.trans (congrArg some (by kernel_rfl))
  f170 := Tryd.func145.trans (congrArg some (by kernel_rfl))
  f206 := Tryd.func176.trans (congrArg some (by kernel_rfl))
  f212 := Tryd.func143.trans (congrArg some (by kernel_rfl))
  f240 := Tryd.func147.trans (congrArg some (by kernel_rfl))
  f241 := Tryd.func148.trans (congrArg some (by kernel_rfl))
  f263 := Tryd.func178.trans (congrArg some (by kernel_rfl))
  f264 := Tryd.func179.trans (congrArg some (by kernel_rfl))
  f276 := Tryd.func180.trans (congrArg some (by kernel_rfl))
  f277 := Tryd.func181.trans (congrArg some (by kernel_rfl))
  t0 := Tryd.underlying0
  a0 := Tryd.isAgg0
  z0 := Tryd.sizeOf0
  v0 := Tryd.zeroValue0
  t3 := Tryd.underlying3
  a3 := Tryd.isAgg3
  z3 := Tryd.sizeOf3
  v3 := Tryd.zeroValue3
  t4 := Tryd.underlying4
  a4 := Tryd.isAgg4
  z4 := Tryd.sizeOf4
  v4 := Tryd.zeroValue4
  t5 := Tryd.underlying5
  a5 := Tryd.isAgg5
  z5 := Tryd.sizeOf5
  v5 := Tryd.zeroValue5
  t9 := Tryd.underlying9
  a9 := Tryd.isAgg9
  z9 := Tryd.sizeOf9
  v9 := Tryd.zeroValue9
  t20 := Tryd.underlying20
  a20 := Tryd.isAgg20
  z20 := Tryd.sizeOf20
  v20 := Tryd.zeroValue20
  t37 := Tryd.underlying43
  a37 := Tryd.isAgg43
  z37 := Tryd.sizeOf43
  v37 := Tryd.zeroValue43
  t46 := Tryd.underlying80
  a46 := Tryd.isAgg80
  z46 := Tryd.sizeOf80
  v46 := Tryd.zeroValue80
  t51 := Tryd.underlying243
  a51 := Tryd.isAgg243
  z51 := Tryd.sizeOf243
  v51 := Tryd.zeroValue243
  t53 := Tryd.underlying100
  a53 := Tryd.isAgg100
  z53 := Tryd.sizeOf100
  v53 := Tryd.zeroValue100
  t70 := Tryd.underlying169
  a70 := Tryd.isAgg169
  z70 := Tryd.sizeOf169
  v70 := Tryd.zeroValue169
  t72 := Tryd.underlying171
  a72 := Tryd.isAgg171
  z72 := Tryd.sizeOf171
  v72 := Tryd.zeroValue171
  t75 := Tryd.underlying146
  a75 := Tryd.isAgg146
  z75 := Tryd.sizeOf146
  v75 := Tryd.zeroValue146
  t76 := Tryd.underlying147
  a76 := Tryd.isAgg147
  z76 := Tryd.sizeOf147
  v76 := Tryd.zeroValue147
  t109 := Tryd.underlying203
  a109 := Tryd.isAgg203
  z109 := Tryd.sizeOf203
  v109 := Tryd.zeroValue203
  t127 := Tryd.underlying207
  a127 := Tryd.isAgg207
  z127 := Tryd.sizeOf207
  v127 := Tryd.zeroValue207
  t146 := Tryd.underlying244
  a146 := Tryd.isAgg244
  z146 := Tryd.sizeOf244
  v146 := Tryd.zeroValue244
  t148 := Tryd.underlying246
  a148 := Tryd.isAgg246
  z148 := Tryd.sizeOf246
  v148 := Tryd.zeroValue246
  t164 := Tryd.underlying248
  a164 := Tryd.isAgg248
  z164 := Tryd.sizeOf248
  v164 := Tryd.zeroValue248 }
theorem Tryd.Builder_Extra_105 : Builder.Extra Tryd.prog Tryd.lays105_ren := {
  sizeBuilder := by kernel_rfl
  liesBuilder := by kernel_rfl
  t5 := Tryd.underlying5
  a5 := Tryd.isAgg5
  z5 := Tryd.sizeOf5
  v5 := Tryd.zeroValue5
  infoByte := by kernel_rfl
  cellsByte := by kernel_rfl
  sizeByte := by kernel_rfl
  neB5 := by decide }
open Go.RowKit Go.Lib in
theorem Tryd.strings_Repeat (s : ByteArray) (c : Nat) (w : World) (hc : c ≤ 9223372036854775807) (hlen : s.size * c ≤ 140737488355328) :
    Calls Tryd.prog 106 #[.string s, .int .i64 c] w fun e w' => e = .returned (.string ⟨(Lib.repeatL s.data.toList c).toArray⟩) ∧ Below w.heap.size w w' := Any.strings_Repeat Tryd.lays105 Tryd.Builder_Extra_105 s c w hc hlen
end Go.Proofs.YtcjidlgmbjebjaaDoor

namespace Go.Proofs.YtcjidlgmbjebjaaDoor.Ord
open Go
end Go.Proofs.YtcjidlgmbjebjaaDoor.Ord

namespace Go.Proofs.YtcjidlgmbjebjaaDoor
open Go Go.RowKit
end Go.Proofs.YtcjidlgmbjebjaaDoor

namespace Go.Proofs.YtcjidlgmbjebjaaDoor
open Go Go.RowKit
end Go.Proofs.YtcjidlgmbjebjaaDoor

namespace Go.Proofs.YtcjidlgmbjebjaaDoor
open Go Go.RowKit
end Go.Proofs.YtcjidlgmbjebjaaDoor

namespace Go.Proofs.YtcjidlgmbjebjaaDoor
open Go Go.RowKit
theorem below_step {W w w' : World} (h1 : Below W.heap.size W w) (h2 : Below w.heap.size w w') : Below W.heap.size W w' := h1.trans (h2.mono h1.size)
def TrueBelow (W : World) (e : Ending) (w' : World) : Prop := e = .returned (.bool true) ∧ Below W.heap.size W w'
end Go.Proofs.YtcjidlgmbjebjaaDoor

namespace Go.Proofs.YtcjidlgmbjebjaaDoor
open Go Go.Shelf
end Go.Proofs.YtcjidlgmbjebjaaDoor

namespace Go.Proofs.YtcjidlgmbjebjaaDoor
open Go Go.RowKit
end Go.Proofs.YtcjidlgmbjebjaaDoor

namespace Go.Proofs.YtcjidlgmbjebjaaDoor
open Go Go.RowKit
def q1 (c : UInt8) : List UInt8 := if c.toNat = 34 ∨ c.toNat = 92 then [92, c] else [c]
end Go.Proofs.YtcjidlgmbjebjaaDoor

namespace Go.Proofs.YtcjidlgmbjebjaaDoor
open Go Go.RowKit
theorem dec_cat (a b : ByteArray) (l1 l2 : List UInt8) (ha : a = ⟨l1.toArray⟩) (hb : b = ⟨l2.toArray⟩) : a ++ b = ⟨(l1 ++ l2).toArray⟩ := by
  subst ha hb
  apply ByteArray.ext
  show (ByteArray.append _ _).data = _
  simp
end Go.Proofs.YtcjidlgmbjebjaaDoor

namespace Go.Proofs.YtcjidlgmbjebjaaDoor.Utf
open Go
def byt (s : ByteArray) (i : Nat) : Nat := (s.get! i).toNat
def kOf (c : Nat) : Nat := if c < 128 then 0 else if c < 224 then 1 else if c < 240 then 2 else 3
def leastOf (c : Nat) : Nat := if c < 128 then 0 else if c < 224 then 128 else if c < 240 then 2048 else 65536
def startOf (c : Nat) : Nat := if c < 128 then c else if c < 224 then c % 32 else if c < 240 then c % 16 else c % 8
def okHead (c : Nat) : Bool := decide (c < 128) || (decide (194 ≤ c) && decide (c < 245))
def cont (s : ByteArray) (i : Nat) : Bool := decide (i < s.size) && byt s i / 64 == 2
def val (s : ByteArray) (i r : Nat) : Nat → Nat
  | 0 => r
  | n + 1 => val s i r n * 64 + byt s (i + (n + 1)) % 64
def conts (s : ByteArray) (i : Nat) : Nat → Bool
  | 0 => true
  | n + 1 => conts s i n && cont s (i + (n + 1))
def okRune (c r : Nat) : Bool := decide (leastOf c ≤ r) && decide (r ≤ 1114111) && !(decide (55296 ≤ r) && decide (r ≤ 57343))
def okStep (s : ByteArray) (i : Nat) : Bool :=
  okHead (byt s i) && conts s i (kOf (byt s i)) && okRune (byt s i) (val s i (startOf (byt s i)) (kOf (byt s i)))
theorem decode_eq (s : ByteArray) (i : Nat) : Utf8.decode s i =
    if byt s i < 128 then (byt s i, 1)
    else if (byt s i / 32 == 6 && cont s (i + 1)) = true then
      if byt s i % 32 * 64 + byt s (i + 1) % 64 ≥ 128 then (byt s i % 32 * 64 + byt s (i + 1) % 64, 2) else (65533, 1)
    else if (byt s i / 16 == 14 && cont s (i + 1) && cont s (i + 2)) = true then
      if (decide (byt s i % 16 * 4096 + byt s (i + 1) % 64 * 64 + byt s (i + 2) % 64 ≥ 2048) && Utf8.valid (byt s i % 16 * 4096 + byt s (i + 1) % 64 * 64 + byt s (i + 2) % 64 : Nat)) = true
      then (byt s i % 16 * 4096 + byt s (i + 1) % 64 * 64 + byt s (i + 2) % 64, 3) else (65533, 1)
    else if (byt s i / 8 == 30 && cont s (i + 1) && cont s (i + 2) && cont s (i + 3)) = true then
      if (decide (byt s i % 8 * 262144 + byt s (i + 1) % 64 * 4096 + byt s (i + 2) % 64 * 64 + byt s (i + 3) % 64 ≥ 65536) && Utf8.valid (byt s i % 8 * 262144 + byt s (i + 1) % 64 * 4096 + byt s (i + 2) % 64 * 64 + byt s (i + 3) % 64 : Nat)) = true
      then (byt s i % 8 * 262144 + byt s (i + 1) % 64 * 4096 + byt s (i + 2) % 64 * 64 + byt s (i + 3) % 64, 4) else (65533, 1)
    else (65533, 1) := rfl
end Go.Proofs.YtcjidlgmbjebjaaDoor.Utf
namespace Go.Proofs.YtcjidlgmbjebjaaDoor.Utf
open Go
def okFrom (s : ByteArray) : Nat → Nat → Bool
  | 0, _ => true
  | f + 1, i => if i < s.size then okStep s i && okFrom s f (i + (kOf (byt s i) + 1)) else true
def ok (s : ByteArray) : Bool := okFrom s s.size 0
end Go.Proofs.YtcjidlgmbjebjaaDoor.Utf

namespace Go.Proofs.YtcjidlgmbjebjaaDoor
open Go Go.RowKit
theorem get_list (s : ByteArray) (i : Nat) (h : i < s.size) : s.data.toList[i]? = some (s.get! i) := by
  have hd : i < s.data.size := h
  rw [Array.getElem?_toList, Array.getElem?_eq_getElem hd]
  congr 1
  show _ = s.get! i
  have : s.data[i]! = s.data[i] := getElem!_pos s.data i hd
  simp only [ByteArray.get!]
  exact this.symm
end Go.Proofs.YtcjidlgmbjebjaaDoor

namespace Go.Proofs.YtcjidlgmbjebjaaDoor
open Go Go.RowKit
theorem below_iter (w : World) (s : ByteArray) (p : Nat) : Below w.heap.size w (w.iter s p) := (Below.refl w.heap.size w).alloc (Nat.le_refl _) _
end Go.Proofs.YtcjidlgmbjebjaaDoor

namespace Go.Proofs.YtcjidlgmbjebjaaDoor
open Go Go.RowKit
end Go.Proofs.YtcjidlgmbjebjaaDoor

namespace Go.Proofs.YtcjidlgmbjebjaaDoor
open Go Go.RowKit
end Go.Proofs.YtcjidlgmbjebjaaDoor

namespace Go.Proofs.YtcjidlgmbjebjaaDoor
open Go Go.RowKit
end Go.Proofs.YtcjidlgmbjebjaaDoor

namespace Go.Proofs.YtcjidlgmbjebjaaDoor
open Go Go.RowKit
end Go.Proofs.YtcjidlgmbjebjaaDoor

namespace Go.Proofs.YtcjidlgmbjebjaaDoor
open Go Go.RowKit
def PowIs (w : World) : Prop := Lib.TabIs Tryd.prog w "internal/strconv.uint64pow10" .u64 Lib.pow10Tab
theorem pow_named {w : World} (h : PowIs w) : ∃ g, Tryd.prog.globalNamed "internal/strconv.uint64pow10" = some g := by
  cases hg : Tryd.prog.globalNamed "internal/strconv.uint64pow10" with
  | some g => exact ⟨g, rfl⟩
  | none =>
    unfold PowIs Lib.TabIs World.var? at h
    rw [hg] at h
    simp at h
theorem pow_stays {w w' : World} (h : PowIs w) (hb : Below w.heap.size w w') : PowIs w' := by
  obtain ⟨g, hg⟩ := pow_named h
  exact Joins.tab_stays hg h hb (Nat.le_refl _)
theorem below_gr (w : World) (q : Nat) (os : Array Obj) : Below w.heap.size w (Sort.grow (w.drewN q) os) := by
  refine ⟨rfl, rfl, rfl, ?_, ?_⟩
  · show w.heap.size ≤ (w.heap ++ os).size
    simp
  · intro k hk
    show (w.heap ++ os)[k]? = w.heap[k]?
    rw [Array.getElem?_append_left hk]
end Go.Proofs.YtcjidlgmbjebjaaDoor

namespace Go.Proofs.YtcjidlgmbjebjaaDoor
open Go Go.Shelf Go.RowKit Go.Sort Go.Lib
def RetStr (l : List UInt8) (W : World) (e : Ending) (w' : World) : Prop := e = .returned (.string ⟨l.toArray⟩) ∧ Below W.heap.size W w'
set_option maxHeartbeats 6400000 in
theorem ifmtu_val (u : Nat) (hu64 : u < 18446744073709551616) (w : World) (htab : PowIs w) :
    Calls Tryd.prog 136 #[.int .u64 u, .int .i64 10] w (RetStr (Lib.decDigits u) w) := by
  by_cases hs : u < 100
  · have hw : IntKind.i64.wrap (u : Int) = u := by rw [IntKind.wrap_i64]; omega
    go_enter Tryd.func136, Tryd.ntmps136
    go_wp2_with (go_at_call 169; refine (Tryd.internal_strconv_small u hs _).mono ?_; rintro e w' ⟨rfl, rfl⟩)
    go_ret
    exact ⟨rfl, by go_grown⟩
  · have hu1 : 1 ≤ u := by omega
    have hnd20 : Lib.nDigits u ≤ 20 := by have := Lib.numDigits_eq u hu1 hu64; split at this <;> omega
    have hal : Tryd.prog.arrayLen 235 = 24 := by kernel_rfl
    have hsl1 : ∀ W, (Instr.sliceAt 235 (.pointer (some ⟨w.heap.size, 0, none⟩)) none (some (.int .i64 (Lib.nDigits u : Int))) none).run Tryd.prog W = .ok (.slice (some ⟨w.heap.size, 0, none⟩) (Lib.nDigits u) 24) W := fun W => by
      rw [run_sliceAt_array_h W 235 ⟨w.heap.size, 0, none⟩ (by simp [Program.arrayLen, Program.elem, Tryd.underlying235]) .i64 (Lib.nDigits u : Int) (by omega) (by rw [hal]; omega)]
      go_simp
    have hH0 : Holds (fun (b : UInt8) => Value.int .u8 (b.toNat : Int)) (w.alloc (.cells Lib.zeros24 235)) w.heap.size 0 (Array.replicate (Lib.nDigits u) 0) := holds_zero0 w 235 (Lib.nDigits u) (by omega)
    have hfmt := Tryd.internal_strconv_formatBase10 w.heap.size 0 24 u (Array.replicate (Lib.nDigits u) 0) (w.alloc (.cells Lib.zeros24 235)) hH0 (by rw [Array.size_replicate]; exact Lib.lt_pow_nDigits u) hu64 (by rw [Array.size_replicate]; omega)
    rw [Array.size_replicate] at hfmt
    have HH0 := Lib.hid hH0
    have HT := Lib.hid (fun w' (h : Below w.heap.size w w') => (show PowIs w' from pow_stays htab h))
    clear hH0 hal htab
    go_enter Tryd.func136, Tryd.ntmps136
    go_wp2_with (go_at_call 170; refine (Tryd.internal_strconv_numDigits u hu1 hu64 _ (HT.out _ (by go_grown))).mono ?_; rintro e w' ⟨rfl, rfl⟩)
    go_at_call 171
    refine hfmt.mono ?_
    rintro e w' ⟨rfl, k, v', dk, rfl, hF⟩
    have hcv : (convert 43 9 (.slice (some ⟨w.heap.size, 0, none⟩) (Lib.nDigits u) 24)).run Tryd.prog ((putRow (fun (b : UInt8) => Value.int .u8 (b.toNat : Int)) (w.alloc (.cells Lib.zeros24 235)) w.heap.size 0 dk).drewN k) = .ok (.string ⟨(Lib.decDigits u).toArray⟩) ((putRow (fun (b : UInt8) => Value.int .u8 (b.toNat : Int)) (w.alloc (.cells Lib.zeros24 235)) w.heap.size 0 dk).drewN k) := by
      have h := run_convert_bytes_back (P := Tryd.prog) ((putRow (fun (b : UInt8) => Value.int .u8 (b.toNat : Int)) (w.alloc (.cells Lib.zeros24 235)) w.heap.size 0 dk).drewN k) 43 9 5 ⟨w.heap.size, 0, none⟩ 24 (Lib.decDigits u) Tryd.underlying43 Tryd.underlying5 Tryd.underlying9 (fun j hj => by
        rw [Lib.row_is_numeral hF j hj, Lib.add_plain, World.cell?_drewN]
        exact cell?_putRow (fun (b : UInt8) => Value.int .u8 (b.toNat : Int)) _ w.heap.size 0 _ dk HH0.out (by rw [hF.size, Array.size_replicate]) j (by rw [hF.size]; rw [Lib.decDigits_length] at hj; exact hj))
      rw [Lib.decDigits_length] at h
      exact h
    go_wp2
    go_ret
    obtain ⟨os, eo⟩ := Lib.fin_at w (.cells Lib.zeros24 235) dk k 0
    refine ⟨rfl, by rw [eo]; exact below_gr _ _ _⟩
end Go.Proofs.YtcjidlgmbjebjaaDoor

namespace Go.Proofs.YtcjidlgmbjebjaaDoor.Wk
open Go.Lib
def dgt (c : UInt8) : Prop := 48 ≤ c.toNat ∧ c.toNat ≤ 57
def val (l : List UInt8) (n : Nat) : Nat := l.foldl (fun n c => 10 * n + (c.toNat - 48)) n
theorem val_app (l m : List UInt8) (n : Nat) : val (l ++ m) n = val m (val l n) := by unfold val; rw [List.foldl_append]
theorem val_shift : ∀ (l : List UInt8) (n : Nat), val l n = n * 10 ^ l.length + val l 0
  | [], n => by simp [val]
  | c :: l, n => by
    have h1 := val_shift l (10 * n + (c.toNat - 48))
    have h2 := val_shift l (10 * 0 + (c.toNat - 48))
    show val l (10 * n + (c.toNat - 48)) = n * 10 ^ (l.length + 1) + val l (10 * 0 + (c.toNat - 48))
    rw [h1, h2, Nat.pow_succ, Nat.add_mul, Nat.mul_zero, Nat.zero_add, ← Nat.add_assoc, Nat.mul_comm 10 n, Nat.mul_assoc, Nat.mul_comm (10 ^ l.length) 10]
theorem ofNat_nat {k : Nat} (h : k < 256) : (UInt8.ofNat k).toNat = k := by simp [UInt8.toNat_ofNat']; omega
theorem dec_small {u : Nat} (h : u < 10) : decDigits u = [UInt8.ofNat (48 + u)] := by rw [decDigits, dif_pos h]
theorem dec_big {u : Nat} (h : ¬ u < 10) : decDigits u = decDigits (u / 10) ++ [UInt8.ofNat (48 + u % 10)] := by rw [decDigits, dif_neg h]
theorem dec_dgt (u : Nat) : ∀ c ∈ decDigits u, dgt c := by
  induction u using Nat.strongRecOn with
  | ind u ih =>
    intro c hc
    by_cases h : u < 10
    · rw [dec_small h] at hc
      rw [List.mem_singleton] at hc; subst hc
      unfold dgt; rw [ofNat_nat (by omega)]; omega
    · rw [dec_big h] at hc
      rcases List.mem_append.1 hc with hc | hc
      · exact ih (u / 10) (by omega) c hc
      · rw [List.mem_singleton] at hc; subst hc
        unfold dgt; rw [ofNat_nat (by omega)]; omega
theorem dec_val (u : Nat) : val (decDigits u) 0 = u := by
  induction u using Nat.strongRecOn with
  | ind u ih =>
    by_cases h : u < 10
    · rw [dec_small h]; simp only [val, List.foldl_cons, List.foldl_nil]; rw [ofNat_nat (by omega)]; omega
    · rw [dec_big h, val_app, ih (u / 10) (by omega)]
      simp only [val, List.foldl_cons, List.foldl_nil]; rw [ofNat_nat (by omega)]; omega
theorem dec_len (u : Nat) (k : Nat) (h : u < 10 ^ k) (hk : 1 ≤ k) : (decDigits u).length ≤ k := by
  induction k generalizing u with
  | zero => omega
  | succ k ih =>
    by_cases h1 : u < 10
    · rw [dec_small h1]; simp
    · rw [dec_big h1, List.length_append]
      have hk0 : 1 ≤ k := by
        rcases k with _ | k
        · simp at h; omega
        · omega
      have := ih (u / 10) (by rw [Nat.pow_succ] at h; omega) hk0
      simp; omega
theorem dec_ne (u : Nat) : decDigits u ≠ [] := by
  by_cases h : u < 10
  · rw [dec_small h]; simp
  · rw [dec_big h]; simp
theorem dec_lead : ∀ (k u : Nat), 10 ^ k ≤ u → u < 2 * 10 ^ k → ∃ l, decDigits u = 49 :: l ∧ l.length = k
  | 0, u, h1, h2 => ⟨[], by rw [show u = 1 by omega, dec_small (by omega)]; rfl, rfl⟩
  | k + 1, u, h1, h2 => by
    rw [Nat.pow_succ] at h1 h2
    have hp : 1 ≤ 10 ^ k := Nat.one_le_pow _ _ (by decide)
    obtain ⟨l, e, hl⟩ := dec_lead k (u / 10) (by omega) (by omega)
    exact ⟨l ++ [UInt8.ofNat (48 + u % 10)], by rw [dec_big (by omega), e]; rfl, by simp [hl]⟩
def restL (r : Nat) : List UInt8 := (decDigits (10000000 + r)).drop 1
theorem rest_facts {r : Nat} (h : r < 10000000) : (restL r).length = 7 ∧ (∀ c ∈ restL r, dgt c) ∧ val (restL r) 0 = r := by
  obtain ⟨l, e, hl⟩ := dec_lead 7 (10000000 + r) (by omega) (by omega)
  have hv := dec_val (10000000 + r)
  have hd := dec_dgt (10000000 + r)
  unfold restL
  rw [e] at hv hd ⊢
  refine ⟨by simpa using hl, fun c hc => hd c (List.mem_cons_of_mem _ (by simpa using hc)), ?_⟩
  have h1 : val l (10 * 0 + ((49 : UInt8).toNat - 48)) = 10000000 + r := hv
  rw [val_shift, hl] at h1
  have e49 : (49 : UInt8).toNat = 49 := rfl
  rw [e49] at h1
  simp only [List.drop_succ_cons, List.drop_zero]
  omega
theorem dropWhile_split (p : UInt8 → Bool) : ∀ l : List UInt8, ∃ a, l = a ++ l.dropWhile p ∧ ∀ x ∈ a, p x = true
  | [] => ⟨[], rfl, fun _ h => by simp at h⟩
  | x :: l => by
    by_cases h : p x = true
    · obtain ⟨a, e, ha⟩ := dropWhile_split p l
      refine ⟨x :: a, ?_, ?_⟩
      · rw [List.dropWhile_cons_of_pos h, List.cons_append, ← e]
      · intro y hy
        rcases List.mem_cons.1 hy with rfl | hy
        · exact h
        · exact ha y hy
    · exact ⟨[], by rw [List.dropWhile_cons_of_neg h]; rfl, fun _ h => by simp at h⟩
theorem trimR_split (l : List UInt8) (c : UInt8) : ∃ k, l = trimRightB l c ++ List.replicate k c := by
  obtain ⟨a, e, ha⟩ := dropWhile_split (· == c) l.reverse
  refine ⟨a.length, ?_⟩
  unfold trimRightB
  have ea : a = List.replicate a.length c := List.eq_replicate_of_mem fun x hx => by simpa using ha x hx
  have := congrArg List.reverse e
  rw [List.reverse_reverse, List.reverse_append] at this
  rw [ea] at this
  rw [List.reverse_replicate] at this
  exact this
def signL (n : Int) : List UInt8 := if n < 0 then [45] else []
def ordL (n : Int) : List UInt8 :=
  if trimRightB (restL (n.natAbs % 10000000)) 48 = [] then signL n ++ decDigits (n.natAbs / 10000000)
  else signL n ++ decDigits (n.natAbs / 10000000) ++ 46 :: trimRightB (restL (n.natAbs % 10000000)) 48
def digs : List UInt8 → Nat → Option Nat
  | [], n => some n
  | c :: l, n => if c.toNat < 48 ∨ 57 < c.toNat ∨ (9223372036854775807 - (c.toNat - 48)) / 10 < n then none else digs l (10 * n + (c.toNat - 48))
def numL (s : List UInt8) : Int × Bool :=
  if 40 < s.length then (0, false)
  else
    let b0 := trimPrefix s [45]
    let neg := decide (b0.length < s.length)
    let body := if neg then b0 else trimPrefix s [43]
    let p := cut body [46]
    if p.1 = [] ∨ (p.2.2 = true ∧ p.2.1 = []) ∨ 7 < p.2.1.length then (0, false)
    else match digs (p.1 ++ p.2.1 ++ List.replicate (7 - p.2.1.length) 48) 0 with
      | none => (0, false)
      | some n => (if neg then -(n : Int) else n, true)
theorem digs_ok : ∀ (l : List UInt8) (n : Nat), (∀ c ∈ l, dgt c) → val l n ≤ 9223372036854775807 → digs l n = some (val l n)
  | [], n, _, _ => rfl
  | c :: l, n, hd, hv => by
    have hc := hd c List.mem_cons_self
    unfold dgt at hc
    have e : val (c :: l) n = val l (10 * n + (c.toNat - 48)) := rfl
    rw [e] at hv ⊢
    have h1 := val_shift l (10 * n + (c.toNat - 48))
    have hp : 1 ≤ 10 ^ l.length := Nat.one_le_pow _ _ (by decide)
    have h2 : 10 * n + (c.toNat - 48) ≤ (10 * n + (c.toNat - 48)) * 10 ^ l.length := Nat.le_mul_of_pos_right _ hp
    rw [digs, if_neg (by omega)]
    exact digs_ok l _ (fun x hx => hd x (List.mem_cons_of_mem _ hx)) hv
theorem index_mem : ∀ (a b : List UInt8), 46 ∉ a → index (a ++ 46 :: b) [46] = a.length
  | [], b, _ => by unfold index; simp
  | c :: a, b, h => by
    have hc : ¬ (46 = c) := fun e => h (by simp [e])
    have ih := index_mem a b (fun hm => h (List.mem_cons_of_mem _ hm))
    have hp : List.isPrefixOf [46] (c :: (a ++ 46 :: b)) = false := by simp [List.isPrefixOf, hc]
    rw [List.cons_append, index, if_neg (by rw [hp]; decide), ih]
    rw [if_neg (by simp)]; simp
theorem index_not : ∀ (a : List UInt8), 46 ∉ a → index a [46] = -1
  | [], _ => by unfold index; simp
  | c :: a, h => by
    have hc : ¬ (46 = c) := fun e => h (by simp [e])
    have ih := index_not a (fun hm => h (List.mem_cons_of_mem _ hm))
    have hp : List.isPrefixOf [46] (c :: a) = false := by simp [List.isPrefixOf, hc]
    rw [index, if_neg (by rw [hp]; decide), ih]; rfl
theorem cut_mem {a b : List UInt8} (h : 46 ∉ a) : cut (a ++ 46 :: b) [46] = (a, b, true) := by
  unfold cut
  rw [index_mem a b h, if_pos (by omega)]
  simp
theorem cut_not {a : List UInt8} (h : 46 ∉ a) : cut a [46] = (a, [], false) := by
  unfold cut
  rw [index_not a h, if_neg (by omega)]
theorem dgt_not {l : List UInt8} (h : ∀ c ∈ l, dgt c) (x : UInt8) (hx : ¬ dgt x) : x ∉ l := fun hm => hx (h x hm)
theorem not46 : ¬ dgt 46 := by unfold dgt; decide
theorem prefix_dgt {l : List UInt8} (h : ∀ c ∈ l, dgt c) (hne : l ≠ []) (x : UInt8) (hx : ¬ dgt x) (m : List UInt8) : trimPrefix (l ++ m) [x] = l ++ m := by
  cases l with
  | nil => exact absurd rfl hne
  | cons c l =>
    have hc : ¬ (x = c) := fun e => hx (e ▸ h c List.mem_cons_self)
    unfold trimPrefix hasPrefix
    rw [if_neg (by simp [List.isPrefixOf, hc])]
theorem num_parts (n : Int) (W tl : List UInt8) (hW : ∀ c ∈ W, dgt c) (hne : W ≠ []) (hl : W.length + tl.length ≤ 39) :
    numL (signL n ++ (W ++ tl)) = (let p := cut (W ++ tl) [46]
      if p.1 = [] ∨ (p.2.2 = true ∧ p.2.1 = []) ∨ 7 < p.2.1.length then (0, false)
      else match digs (p.1 ++ p.2.1 ++ List.replicate (7 - p.2.1.length) 48) 0 with
        | none => (0, false)
        | some k => (if n < 0 then -(k : Int) else k, true)) := by
  unfold numL signL
  by_cases hn : n < 0
  · have e : trimPrefix ([45] ++ (W ++ tl)) [45] = W ++ tl := by
      unfold trimPrefix hasPrefix
      rw [if_pos (by simp [List.isPrefixOf])]; rfl
    rw [if_pos hn, if_neg (by simp; omega), e]
    simp [hn]
  · have e := prefix_dgt hW hne 45 (by unfold dgt; decide) tl
    have e2 := prefix_dgt hW hne 43 (by unfold dgt; decide) tl
    rw [if_neg hn, List.nil_append, if_neg (by simp; omega), e, e2]
    simp [hn]
theorem num_whole (n : Int) (W : List UInt8) (hW : ∀ c ∈ W, dgt c) (hne : W ≠ []) (hl : W.length ≤ 20) (hv : val (W ++ List.replicate 7 48) 0 = n.natAbs) (hn : n.natAbs ≤ 9223372036854775807) :
    numL (signL n ++ W) = (n, true) := by
  have h := num_parts n W [] hW hne (by simp; omega)
  rw [List.append_nil] at h
  rw [h, cut_not (dgt_not hW _ not46)]
  simp only [List.length_nil, Nat.sub_zero, List.append_nil]
  rw [if_neg (by simp [hne]), digs_ok _ _ (fun c hc => by
    rcases List.mem_append.1 hc with hc | hc
    · exact hW c hc
    · rw [List.eq_of_mem_replicate hc]; unfold dgt; decide) (by omega), hv]
  simp only [Prod.mk.injEq, and_true]
  split <;> omega
theorem num_point (n : Int) (W p : List UInt8) (hW : ∀ c ∈ W, dgt c) (hne : W ≠ []) (hl : W.length ≤ 20) (hp : ∀ c ∈ p, dgt c) (hpl : p.length ≤ 16) :
    (p = [] ∨ 7 < p.length → numL (signL n ++ (W ++ 46 :: p)) = (0, false)) ∧
    (p ≠ [] → p.length ≤ 7 → n.natAbs ≤ 9223372036854775807 → val (W ++ p ++ List.replicate (7 - p.length) 48) 0 = n.natAbs → numL (signL n ++ (W ++ 46 :: p)) = (n, true)) := by
  have h := num_parts n W (46 :: p) hW hne (by simp; omega)
  rw [h, cut_mem (dgt_not hW _ not46)]
  dsimp only
  constructor
  · intro h1
    rw [if_pos (by rcases h1 with h1 | h1 <;> simp [h1])]
  · intro h1 h2 hn hv
    rw [if_neg (by simp [hne, h1]; omega), digs_ok _ _ (fun c hc => by
      rcases List.mem_append.1 hc with hc | hc
      · rcases List.mem_append.1 hc with hc | hc
        · exact hW c hc
        · exact hp c hc
      · rw [List.eq_of_mem_replicate hc]; unfold dgt; decide) (by omega), hv]
    simp only [Prod.mk.injEq, and_true]
    split <;> omega
theorem ord_parts (n : Int) (hn : n.natAbs ≤ 9223372036854775807) : ∃ W t k, (∀ c ∈ W, dgt c) ∧ W ≠ [] ∧ W.length ≤ 12 ∧ (∀ c ∈ t, dgt c) ∧ t.length + k = 7 ∧
    val (W ++ t ++ List.replicate k 48) 0 = n.natAbs ∧ ordL n = signL n ++ (W ++ (if t = [] then [] else 46 :: t)) := by
  obtain ⟨h1, h2, h3⟩ := rest_facts (r := n.natAbs % 10000000) (Nat.mod_lt _ (by decide))
  obtain ⟨k, hk⟩ := trimR_split (restL (n.natAbs % 10000000)) 48
  generalize ht : trimRightB (restL (n.natAbs % 10000000)) 48 = t at hk
  refine ⟨decDigits (n.natAbs / 10000000), t, k, dec_dgt _, dec_ne _, dec_len _ 12 (by omega) (by decide), fun c hc => h2 c (by rw [hk]; exact List.mem_append_left _ hc), ?_, ?_, ?_⟩
  · rw [hk] at h1; simpa using h1
  · rw [List.append_assoc, ← hk, val_app, dec_val, val_shift, h1, h3]
    have := Nat.div_add_mod n.natAbs 10000000
    omega
  · unfold ordL
    rw [ht]
    by_cases h : t = []
    · rw [if_pos h, if_pos h, List.append_nil]
    · rw [if_neg h, if_neg h, List.append_assoc]
def rest2 : List UInt8 → Bool → Nat → Bool × Nat
  | [], pt, k => (pt, k)
  | c :: l, pt, k => rest2 l (pt || c == 46) (if pt then k + 1 else k)
theorem rest2_app : ∀ (a b : List UInt8) (pt : Bool) (k : Nat), rest2 (a ++ b) pt k = rest2 b (rest2 a pt k).1 (rest2 a pt k).2
  | [], _, _, _ => rfl
  | c :: a, b, pt, k => by rw [List.cons_append, rest2, rest2_app a b]; rfl
theorem rest2_not : ∀ (a : List UInt8) (k : Nat), 46 ∉ a → rest2 a false k = (false, k)
  | [], k, _ => rfl
  | c :: a, k, h => by
    have hc : (c == 46) = false := by rw [beq_eq_false_iff_ne]; exact fun e => h (by simp [e])
    rw [rest2, hc, Bool.or_self]
    exact rest2_not a k fun hm => h (List.mem_cons_of_mem _ hm)
theorem rest2_pt : ∀ (a : List UInt8) (k : Nat), rest2 a true k = (true, k + a.length)
  | [], k => rfl
  | c :: a, k => by
    rw [rest2, Bool.true_or, if_pos rfl, rest2_pt a (k + 1)]; simp; omega
theorem num_ord (n : Int) (hn : n.natAbs ≤ 9223372036854775807) : numL (ordL n) = (n, true) := by
  obtain ⟨W, t, k, hW, hne, hl, ht, hk, hv, e⟩ := ord_parts n hn
  rw [e]
  by_cases h : t = []
  · subst h
    rw [if_pos rfl, List.append_nil]
    simp at hk
    subst hk
    exact num_whole n W hW hne (by omega) (by simpa using hv) hn
  · rw [if_neg h]
    exact (num_point n W t hW hne (by omega) ht (by omega)).2 h (by omega) hn (by rw [show 7 - t.length = k by omega]; exact hv)
theorem ord_len (n : Int) (hn : n.natAbs ≤ 9223372036854775807) : (ordL n).length ≤ 21 ∧ 1 ≤ (ordL n).length := by
  obtain ⟨W, t, k, hW, hne, hl, ht, hk, hv, e⟩ := ord_parts n hn
  have h1 : 1 ≤ W.length := by cases W with
    | nil => exact absurd rfl hne
    | cons => simp
  have h2 : (signL n).length ≤ 1 := by unfold signL; split <;> simp
  rw [e]
  by_cases h : t = []
  · rw [if_pos h]; simp; omega
  · rw [if_neg h]; simp; omega
theorem sign_46 (n : Int) : 46 ∉ signL n := by unfold signL; split <;> simp
theorem num_more (n : Int) (hn : n.natAbs ≤ 9223372036854775807) (m : Nat) (hm : m < 8) :
    (rest2 (ordL n) false 0).2 ≤ 7 ∧
    numL ((if (rest2 (ordL n) false 0).1 then ordL n else ordL n ++ [46]) ++ List.replicate m 48) =
      (if 7 < (rest2 (ordL n) false 0).2 + m ∨ ((rest2 (ordL n) false 0).1 = false ∧ m = 0) then (0, false) else (n, true)) := by
  obtain ⟨W, t, k, hW, hne, hl, ht, hk, hv, e⟩ := ord_parts n hn
  have hrep : ∀ c ∈ List.replicate m (48 : UInt8), dgt c := fun c hc => by rw [List.eq_of_mem_replicate hc]; unfold dgt; decide
  rw [e]
  by_cases h : t = []
  · subst h
    rw [if_pos rfl, List.append_nil]
    have hr : rest2 (signL n ++ W) false 0 = (false, 0) := rest2_not _ _ fun hm => by
      rcases List.mem_append.1 hm with hm | hm
      · exact sign_46 n hm
      · exact not46 (hW _ hm)
    rw [hr]
    refine ⟨Nat.zero_le _, ?_⟩
    simp only [Bool.false_eq_true, if_false, Nat.zero_add, true_and]
    have e2 : signL n ++ W ++ [46] ++ List.replicate m 48 = signL n ++ (W ++ 46 :: List.replicate m 48) := by simp
    rw [e2]
    obtain ⟨q1, q2⟩ := num_point n W (List.replicate m 48) hW hne (by omega) hrep (by simp; omega)
    by_cases hm0 : m = 0
    · rw [if_pos (.inr hm0)]
      exact q1 (.inl (by rw [hm0]; rfl))
    · rw [if_neg (by omega)]
      refine q2 (by cases m with
        | zero => exact absurd rfl hm0
        | succ m => simp [List.replicate_succ]) (by simp; omega) hn ?_
      rw [List.append_assoc, List.length_replicate, List.replicate_append_replicate, show m + (7 - m) = k by simp at hk; omega]
      simpa using hv
  · rw [if_neg h]
    have hr : rest2 (signL n ++ (W ++ 46 :: t)) false 0 = (true, t.length) := by
      rw [← List.append_assoc, rest2_app, rest2_not (signL n ++ W) 0 fun hm => by
        rcases List.mem_append.1 hm with hm | hm
        · exact sign_46 n hm
        · exact not46 (hW _ hm)]
      show rest2 t (false || (46 : UInt8) == 46) (if false = true then 0 + 1 else 0) = _
      rw [show ((false || (46 : UInt8) == 46)) = true by decide, if_neg (by decide), rest2_pt]; simp
    rw [hr]
    refine ⟨by show t.length ≤ 7; omega, ?_⟩
    simp only [if_true]
    have e2 : signL n ++ (W ++ 46 :: t) ++ List.replicate m 48 = signL n ++ (W ++ 46 :: (t ++ List.replicate m 48)) := by simp
    rw [e2]
    obtain ⟨q1, q2⟩ := num_point n W (t ++ List.replicate m 48) hW hne (by omega) (fun c hc => by
      rcases List.mem_append.1 hc with hc | hc
      · exact ht c hc
      · exact hrep c hc) (by simp; omega)
    by_cases hm0 : 7 < t.length + m
    · rw [if_pos (.inl hm0)]
      exact q1 (.inr (by simp; omega))
    · rw [if_neg (by simp; omega)]
      refine q2 (by simp [h]) (by simp; omega) hn ?_
      rw [List.length_append, List.length_replicate, List.append_assoc, List.append_assoc, List.replicate_append_replicate, show m + (7 - (t.length + m)) = k by omega, ← List.append_assoc]
      exact hv
end Go.Proofs.YtcjidlgmbjebjaaDoor.Wk

namespace Go.Proofs.YtcjidlgmbjebjaaDoor
open Go Go.Shelf Go.RowKit Go.Sort Go.Lib
theorem fmtu_val (u : Nat) (hu64 : u < 18446744073709551616) (w : World) (htab : PowIs w) :
    Calls Tryd.prog 102 #[.int .u64 u, .int .i64 10] w (RetStr (Lib.decDigits u) w) := by
  have H := Lib.hid (ifmtu_val u hu64 w htab)
  clear htab
  go_enter Tryd.func102, Tryd.ntmps102
  go_wp2_with fail
  refine H.out.mono ?_
  rintro e w1 ⟨rfl, hb⟩
  dsimp only
  go_wp2_with fail
  go_ret
  exact ⟨rfl, hb⟩
def RetCut (l : List UInt8) (W : World) (e : Ending) (w' : World) : Prop :=
  e = .returned (.tuple #[.string ⟨(Lib.cut l [46]).1.toArray⟩, .string ⟨(Lib.cut l [46]).2.1.toArray⟩, .bool (Lib.cut l [46]).2.2]) ∧ Below W.heap.size W w'
theorem index_byte (l : List UInt8) : Lib.indexByte l 46 = Lib.index l [46] := by
  induction l with
  | nil => rfl
  | cons b l ih =>
    unfold Lib.indexByte Lib.index
    rw [ih]
    by_cases h : b = 46
    · subst h; simp
    · have h1 : (b == 46) = false := by rw [beq_eq_false_iff_ne]; exact h
      have h2 : List.isPrefixOf [46] (b :: l) = false := by simp [List.isPrefixOf, Ne.symm h]
      rw [h1, h2]
set_option maxHeartbeats 2000000 in
theorem icut_gen (s sep : ByteArray) (hs : s.size ≤ 1000000) (h177 : ∀ w, Calls Tryd.prog 177 #[.string s, .string sep] w fun e w' => e = .returned (.int .i64 (Lib.indexB s sep)) ∧ w' = w) (w : World) :
    Calls Tryd.prog 142 #[.string s, .string sep] w fun e w' => e = .returned (.tuple #[.string ⟨(Lib.cut s.data.toList sep.data.toList).1.toArray⟩, .string ⟨(Lib.cut s.data.toList sep.data.toList).2.1.toArray⟩, .bool (Lib.cut s.data.toList sep.data.toList).2.2]) ∧ Below w.heap.size w w' := by
  rcases Lib.indexB_cases s sep with hix | ⟨i, hix, hroom⟩
  · obtain ⟨e1, e2, e3⟩ := Lib.cutB_miss s sep hix
    rw [e1, e2, e3]
    rw [hix] at h177
    go_enter Tryd.func142, Tryd.ntmps142
    go_wp2_with (go_at_call 177; refine (h177 _).mono ?_; rintro e w' ⟨rfl, rfl⟩)
    go_ret3
    exact ⟨rfl, by go_grown⟩
  · obtain ⟨e1, e2, e3⟩ := Lib.cutB_hit s sep i hix
    rw [e1, e2, e3]
    rw [hix] at h177
    have c1 : (0 : Int) ≤ ↑i := by omega
    have c2 : (↑i : Int) ≤ ↑s.size := by omega
    have c3 : (0 : Int) ≤ ↑i + ↑sep.size := by omega
    have c4 : (↑i + ↑sep.size : Int) ≤ ↑s.size := by omega
    have c5 : wrap64 ((i : Int) + (sep.size : Int)) = (i : Int) + (sep.size : Int) := by unfold wrap64; omega
    have c6 : IntKind.i64.wrap ((i : Int) + (sep.size : Int)) = (i : Int) + (sep.size : Int) := by rw [IntKind.wrap_i64]; omega
    go_enter Tryd.func142, Tryd.ntmps142
    go_wp2_with (go_at_call 177; refine (h177 _).mono ?_; rintro e w' ⟨rfl, rfl⟩)
    go_region
    go_wp2
    go_ret3
    exact ⟨rfl, by go_grown⟩
theorem icut_str (s : ByteArray) (hs : s.size ≤ 1000000) (w : World) : Calls Tryd.prog 142 #[.string s, .string ⟨#[46]⟩] w (RetCut s.data.toList w) := by
  have hib : Lib.indexByte s.data.toList 46 = Lib.indexB s ⟨#[46]⟩ := index_byte _
  exact icut_gen s ⟨#[46]⟩ hs (fun w' => by rw [← hib]; exact Tryd.stringslite_Index_one s 46 w') w
theorem cut_val (l : List UInt8) (hl : l.length ≤ 1000000) (w : World) : Calls Tryd.prog 105 #[.string ⟨l.toArray⟩, .string ⟨#[46]⟩] w (RetCut l w) := by
  have H := Lib.hid (icut_str ⟨l.toArray⟩ (by rw [Lib.size_mk]; exact hl) w)
  go_enter Tryd.func105, Tryd.ntmps105
  go_wp2_with fail
  refine H.out.mono ?_
  rintro e w1 ⟨rfl, hb⟩
  dsimp only
  go_wp2_with fail
  go_ret3
  exact ⟨rfl, hb⟩
end Go.Proofs.YtcjidlgmbjebjaaDoor

namespace Go.Proofs.YtcjidlgmbjebjaaDoor
open Go Go.Shelf Go.RowKit Go.Sort Go.Lib
theorem str_app (a b : List UInt8) : (⟨a.toArray⟩ : ByteArray) ++ ⟨b.toArray⟩ = ⟨(a ++ b).toArray⟩ := dec_cat _ _ a b rfl rfl
theorem str_len (a : List UInt8) : (⟨a.toArray⟩ : ByteArray).size = a.length := Lib.size_mk a
theorem trimR_le (l : List UInt8) (c : UInt8) : (Lib.trimRightB l c).length ≤ l.length := by
  obtain ⟨k, hk⟩ := Wk.trimR_split l c
  have := congrArg List.length hk
  simp at this; omega
set_option maxHeartbeats 4000000 in
theorem ord_val (n : Int) (h0 : -9223372036854775807 ≤ n) (h1 : n ≤ 9223372036854775807) (w : World) (htab : PowIs w) :
    Calls Tryd.prog 47 #[.int .i64 n] w (RetStr (Wk.ordL n) w) := by
  have hu : n.natAbs ≤ 9223372036854775807 := by omega
  have HF1 := Lib.hid (fun w' (h : Below w.heap.size w w') => show Calls Tryd.prog 102 #[.int .u64 ((n.natAbs : Int) / 10000000), .int .i64 10] w' (RetStr (Lib.decDigits (n.natAbs / 10000000)) w') from fmtu_val (n.natAbs / 10000000) (by omega) w' (pow_stays htab h))
  have HF2 := Lib.hid (fun w' (h : Below w.heap.size w w') => show Calls Tryd.prog 102 #[.int .u64 (10000000 + (n.natAbs : Int) % 10000000), .int .i64 10] w' (RetStr (Lib.decDigits (10000000 + n.natAbs % 10000000)) w') from fmtu_val (10000000 + n.natAbs % 10000000) (by omega) w' (pow_stays htab h))
  have hl1 := Wk.dec_len (n.natAbs / 10000000) 12 (by omega) (by decide)
  have hl2 : (Lib.decDigits (10000000 + n.natAbs % 10000000)).length = 8 := by
    obtain ⟨l, e, hl⟩ := Wk.dec_lead 7 (10000000 + n.natAbs % 10000000) (by omega) (by omega)
    rw [e]; simpa using hl
  have hl3 := trimR_le (Wk.restL (n.natAbs % 10000000)) 48
  have hlr : (Wk.restL (n.natAbs % 10000000)).length = 7 := (Wk.rest_facts (Nat.mod_lt _ (by decide))).1
  have hsl : (ByteArray.mk (Lib.decDigits (10000000 + n.natAbs % 10000000)).toArray).extract 1 (ByteArray.mk (Lib.decDigits (10000000 + n.natAbs % 10000000)).toArray).size = ⟨(Wk.restL (n.natAbs % 10000000)).toArray⟩ := by
    rw [str_len, hl2, Lib.extract_mk, List.take_of_length_le (by rw [List.length_drop]; omega)]; rfl
  have HTR := Lib.hid (fun w' => Tryd.strings_TrimRight_one ⟨(Wk.restL (n.natAbs % 10000000)).toArray⟩ 48 (by decide) w' (by rw [str_len]; omega))
  have hord := Lib.hid (Wk.ordL.eq_1 n)
  unfold Wk.signL at hord
  generalize hD1 : Lib.decDigits (n.natAbs / 10000000) = D1 at HF1 hl1 hord
  generalize hD2 : Lib.decDigits (10000000 + n.natAbs % 10000000) = D2 at HF2 hl2 hsl
  generalize hR : Wk.restL (n.natAbs % 10000000) = R at hl3 hlr hsl HTR hord
  have hz2 : (ByteArray.mk D2.toArray).size = 8 := by rw [str_len, hl2]
  rw [hz2] at hsl
  have HSL := Lib.hid hsl
  have hz1 : (ByteArray.mk D1.toArray).size ≤ 12 := by rw [str_len]; omega
  clear hD1 hD2 hR htab hsl
  have hq1 : ((n.natAbs : Nat) : Int).tdiv 10000000 = ((n.natAbs / 10000000 : Nat) : Int) := by rw [Int.tdiv_eq_ediv_of_nonneg (by omega)]; omega
  have hq2 : ((n.natAbs : Nat) : Int).tmod 10000000 = ((n.natAbs % 10000000 : Nat) : Int) := by rw [Int.tmod_eq_emod_of_nonneg (by omega)]; omega
  by_cases hn : n < 0
  · have hwu : IntKind.u64.wrap (-IntKind.u64.wrap n) = (n.natAbs : Int) := by rw [IntKind.wrap_u64, IntKind.wrap_u64]; omega
    generalize n.natAbs = u at *
    go_enter Tryd.func47, Tryd.ntmps47
    go_wp2_with fail
    refine (HF1.out _ (by go_grown)).mono ?_
    rintro e w1 ⟨rfl, hb⟩
    have hB1 := below_step (show Below w.heap.size w _ from by go_grown) hb
    clear hb
    dsimp only
    go_wp2_with fail
    have hS1 : (ByteArray.mk #[45]) ++ ⟨D1.toArray⟩ = ⟨(45 :: D1).toArray⟩ := dec_cat _ _ [45] D1 rfl rfl
    rw [hS1]
    clear hS1
    refine (HF2.out _ hB1).mono ?_
    rintro e w2 ⟨rfl, hb⟩
    have hB2 := below_step hB1 hb
    clear hb HF1 HF2 hB1
    dsimp only
    go_wp2_with fail
    rw [HSL.out]
    refine (HTR.out _).mono ?_
    rintro e w3 ⟨rfl, rfl⟩
    clear HTR HSL
    dsimp only
    generalize hT : trimRightB R 48 = T at hord hl3
    have hz3 : (ByteArray.mk T.toArray).size = T.length := str_len T
    have hz4 : (ByteArray.mk (45 :: D1).toArray).size = D1.length + 1 := str_len _
    by_cases hT0 : T = []
    · subst hT0
      have ho := hord.out
      rw [if_pos rfl, if_pos hn] at ho
      have HO := Lib.hid ho
      clear ho hord
      go_wp2_with fail
      go_ret
      exact ⟨by rw [HO.out]; rfl, hB2⟩
    · have ho := hord.out
      rw [if_neg hT0, if_pos hn] at ho
      have HO := Lib.hid ho
      have hT1 : T.isEmpty = false := by cases T with
        | nil => exact absurd rfl hT0
        | cons => rfl
      clear ho hord hT0
      go_wp2_with fail
      go_ret
      refine ⟨?_, hB2⟩
      rw [HO.out]
      show Ending.returned (.string ((⟨(45 :: D1).toArray⟩ : ByteArray) ++ ⟨[46].toArray⟩ ++ ⟨T.toArray⟩)) = _
      rw [str_app, str_app]
      simp
  · have hwu : IntKind.u64.wrap n = (n.natAbs : Int) := by rw [IntKind.wrap_u64]; omega
    generalize n.natAbs = u at *
    go_enter Tryd.func47, Tryd.ntmps47
    go_wp2_with fail
    refine (HF1.out _ (by go_grown)).mono ?_
    rintro e w1 ⟨rfl, hb⟩
    have hB1 := below_step (show Below w.heap.size w _ from by go_grown) hb
    clear hb
    dsimp only
    go_wp2_with fail
    have hS1 : (ByteArray.mk #[]) ++ ⟨D1.toArray⟩ = ⟨D1.toArray⟩ := dec_cat _ _ [] D1 rfl rfl
    try rw [hS1]
    clear hS1
    refine (HF2.out _ hB1).mono ?_
    rintro e w2 ⟨rfl, hb⟩
    have hB2 := below_step hB1 hb
    clear hb HF1 HF2 hB1
    dsimp only
    go_wp2_with fail
    rw [HSL.out]
    refine (HTR.out _).mono ?_
    rintro e w3 ⟨rfl, rfl⟩
    clear HTR HSL
    dsimp only
    generalize hT : trimRightB R 48 = T at hord hl3
    have hz3 : (ByteArray.mk T.toArray).size = T.length := str_len T
    have hz4 : (ByteArray.mk (D1).toArray).size = D1.length := str_len _
    by_cases hT0 : T = []
    · subst hT0
      have ho := hord.out
      rw [if_pos rfl, if_neg (Int.not_lt.2 hn)] at ho
      have HO := Lib.hid ho
      clear ho hord
      go_wp2_with fail
      go_ret
      exact ⟨by rw [HO.out]; rfl, hB2⟩
    · have ho := hord.out
      rw [if_neg hT0, if_neg (Int.not_lt.2 hn)] at ho
      have HO := Lib.hid ho
      have hT1 : T.isEmpty = false := by cases T with
        | nil => exact absurd rfl hT0
        | cons => rfl
      clear ho hord hT0
      go_wp2_with fail
      go_ret
      refine ⟨?_, hB2⟩
      rw [HO.out]
      show Ending.returned (.string ((⟨(D1).toArray⟩ : ByteArray) ++ ⟨[46].toArray⟩ ++ ⟨T.toArray⟩)) = _
      rw [str_app, str_app]
      simp
end Go.Proofs.YtcjidlgmbjebjaaDoor

namespace Go.Proofs.YtcjidlgmbjebjaaDoor.Utf
open Go
theorem decode_ascii (s : ByteArray) (i : Nat) (h : byt s i < 128) : Utf8.decode s i = (byt s i, 1) := by
  rw [decode_eq, if_pos h]
end Go.Proofs.YtcjidlgmbjebjaaDoor.Utf
