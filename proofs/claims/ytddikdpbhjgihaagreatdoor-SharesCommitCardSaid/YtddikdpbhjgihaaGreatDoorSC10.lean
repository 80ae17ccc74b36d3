import Derived.Shelf.Strings.Builder1
import Derived.Shelf.Strings.Builder2
import Derived.Shelf.Strings.Trim
import Derived.Shelf.Small.Utf8
import Derived.Shelf.Small.Strs
import Derived.Shelf.Strconv.Itoa0
import Derived.Shelf.Strconv.Itoa1
import Derived.Shelf.LaysM
import Derived.Shelf.Strconv.Itoa2
import Derived.Shelf.Strconv.Itoa3
import Derived.Shelf.Strings.Search1
import Derived.Shelf.Strings.Runes
import Derived.Shelf.Strings.AsciiSet
import Derived.Shelf.Bits.Mul64
import Derived.Shelf.Unicode.DecodeSlow
import Derived.Ground.Names2Prog
import Derived.Shelf.Slices.ReverseS
import Derived.Shelf.Slices.Clone
import Derived.Shelf.Slices.Cells
import Derived.Test.YtddikdpbhjgihaaGreatDoorProg
import Derived.Lib.AppendIntMem
import Derived.Below
import Derived.Test.YtddikdpbhjgihaaGreatDoorSC07
import Derived.Test.YtddikdpbhjgihaaGreatDoorSC09
import Derived.Maps.Own
import Derived.Maps.OwnOps
import Derived.WalkKit
import Derived.Deep.Draws
section
namespace Go.Proofs
open Go.Shelf
def Tryz.lays169_ren : Go.Shelf.Ren := ⟨fun | 169 => 162 | n => n, fun | 70 => 181 | 9 => 9 | 0 => 0 | 72 => 183 | 37 => 110 | 127 => 203 | 3 => 3 | 5 => 5 | n => n, fun | n => n⟩
theorem Tryz.lays169 : Go.Proofs.Lays.n169 Tryz.prog Tryz.lays169_ren := {
  mixed := by kernel_rfl
  f169 := Tryz.func162.trans (congrArg some (by kernel_rfl))
  t0 := Tryz.underlying0
  a0 := Tryz.isAgg0
  z0 := Tryz.sizeOf0
  v0 := Tryz.zeroValue0
  t3 := Tryz.underlying3
  a3 := Tryz.isAgg3
  z3 := Tryz.sizeOf3
  v3 := Tryz.zeroValue3
  t9 := Tryz.underlying9
  a9 := Tryz.isAgg9
  z9 := Tryz.sizeOf9
  v9 := Tryz.zeroValue9
  t37 := Tryz.underlying110
  a37 := Tryz.isAgg110
  z37 := Tryz.sizeOf110
  v37 := Tryz.zeroValue110
  t70 := Tryz.underlying181
  a70 := Tryz.isAgg181
  z70 := Tryz.sizeOf181
  v70 := Tryz.zeroValue181
  t72 := Tryz.underlying183
  a72 := Tryz.isAgg183
  z72 := Tryz.sizeOf183
  v72 := Tryz.zeroValue183
  t127 := Tryz.underlying203
  a127 := Tryz.isAgg203
  z127 := Tryz.sizeOf203
  v127 := Tryz.zeroValue203 }
theorem Tryz.Builder_Extra_169 : Builder.Extra Tryz.prog Tryz.lays169_ren := {
  sizeBuilder := by kernel_rfl
  liesBuilder := by kernel_rfl
  t5 := Tryz.underlying5
  a5 := Tryz.isAgg5
  z5 := Tryz.sizeOf5
  v5 := Tryz.zeroValue5
  infoByte := by kernel_rfl
  cellsByte := by kernel_rfl
  sizeByte := by kernel_rfl
  neB5 := by decide }
open Go.RowKit in
theorem Tryz.Builder_String_any (B b : Nat) (l : List UInt8) (w : World) (h : Lib.IsBuilder 183 5 B b (Lib.byteCells l) w) (hBw : B ≤ w.heap.size) :
    Calls Tryz.prog 162 #[.pointer (some ⟨b, 0, none⟩)] w fun e w' => e = .returned (.string ⟨l.toArray⟩) ∧ Below B w w' := Any.Builder_String_any Tryz.lays169 Tryz.Builder_Extra_169 B b l w h hBw
def Tryz.lays160_ren : Go.Shelf.Ren := ⟨fun | 160 => 151 | 232 => 167 | 231 => 166 | 227 => 168 | 234 => 170 | 233 => 169 | 236 => 172 | 235 => 171 | 228 => 181 | 271 => 184 | 151 => 183 | 197 => 182 | 120 => 199 | 152 => 198 | 260 => 197 | 137 => 215 | 119 => 216 | 224 => 217 | 225 => 218 | 217 => 224 | 266 => 225 | n => n, fun | 9 => 9 | 4 => 4 | 3 => 3 | 5 => 5 | 117 => 193 | 116 => 192 | 0 => 0 | 124 => 196 | 21 => 21 | 105 => 206 | 46 => 169 | 119 => 239 | 139 => 242 | 138 => 241 | n => n, fun | 3 => 1 | 4 => 2 | n => n⟩
theorem Tryz.lays160 : Go.Proofs.Lays.n160 Tryz.prog Tryz.lays160_ren := {
  mixed := by kernel_rfl
  f119 := Tryz.func216.trans (congrArg some (by kernel_rfl))
  f120 := Tryz.func199.trans (congrArg some (by kernel_rfl))
  f137 := Tryz.func215.trans (congrArg some (by kernel_rfl))
  f151 := Tryz.func183.trans (congrArg some (by kernel_rfl))
  f152 := Tryz.func198.trans (congrArg some (by kernel_rfl))
  f160 := Tryz.func151.trans (congrArg some (by kernel_rfl))
  f197 := Tryz.func182.trans (congrArg some (by kernel_rfl))
  f217 := Tryz.func224.trans (congrArg some (by kernel_rfl))
  f224 := Tryz.func217.trans (congrArg some (by kernel_rfl))
  f225 := Tryz.func218.trans (congrArg some (by kernel_rfl))
  f227 := Tryz.func168.trans (congrArg some (by kernel_rfl))
  f228 := Tryz.func181.trans (congrArg some (by kernel_rfl))
  f231 := Tryz.func166.trans (congrArg some (by kernel_rfl))
  f232 := Tryz.func167.trans (congrArg some (by kernel_rfl))
  f233 := Tryz.func169.trans (congrArg some (by kernel_rfl))
  f234 := Tryz.func170.trans (congrArg some (by kernel_rfl))
  f235 := Tryz.func171.trans (congrArg some (by kernel_rfl))
  f236 := Tryz.func172.trans (congrArg some (by kernel_rfl))
  f260 := Tryz.func197.trans (congrArg some (by kernel_rfl))
  f266 := Tryz.func225.trans (congrArg some (by kernel_rfl))
  f271 := Tryz.func184.trans (congrArg some (by kernel_rfl))
  t0 := Tryz.underlying0
  a0 := Tryz.isAgg0
  z0 := Tryz.sizeOf0
  v0 := Tryz.zeroValue0
  t3 := Tryz.underlying3
  a3 := Tryz.isAgg3
  z3 := Tryz.sizeOf3
  v3 := Tryz.zeroValue3
  t4 := Tryz.underlying4
  a4 := Tryz.isAgg4
  z4 := Tryz.sizeOf4
  v4 := Tryz.zeroValue4
  t5 := Tryz.underlying5
  a5 := Tryz.isAgg5
  z5 := Tryz.sizeOf5
  v5 := Tryz.zeroValue5
  t9 := Tryz.underlying9
  a9 := Tryz.isAgg9
  z9 := Tryz.sizeOf9
  v9 := Tryz.zeroValue9
  t21 := Tryz.underlying21
  a21 := Tryz.isAgg21
  z21 := Tryz.sizeOf21
  v21 := Tryz.zeroValue21
  t46 := Tryz.underlying169
  a46 := Tryz.isAgg169
  z46 := Tryz.sizeOf169
  v46 := Tryz.zeroValue169
  t105 := Tryz.underlying206
  a105 := Tryz.isAgg206
  z105 := Tryz.sizeOf206
  v105 := Tryz.zeroValue206
  t116 := Tryz.underlying192
  a116 := Tryz.isAgg192
  z116 := Tryz.sizeOf192
  t117 := Tryz.underlying193
  a117 := Tryz.isAgg193
  z117 := Tryz.sizeOf193
  v117 := Tryz.zeroValue193
  t119 := Tryz.underlying239
  a119 := Tryz.isAgg239
  z119 := Tryz.sizeOf239
  t124 := Tryz.underlying196
  a124 := Tryz.isAgg196
  z124 := Tryz.sizeOf196
  v124 := Tryz.zeroValue196
  t138 := Tryz.underlying241
  a138 := Tryz.isAgg241
  z138 := Tryz.sizeOf241
  v138 := Tryz.zeroValue241
  t139 := Tryz.underlying242
  a139 := Tryz.isAgg242
  z139 := Tryz.sizeOf242
  v139 := Tryz.zeroValue242
  g3 := by kernel_rfl
  g4 := by kernel_rfl }
def Tryz.laysM171_ren : Go.Shelf.Ren := ⟨fun | 171 => 133 | 243 => 163 | 246 => 180 | 283 => 193 | 284 => 194 | 285 => 195 | 286 => 196 | 129 => 211 | 317 => 210 | 318 => 212 | 319 => 213 | 320 => 214 | 337 => 222 | 338 => 223 | n => n, fun | 3 => 3 | 9 => 9 | 2 => 2 | 4 => 4 | 171 => 219 | 0 => 0 | 53 => 171 | 37 => 110 | 5 => 5 | 173 => 222 | 212 => 236 | 51 => 230 | 20 => 20 | 213 => 237 | 46 => 169 | 232 => 254 | 233 => 255 | n => n, fun | 17 => 0 | 18 => 6 | 19 => 7 | n => n⟩
theorem Tryz.laysM171 : Go.Proofs.LaysM.n171 Tryz.prog Tryz.laysM171_ren := {
  mixed := by kernel_rfl
  f129 := Tryz.func211.trans (congrArg some (by kernel_rfl))
  f171 := Tryz.func133.trans (congrArg some (by kernel_rfl))
  f243 := Tryz.func163.trans (congrArg some (by kernel_rfl))
  f246 := Tryz.func180.trans (congrArg some (by kernel_rfl))
  f283 := Tryz.func193.trans (congrArg some (by kernel_rfl))
  f284 := Tryz.func194.trans (congrArg some (by kernel_rfl))
  f285 := Tryz.func195.trans (congrArg some (by kernel_rfl))
  f286 := Tryz.func196.trans (congrArg some (by kernel_rfl))
  f317 := Tryz.func210.trans (congrArg some (by kernel_rfl))
  f318 := Tryz.func212.trans (congrArg some (by kernel_rfl))
  f319 := Tryz.func213.trans (congrArg some (by kernel_rfl))
  f320 := Tryz.func214.trans (congrArg some (by kernel_rfl))
  f337 := Tryz.func222.trans (congrArg some (by kernel_rfl))
  f338 := Tryz.func223.trans (congrArg some (by kernel_rfl))
  t0 := Tryz.underlying0
  a0 := Tryz.isAgg0
  z0 := Tryz.sizeOf0
  v0 := Tryz.zeroValue0
  t2 := Tryz.underlying2
  a2 := Tryz.isAgg2
  z2 := Tryz.sizeOf2
  v2 := Tryz.zeroValue2
  t3 := Tryz.underlying3
  a3 := Tryz.isAgg3
  z3 := Tryz.sizeOf3
  v3 := Tryz.zeroValue3
  t4 := Tryz.underlying4
  a4 := Tryz.isAgg4
  z4 := Tryz.sizeOf4
  v4 := Tryz.zeroValue4
  t5 := Tryz.underlying5
  a5 := Tryz.isAgg5
  z5 := Tryz.sizeOf5
  v5 := Tryz.zeroValue5
  t9 := Tryz.underlying9
  a9 := Tryz.isAgg9
  z9 := Tryz.sizeOf9
  v9 := Tryz.zeroValue9
  t20 := Tryz.underlying20
  a20 := Tryz.isAgg20
  z20 := Tryz.sizeOf20
  v20 := Tryz.zeroValue20
  t37 := Tryz.underlying110
  a37 := Tryz.isAgg110
  z37 := Tryz.sizeOf110
  v37 := Tryz.zeroValue110
  t46 := Tryz.underlying169
  a46 := Tryz.isAgg169
  z46 := Tryz.sizeOf169
  v46 := Tryz.zeroValue169
  t51 := Tryz.underlying230
  a51 := Tryz.isAgg230
  z51 := Tryz.sizeOf230
  v51 := Tryz.zeroValue230
  t53 := Tryz.underlying171
  a53 := Tryz.isAgg171
  z53 := Tryz.sizeOf171
  v53 := Tryz.zeroValue171
  t171 := Tryz.underlying219
  a171 := Tryz.isAgg219
  z171 := Tryz.sizeOf219
  v171 := Tryz.zeroValue219
  t173 := Tryz.underlying222
  a173 := Tryz.isAgg222
  z173 := Tryz.sizeOf222
  v173 := Tryz.zeroValue222
  t212 := Tryz.underlying236
  a212 := Tryz.isAgg236
  z212 := Tryz.sizeOf236
  v212 := Tryz.zeroValue236
  t213 := Tryz.underlying237
  a213 := Tryz.isAgg237
  z213 := Tryz.sizeOf237
  t232 := Tryz.underlying254
  a232 := Tryz.isAgg254
  z232 := Tryz.sizeOf254
  v232 := Tryz.zeroValue254
  t233 := Tryz.underlying255
  a233 := Tryz.isAgg255
  z233 := Tryz.sizeOf255
  v233 := Tryz.zeroValue255
  g17 := by kernel_rfl
  g18 := by kernel_rfl
  g19 := by kernel_rfl
  i0 := by kernel_rfl
  i2 := by kernel_rfl
  i3 := by kernel_rfl
  i4 := by kernel_rfl
  i5 := by kernel_rfl
  i9 := by kernel_rfl
  i20 := by kernel_rfl
  i37 := by kernel_rfl
  i46 := by kernel_rfl
  i51 := by kernel_rfl
  i53 := by kernel_rfl
  i171 := by kernel_rfl
  i173 := by kernel_rfl
  i212 := by kernel_rfl
  i232 := by kernel_rfl
  i233 := by kernel_rfl
  m17 := by kernel_rfl
  m18 := by kernel_rfl
  m19 := by kernel_rfl }
open Go.RowKit Go.Sort Go.Lib in
theorem Tryz.strconv_Itoa (n : Int) (h0 : -9223372036854775808 ≤ n) (h1 : n ≤ 9223372036854775807) (w : World) (htab : Lib.TabIs Tryz.prog w "internal/strconv.uint64pow10" .u64 Lib.pow10Tab) :
    Calls Tryz.prog 133 #[.int .i64 n] w fun e w' => e = .returned (.string ⟨(Lib.itoa n).toArray⟩) ∧ ∃ k os, w' = grow (w.drewN k) os := Any.strconv_Itoa Tryz.laysM171 n h0 h1 w htab
def Tryz.lays212_ren : Go.Shelf.Ren := ⟨fun | 212 => 189 | 263 => 206 | 264 => 207 | n => n, fun | 46 => 169 | 51 => 230 | 146 => 231 | 53 => 171 | 148 => 233 | n => n, fun | n => n⟩
theorem Tryz.lays212 : Go.Proofs.Lays.n212 Tryz.prog Tryz.lays212_ren := {
  mixed := by kernel_rfl
  f212 := Tryz.func189.trans (congrArg some (by kernel_rfl))
  f263 := Tryz.func206.trans (congrArg some (by kernel_rfl))
  f264 := Tryz.func207.trans (congrArg some (by kernel_rfl))
  t46 := Tryz.underlying169
  a46 := Tryz.isAgg169
  z46 := Tryz.sizeOf169
  v46 := Tryz.zeroValue169
  t51 := Tryz.underlying230
  a51 := Tryz.isAgg230
  z51 := Tryz.sizeOf230
  v51 := Tryz.zeroValue230
  t53 := Tryz.underlying171
  a53 := Tryz.isAgg171
  z53 := Tryz.sizeOf171
  v53 := Tryz.zeroValue171
  t146 := Tryz.underlying231
  a146 := Tryz.isAgg231
  z146 := Tryz.sizeOf231
  v146 := Tryz.zeroValue231
  t148 := Tryz.underlying233
  a148 := Tryz.isAgg233
  z148 := Tryz.sizeOf233
  v148 := Tryz.zeroValue233 }
open Go.RowKit Go.Lib in
theorem Tryz.bits_Mul (x y : Nat) (hx : x < 18446744073709551616) (hy : y < 18446744073709551616) (w : World) :
    Calls Tryz.prog 189 #[.int .u64 x, .int .u64 y] w fun e w' => e = .returned (.tuple #[.int .u64 ((x * y / 18446744073709551616 : Nat) : Int), .int .u64 ((x * y % 18446744073709551616 : Nat) : Int)]) ∧ w' = w := Any.bits_Mul Tryz.lays212 x y hx hy w
def Tryz.laysNm217_ren : Go.Shelf.Ren := ⟨fun | 17 => 91 | n => n, fun | 24 => 26 | 9 => 9 | 3 => 3 | 4 => 4 | 0 => 0 | n => n, fun | n => n⟩
theorem Tryz.laysNm217 : Go.Proofs.Lays2.n17 Tryz.prog Tryz.laysNm217_ren := {
  mixed := by kernel_rfl
  f17 := Tryz.func91.trans (congrArg some (by kernel_rfl))
  t0 := Tryz.underlying0
  a0 := Tryz.isAgg0
  z0 := Tryz.sizeOf0
  v0 := Tryz.zeroValue0
  t3 := Tryz.underlying3
  a3 := Tryz.isAgg3
  z3 := Tryz.sizeOf3
  v3 := Tryz.zeroValue3
  t4 := Tryz.underlying4
  a4 := Tryz.isAgg4
  z4 := Tryz.sizeOf4
  v4 := Tryz.zeroValue4
  t9 := Tryz.underlying9
  a9 := Tryz.isAgg9
  z9 := Tryz.sizeOf9
  v9 := Tryz.zeroValue9
  t24 := Tryz.underlying26
  a24 := Tryz.isAgg26
  z24 := Tryz.sizeOf26
  v24 := Tryz.zeroValue26 }
open Go.RowKit Go.Lib Go.Sort in
theorem Tryz.slices_Reverse_string_empty (a : Option Addr) (cap : Nat) (w : World) :
    Calls Tryz.prog 91 #[.slice a 0 cap] w fun e w' => e = .returned (.tuple #[]) ∧ w' = w := Any.slices_Reverse_string_empty Tryz.laysNm217 a cap w
def Tryz.laysNm216_ren : Go.Shelf.Ren := ⟨fun | 16 => 135 | n => n, fun | 24 => 26 | 9 => 9 | 4 => 4 | n => n, fun | n => n⟩
theorem Tryz.laysNm216 : Go.Proofs.Lays2.n16 Tryz.prog Tryz.laysNm216_ren := {
  mixed := by kernel_rfl
  f16 := Tryz.func135.trans (congrArg some (by kernel_rfl))
  t4 := Tryz.underlying4
  a4 := Tryz.isAgg4
  z4 := Tryz.sizeOf4
  v4 := Tryz.zeroValue4
  t9 := Tryz.underlying9
  a9 := Tryz.isAgg9
  z9 := Tryz.sizeOf9
  v9 := Tryz.zeroValue9
  t24 := Tryz.underlying26
  a24 := Tryz.isAgg26
  z24 := Tryz.sizeOf26
  v24 := Tryz.zeroValue26
  i9 := by kernel_rfl }
open Go.RowKit Go.Lib in
theorem Tryz.slices_Clone_string (b off n c : Nat) (zs : List ByteArray) (w : World) (hz : n ≤ zs.length) (hbig : n * 16 ≤ 140737488355328) (hc : ∀ j, j < zs.length → w.cell? ⟨b, off + j, none⟩ = some (.string (zs.getD j ByteArray.empty))) :
    Calls Tryz.prog 135 #[.slice (some ⟨b, off, none⟩) n c] w fun e w' => ∃ v', e = .returned v' ∧ w'.ownsRow w.heap.size 9 1 v' n ((zs.take n).map (Value.string)) ∧ v' ≠ .slice none 0 0 ∧ Below w.heap.size w w' := Any.slices_Clone_string Tryz.laysNm216 b off n c zs w hz hbig hc
open Go.RowKit Go.Lib in
theorem Tryz.slices_Clone_string_nil (n c : Nat) (w : World) :
    Calls Tryz.prog 135 #[.slice none n c] w fun e w' => e = .returned (.slice none 0 0) ∧ w' = w := Any.slices_Clone_string_nil Tryz.laysNm216 n c w
open Go.RowKit Go.Lib in
theorem Tryz.slices_Clone_string_zero (a : Addr) (c : Nat) (w : World) :
    Calls Tryz.prog 135 #[.slice (some a) 0 c] w fun e w' => ∃ v', e = .returned v' ∧ w'.ownsRow w.heap.size 9 1 v' 0 [] ∧ v' ≠ .slice none 0 0 ∧ Below w.heap.size w w' := Any.slices_Clone_string_zero Tryz.laysNm216 a c w
open Go.RowKit Go.Lib Go.Sort in
theorem Tryz.slices_Reverse_string_cells (b off n c : Nat) (Sx : Nat → ByteArray) (w : World) (hbig : n ≤ 9223372036854775807) (hc : ∀ i, i < n → w.cell? ⟨b, off + i, none⟩ = some (.string (Sx i))) (hf : ∀ j, j < n → w.frozen? ⟨b, off + j, none⟩ = false) :
    Calls Tryz.prog 91 #[.slice (some ⟨b, off, none⟩) n c] w fun e w' => e = .returned (.tuple #[]) ∧ ∃ q, w' = (w.drewN q).setCells b off ((Lib.strsOf Sx n).reverse.map encStr) := Any.slices_Reverse_string_cells Tryz.laysNm217 b off n c Sx w hbig hc hf
end Go.Proofs
end
section
namespace Go.Proofs.YtddikdpbhjgihaaGreatDoor.X
open Go.RowKit
set_option linter.unusedVariables false
def deTab : List Int := [0, 1, 56, 2, 57, 49, 28, 3, 61, 58, 42, 50, 38, 29, 17, 4, 62, 47, 59, 36, 45, 43, 51, 22, 53, 39, 33, 30, 24, 18, 12, 5, 63, 55, 48, 27, 60, 41, 37, 16, 46, 35, 44, 21, 52, 32, 23, 11, 54, 26, 40, 15, 34, 20, 31, 10, 25, 14, 19, 9, 13, 8, 7, 6]
structure GL (w : World) : Prop where
  p10 : Lib.TabBelow Tryz.prog w.heap.size w "internal/strconv.uint64pow10" .u64 Lib.pow10Tab
  de : Lib.TabBelow Tryz.prog w.heap.size w "math/bits.deBruijn64tab" .u8 deTab
theorem GL.mk_ {w : World} (h1 : Lib.TabIs Tryz.prog w "internal/strconv.uint64pow10" .u64 Lib.pow10Tab) (h2 : Lib.TabIs Tryz.prog w "math/bits.deBruijn64tab" .u8 deTab) : GL w :=
  ⟨Lib.tabBelow_of_tabIs h1, Lib.tabBelow_of_tabIs h2⟩
theorem GL.below {w w1 : World} (h : GL w) (hb : Below w.heap.size w w1) : GL w1 :=
  GL.mk_ (h.p10 w1 hb) (h.de w1 hb)
end Go.Proofs.YtddikdpbhjgihaaGreatDoor.X
end
section
namespace ObsMath
abbrev Pn : Nat := 2147483647
abbrev F := Fin Pn
instance : NeZero Pn := ⟨by decide⟩
def ev : List F → F → F
  | [], _ => 0
  | c :: cs, x => c + x * ev cs x
def padd : List F → List F → List F
  | [], l => l
  | l, [] => l
  | a :: us, b :: bs => (a + b) :: padd us bs
theorem ev_padd (x : F) : ∀ a b : List F, ev (padd a b) x = ev a x + ev b x
  | [], l => by simp only [padd, ev]; grind
  | a :: us, [] => by simp only [padd, ev]; grind
  | a :: us, b :: bs => by simp only [padd, ev, ev_padd x us bs]; grind
theorem padd_length : ∀ a b : List F, (padd a b).length = max a.length b.length
  | [], l => by simp [padd]
  | a :: us, [] => by simp [padd]
  | a :: us, b :: bs => by simp only [padd, List.length_cons, padd_length us bs]; omega
def pscale (k : F) (l : List F) : List F := l.map (k * ·)
theorem ev_pscale (k x : F) : ∀ a : List F, ev (pscale k a) x = k * ev a x
  | [] => by simp only [pscale, List.map, ev]; grind
  | a :: us => by
    have := ev_pscale k x us
    simp only [pscale, List.map, ev] at this ⊢
    rw [this]; grind
def PF (n : Nat) (f : F → F) : Prop := ∃ cs : List F, cs.length ≤ n ∧ ∀ x, f x = ev cs x
theorem PF.add {n : Nat} {f g : F → F} (hf : PF n f) (hg : PF n g) : PF n (fun x => f x + g x) := by
  obtain ⟨a, ha, ea⟩ := hf
  obtain ⟨b, hb, eb⟩ := hg
  exact ⟨padd a b, by rw [padd_length]; omega, fun x => by simp only [ev_padd, ea, eb]⟩
theorem PF.scale {n : Nat} {f : F → F} (k : F) (hf : PF n f) : PF n (fun x => k * f x) := by
  obtain ⟨a, ha, ea⟩ := hf
  exact ⟨pscale k a, by simpa [pscale] using ha, fun x => by simp only [ev_pscale, ea]⟩
theorem PF.congr {n : Nat} {f g : F → F} (h : ∀ x, f x = g x) (hf : PF n f) : PF n g := by
  obtain ⟨a, ha, ea⟩ := hf
  exact ⟨a, ha, fun x => by rw [← h, ea]⟩
theorem PF.ev (cs : List F) : PF cs.length (ObsMath.ev cs) := ⟨cs, Nat.le_refl _, fun _ => rfl⟩
theorem PF.sub {n : Nat} {f g : F → F} (hf : PF n f) (hg : PF n g) : PF n (fun x => f x - g x) :=
  (hf.add (hg.scale (-1))).congr (fun x => by grind)
end ObsMath
end
section
namespace ObsMath
def eu : Nat → Int → Int → Int → Int → Int
  | 0, _, s, _, _ => s
  | k + 1, r, s, u, v => if 0 < u then eu k u v (r - r / u * u) (s - r / u * v) else s
theorem eu_more : ∀ (k m : Nat) (r s u v : Int), 0 ≤ u → u.toNat < k → u.toNat < m → eu k r s u v = eu m r s u v
  | 0, _, _, _, _, _, _, h, _ => absurd h (by omega)
  | _ + 1, 0, _, _, _, _, _, _, h => absurd h (by omega)
  | k + 1, m + 1, r, s, u, v, h0, h1, h2 => by
    simp only [eu]
    by_cases hu : 0 < u
    · rw [if_pos hu, if_pos hu]
      have e : r - r / u * u = r % u := by have := Int.emod_def r u; rw [Int.mul_comm] at this; omega
      have b1 := Int.emod_nonneg r (by omega : u ≠ 0)
      have b2 := Int.emod_lt_of_pos r hu
      exact eu_more k m _ _ _ _ (by omega) (by omega) (by omega)
    · rw [if_neg hu, if_neg hu]
def eus (r s u v : Int) : Int := eu (u.toNat + 1) r s u v
theorem eus_step (r s u v : Int) (h : 0 < u) : eus r s u v = eus u v (r - r / u * u) (s - r / u * v) := by
  have e : r - r / u * u = r % u := by have := Int.emod_def r u; rw [Int.mul_comm] at this; omega
  have b1 := Int.emod_nonneg r (by omega : u ≠ 0)
  have b2 := Int.emod_lt_of_pos r h
  show eu (u.toNat + 1) r s u v = _
  simp only [eu]
  rw [if_pos h]
  exact eu_more _ _ _ _ _ _ (by omega) (by omega) (by omega)
theorem eus_end (r s u v : Int) (h : ¬ 0 < u) : eus r s u v = s := by
  show eu (u.toNat + 1) r s u v = _
  simp only [eu]
  rw [if_neg h]
structure EuI (r s u v : Int) : Prop where
  r0 : 0 < r
  u0 : 0 ≤ u
  rP : r ≤ 2147483647
  uP : u < 2147483647
  s1 : -2147483647 ≤ s
  s2 : s ≤ 2147483647
  v1 : -2147483647 ≤ v
  v2 : v ≤ 2147483647
  sv : (s ≤ 0 ∧ 0 ≤ v ∧ v * r - s * u = 2147483647) ∨ (v ≤ 0 ∧ 0 ≤ s ∧ s * u - v * r = 2147483647)
theorem EuI.start (a : Int) (h0 : 0 ≤ a) (h1 : a < 2147483647) : EuI 2147483647 0 a 1 :=
  ⟨by omega, h0, by omega, h1, by omega, by omega, by omega, by omega, Or.inl ⟨by omega, by omega, by omega⟩⟩
theorem mul_le_of_one {x y : Int} (hx : 0 ≤ x) (hy : 1 ≤ y) : x ≤ x * y := by
  have := Int.mul_le_mul_of_nonneg_left hy hx; rw [Int.mul_one] at this; exact this
theorem EuI.step {r s u v : Int} (h : EuI r s u v) (hu : 0 < u) : EuI u v (r - r / u * u) (s - r / u * v)
    ∧ 0 ≤ r / u ∧ r / u ≤ r ∧ 0 ≤ r / u * u ∧ r / u * u ≤ r ∧ -2147483647 ≤ r / u * v ∧ r / u * v ≤ 2147483647 ∧ r - r / u * u < u := by
  obtain ⟨r0, u0, rP, uP, s1, s2, v1, v2, sv⟩ := h
  have e : r - r / u * u = r % u := by have := Int.emod_def r u; rw [Int.mul_comm] at this; omega
  have b1 := Int.emod_nonneg r (by omega : u ≠ 0)
  have b2 := Int.emod_lt_of_pos r hu
  have q0 : 0 ≤ r / u := Int.ediv_nonneg (by omega) (by omega)
  have q1 : r / u ≤ r / u * u := mul_le_of_one q0 hu
  generalize hq : r / u = q at *
  rcases sv with ⟨a1, a2, a3⟩ | ⟨a1, a2, a3⟩
  · have c1 : 0 ≤ q * v := Int.mul_nonneg q0 a2
    have c2 : v * u - (s - q * v) * u = v * u - s * u + q * v * u := by grind
    have c3 : v * (r - q * u) - (s - q * v) * u = v * r - s * u := by grind
    have c4 : 0 ≤ v * (r - q * u) := Int.mul_nonneg a2 (by omega)
    have c5 : (q * v - s) ≤ (q * v - s) * u := mul_le_of_one (by omega) hu
    have c6 : (q * v - s) * u = - ((s - q * v) * u) := by grind
    refine ⟨⟨hu, by omega, by omega, by omega, by omega, by omega, by omega, by omega, Or.inr ⟨by omega, by omega, by omega⟩⟩, q0, by omega, by omega, by omega, by omega, by omega, by omega⟩
  · have c1 : 0 ≤ q * (-v) := Int.mul_nonneg q0 (by omega)
    have c1' : q * (-v) = - (q * v) := by grind
    have c3 : (s - q * v) * u - v * (r - q * u) = s * u - v * r := by grind
    have c4 : 0 ≤ (-v) * (r - q * u) := Int.mul_nonneg (by omega) (by omega)
    have c4' : (-v) * (r - q * u) = - (v * (r - q * u)) := by grind
    have c5 : (s - q * v) ≤ (s - q * v) * u := mul_le_of_one (by omega) hu
    refine ⟨⟨hu, by omega, by omega, by omega, by omega, by omega, by omega, by omega, Or.inl ⟨by omega, by omega, by omega⟩⟩, q0, by omega, by omega, by omega, by omega, by omega, by omega⟩
def inv (a : Int) : Int := (eus 2147483647 0 a 1 % 2147483647 + 2147483647) % 2147483647
theorem inv_range (a : Int) : 0 ≤ inv a ∧ inv a < 2147483647 := by unfold inv; omega
end ObsMath
end
section
namespace ObsMath
def sub (a b : Int) : Int := (a - b + 2147483647) % 2147483647
theorem sub_range (a b : Int) : 0 ≤ sub a b ∧ sub a b < 2147483647 := by unfold sub; omega
def nv (X Y : Nat → Int) (x : Int) : Nat → Nat → Int
  | 0, i => Y i
  | w + 1, i => sub (sub x (X (i + (w + 1))) * nv X Y x w i % 2147483647) (sub x (X i) * nv X Y x w (i + 1) % 2147483647) * inv (sub (X i) (X (i + (w + 1)))) % 2147483647
structure Dst (X : Nat → Int) (n : Nat) : Prop where
  lo : ∀ i, i < n → 0 ≤ X i
  hi : ∀ i, i < n → X i < 2147483647
  inj : ∀ i j, i < n → j < n → X i = X j → i = j
theorem nv_range (X Y : Nat → Int) (x : Int) (hY : ∀ i, 0 ≤ Y i ∧ Y i < 2147483647) (w i : Nat) : 0 ≤ nv X Y x w i ∧ nv X Y x w i < 2147483647 := by
  cases w with
  | zero => exact hY i
  | succ w => simp only [nv]; omega
def evI : List Int → Int → Int
  | [], _ => 0
  | c :: cs, x => (evI cs x * x + c) % 2147483647
theorem evI_range (x : Int) (cs : List Int) : 0 ≤ evI cs x ∧ evI cs x < 2147483647 := by
  cases cs with
  | nil => simp only [evI]; omega
  | cons c cs => simp only [evI]; omega
end ObsMath
end
section
namespace Go.Proofs.YtddikdpbhjgihaaGreatDoor.X
open Go.RowKit Go.Proofs.YtddikdpbhjgihaaGreatDoorW.PrintWords Go.Proofs.YtddikdpbhjgihaaGreatDoorW.PrintLast Go.Proofs.YtddikdpbhjgihaaGreatDoorW.PrintMore
open ObsMath (sub inv)
set_option linter.unusedVariables false
set_option linter.unusedSimpArgs false
theorem w64 {n : Int} (h0 : -9223372036854775808 ≤ n) (h1 : n ≤ 9223372036854775807) : wrap64 n = n := by unfold wrap64; omega
theorem tm {a : Int} (b : Int) (h : 0 ≤ a) : Int.tmod a b = a % b := Int.tmod_eq_emod_of_nonneg h
theorem td {a : Int} (b : Int) (h : 0 ≤ a) : Int.tdiv a b = a / b := Int.tdiv_eq_ediv_of_nonneg h
theorem minus_eq {a b : Int} (ha : 0 ≤ a) (ha' : a < 2147483647) (hb : 0 ≤ b) (hb' : b < 2147483647) : field_minus.f a b = some (sub a b) := by
  unfold field_minus.f ObsMath.sub
  rw [w64 (n := a - b) (by omega) (by omega), w64 (by omega) (by omega), tm _ (by omega)]
theorem mul_range {a b : Int} (ha : 0 ≤ a) (ha' : a < 2147483647) (hb : 0 ≤ b) (hb' : b < 2147483647) : 0 ≤ a * b ∧ a * b ≤ 4611686009837453316 := by
  constructor
  · exact Int.mul_nonneg ha hb
  · have h1 : a * b ≤ 2147483646 * b := Int.mul_le_mul_of_nonneg_right (by omega) hb
    omega
theorem inverse_l0 : ∀ (k : Nat) (r s u v : Int), u.toNat < k → ObsMath.EuI r s u v → field_inverse.l0 k r s u v = some ((ObsMath.eus r s u v % 2147483647 + 2147483647) % 2147483647) := by
  intro k
  induction k with
  | zero => intro r s u v h; omega
  | succ k ih =>
    intro r s u v h hi
    simp only [field_inverse.l0]
    by_cases hu : 0 < u
    · have hs := hi.step hu
      obtain ⟨h1, h2, h3, h4, h5, h6, h7, h8⟩ := hs
      have r0 := hi.r0
      have rP := hi.rP
      have hv1 := h1.v1
      have hv2 := h1.v2
      have hu1 := h1.u0
      have hu2 := h1.uP
      rw [if_pos hu, if_neg (by omega), td _ (by omega), w64 (n := r / u) (by omega) (by omega), w64 (n := r / u * u) (by omega) (by omega), w64 (n := r / u * v) (by omega) (by omega),
        w64 (n := r - r / u * u) (by omega) (by omega), w64 (n := s - r / u * v) (by omega) (by omega), ih _ _ _ _ (by omega) h1, ObsMath.eus_step r s u v hu]
    · have s1 := hi.s1
      have s2 := hi.s2
      rw [if_neg hu, ObsMath.eus_end _ _ _ _ hu]
      have : Int.tmod s 2147483647 = s % 2147483647 ∨ Int.tmod s 2147483647 = s % 2147483647 - 2147483647 := by
        by_cases h0 : 0 ≤ s
        · left; exact tm _ h0
        · have h2 := Int.neg_tmod (-s) 2147483647
          rw [Int.neg_neg, tm (a := -s) _ (by omega)] at h2
          rw [h2]; omega
      rcases this with h | h
      · rw [h, w64 (n := s % 2147483647 + 2147483647) (by omega) (by omega), tm _ (by omega)]
      · rw [h, w64 (n := s % 2147483647 - 2147483647 + 2147483647) (by omega) (by omega), tm _ (by omega)]; congr 1; omega
theorem inverse_eq {a : Int} (h0 : 0 ≤ a) (h1 : a < 2147483647) : ∀ k, 2147483648 ≤ k → field_inverse.f k a = some (inv a) := by
  intro k hk
  exact inverse_l0 k _ _ _ _ (by omega) (ObsMath.EuI.start a h0 h1)
set_option maxHeartbeats 1000000 in
theorem interp_join (B2 B3 B4 : Nat) (ad : Addr) (n c : Nat) (x i k xa xb v0 v1 : Int) (w : World)
  (h2 : w.cell? ⟨B2, 0, none⟩ = some (.slice (some ad) n c)) (h3 : w.cell? ⟨B3, 0, none⟩ = some (.int .i64 x))
  (h4 : w.cell? ⟨B4, i.toNat, none⟩ = some (.int .i64 v0)) (h5 : w.cell? ⟨B4, (i + 1).toNat, none⟩ = some (.int .i64 v1))
  (hf : w.frozen? ⟨B4, i.toNat, none⟩ = false)
  (a0 : w.cell? (ad.add (i.toNat * 2)) = some (.int .i64 xa)) (b0 : w.cell? (ad.add (k.toNat * 2)) = some (.int .i64 xb))
  (hi0 : 0 ≤ i) (hik : i < k) (hk : k < n) (hl : n ≤ 16)
  (x0 : 0 ≤ x) (x1 : x < 2147483647) (xa0 : 0 ≤ xa) (xa1 : xa < 2147483647) (xb0 : 0 ≤ xb) (xb1 : xb < 2147483647)
  (v00 : 0 ≤ v0) (v01 : v0 < 2147483647) (v10 : 0 ≤ v1) (v11 : v1 < 2147483647) :
  Calls Tryz.prog 156 #[.int .i64 i, .int .i64 k, .pointer (some ⟨B2, 0, none⟩), .pointer (some ⟨B3, 0, none⟩), .pointer (some ⟨B4, 0, none⟩)] w
     fun e w' => e = .returned (.tuple #[]) ∧ ∃ n, w' = (w.drewN n).setCell ⟨B4, i.toNat, none⟩ (.int .i64 (sub (sub x xb * v0 % 2147483647) (sub x xa * v1 % 2147483647) * inv (sub xa xb) % 2147483647)) := by
  have i1 : i < (n : Int) := by omega
  have k0 : (0 : Int) ≤ k := by omega
  have i16 : i < 16 := by omega
  have i17 : i + 1 < 16 := by omega
  have M1 := Aside0.mk (minus_eq x0 x1 xb0 xb1)
  have M2 := Aside0.mk (minus_eq x0 x1 xa0 xa1)
  have s1 := ObsMath.sub_range x xb
  have s2 := ObsMath.sub_range x xa
  have s3 := ObsMath.sub_range xa xb
  have p1 := mul_range s1.1 s1.2 v00 v01
  have p2 := mul_range s2.1 s2.2 v10 v11
  have M3 := Aside0.mk (minus_eq (a := sub x xb * v0 % 2147483647) (b := sub x xa * v1 % 2147483647) (by omega) (by omega) (by omega) (by omega))
  have M4 := Aside0.mk (minus_eq xa0 xa1 xb0 xb1)
  have s4 := ObsMath.sub_range (sub x xb * v0 % 2147483647) (sub x xa * v1 % 2147483647)
  have V1 := Aside0.mk (inverse_eq s3.1 s3.2 2147483648 (Nat.le_refl _))
  have s5 := ObsMath.inv_range (sub xa xb)
  have p3 := mul_range s4.1 s4.2 s5.1 s5.2
  generalize sub x xb = S1 at *
  generalize sub x xa = S2 at *
  generalize sub xa xb = S3 at *
  generalize hS4 : sub (S1 * v0 % 2147483647) (S2 * v1 % 2147483647) = S4 at *
  generalize inv S3 = S5 at *
  clear hS4
  obtain ⟨s10, s11⟩ := s1
  obtain ⟨s20, s21⟩ := s2
  obtain ⟨s30, s31⟩ := s3
  obtain ⟨s40, s41⟩ := s4
  obtain ⟨s50, s51⟩ := s5
  obtain ⟨p10, p11⟩ := p1
  obtain ⟨p20, p21⟩ := p2
  obtain ⟨p30, p31⟩ := p3
  go_enter Tryz.func156, Tryz.ntmps156
  go_wp2
  go_quiet (fail)
  go_wp2
  go_quiet (first | (go_at_call 157; (with_reducible refine (field_minus.calls x xb _ _ M1.out).mono ?_); rintro e w' ⟨rfl, ⟨nd, rfl⟩⟩; (try first | exact ⟨rfl, _, World.drewN_drewN _ _ _⟩ | exact ⟨rfl, _, Eq.trans (World.drewN_drewN _ _ _) (congrArg (World.drewN _) (Nat.add_assoc _ _ _))⟩)) | (go_at_call 157; (with_reducible refine (field_minus.calls x xa _ _ M2.out).mono ?_); rintro e w' ⟨rfl, ⟨nd, rfl⟩⟩; (try first | exact ⟨rfl, _, World.drewN_drewN _ _ _⟩ | exact ⟨rfl, _, Eq.trans (World.drewN_drewN _ _ _) (congrArg (World.drewN _) (Nat.add_assoc _ _ _))⟩)))
  go_wp2_with (first | (go_at_call 157; (with_reducible refine (field_minus.calls (S1 * v0 % 2147483647) (S2 * v1 % 2147483647) _ _ M3.out).mono ?_); rintro e w' ⟨rfl, ⟨nd, rfl⟩⟩; (try first | exact ⟨rfl, _, World.drewN_drewN _ _ _⟩ | exact ⟨rfl, _, Eq.trans (World.drewN_drewN _ _ _) (congrArg (World.drewN _) (Nat.add_assoc _ _ _))⟩)) | (go_at_call 157; (with_reducible refine (field_minus.calls xa xb _ _ M4.out).mono ?_); rintro e w' ⟨rfl, ⟨nd, rfl⟩⟩; (try first | exact ⟨rfl, _, World.drewN_drewN _ _ _⟩ | exact ⟨rfl, _, Eq.trans (World.drewN_drewN _ _ _) (congrArg (World.drewN _) (Nat.add_assoc _ _ _))⟩)) | (go_at_call 158; (with_reducible refine (field_inverse.calls 2147483648 S3 _ _ V1.out).mono ?_); rintro e w' ⟨rfl, ⟨nd, rfl⟩⟩; (try first | exact ⟨rfl, _, World.drewN_drewN _ _ _⟩ | exact ⟨rfl, _, Eq.trans (World.drewN_drewN _ _ _) (congrArg (World.drewN _) (Nat.add_assoc _ _ _))⟩)))
  go_end0
  exact ⟨rfl, _, rfl⟩
end Go.Proofs.YtddikdpbhjgihaaGreatDoor.X
end
section
namespace ObsMap
open Go
def mlook : List (Int × Value) → Int → Option Value
  | [], _ => none
  | p :: m, k => if p.1 = k then some p.2 else mlook m k
def mput : List (Int × Value) → Int → Value → List (Int × Value)
  | [], k, v => [(k, v)]
  | p :: m, k, v => if p.1 = k then (k, v) :: m else p :: mput m k v
theorem mlook_mput (k2 k : Int) (v : Value) : ∀ m, mlook (mput m k v) k2 = if k2 = k then some v else mlook m k2
  | [] => by
    by_cases h : k2 = k
    · subst h; simp [mput, mlook]
    · have : k ≠ k2 := fun e => h e.symm
      simp [mput, mlook, h, this]
  | p :: m => by
    by_cases h1 : p.1 = k
    · by_cases h : k2 = k
      · subst h; simp [mput, mlook, h1]
      · have h2 : k ≠ k2 := fun e => h e.symm
        have h3 : p.1 ≠ k2 := fun e => h2 (h1.symm.trans e)
        simp only [mput, if_pos h1, mlook, if_neg h2, if_neg h3, if_neg h]
    · have ih := mlook_mput k2 k v m
      by_cases h : p.1 = k2
      · have : k2 ≠ k := fun e => h1 (h.trans e)
        simp [mput, mlook, h, this]
      · simp [mput, mlook, h1, h, ih]
theorem mput_none (k : Int) (v : Value) : ∀ m, mlook m k = none → mput m k v = m ++ [(k, v)]
  | [], _ => rfl
  | p :: m, h => by
    by_cases h1 : p.1 = k
    · simp [mlook, h1] at h
    · simp only [mlook, if_neg h1] at h
      simp only [mput, if_neg h1, mput_none k v m h, List.cons_append]
def IsMap (w : World) (b : Nat) (m : List (Int × Value)) : Prop :=
  ∃ es clock, w.heap[b]? = some (.map es clock) ∧ es.toList.map (fun e => (e.key, e.val)) = m.map (fun p => (Value.int .i64 p.1, p.2))
theorem findNow_mlook (k : Int) : ∀ (es : List MapEntry) (m : List (Int × Value)) (i : Nat), es.map (fun e => (e.key, e.val)) = m.map (fun p => (Value.int .i64 p.1, p.2)) →
    (mlook m k = none ∧ Instr.findNow (.int .i64) (.int .i64 k) es i = some none) ∨
    ∃ j e v, mlook m k = some v ∧ Instr.findNow (.int .i64) (.int .i64 k) es i = some (some (i + j, v)) ∧ es[j]? = some e ∧ e.key = .int .i64 k ∧
      ∀ v' : Value, ((es.modify j fun e => { e with key := .int .i64 k, val := v' }).map (fun e => (e.key, e.val)) = (mput m k v').map (fun p => (Value.int .i64 p.1, p.2)))
  | [], [], i, _ => .inl ⟨rfl, rfl⟩
  | [], _ :: _, _, h => by simp at h
  | _ :: _, [], _, h => by simp at h
  | e :: es, p :: m, i, h => by
    simp only [List.map_cons, List.cons.injEq, Prod.mk.injEq] at h
    obtain ⟨⟨h1, h2⟩, h3⟩ := h
    by_cases hk : p.1 = k
    · refine .inr ⟨0, e, p.2, by simp [mlook, hk], ?_, rfl, by rw [h1, hk], ?_⟩
      · simp [Instr.findNow, Instr.sameNow, h1, hk, h2]
      · intro v'; simp [mput, hk, h3]
    · have hk' : (k == p.1) = false := by simpa using fun e : k = p.1 => hk e.symm
      rcases findNow_mlook k es m (i + 1) h3 with ⟨a, b⟩ | ⟨j, e', v, a, b, c, d, f⟩
      · refine .inl ⟨by simp [mlook, hk, a], ?_⟩
        simp [Instr.findNow, Instr.sameNow, h1, hk', b]
      · refine .inr ⟨j + 1, e', v, by simp [mlook, hk, a], ?_, by simpa using c, d, ?_⟩
        · simp [Instr.findNow, Instr.sameNow, h1, hk', b]; omega
        · intro v'
          have := f v'
          simp [mput, hk, h1, h2, this]
theorem check_run {P : Program} {w : World} {kt : TypeId} (hk : P.underlying kt = some (.int .i64)) (k : Int) (c : Bool) : (Instr.checkKey c 10000 kt (.int .i64 k)).run P w = .ok () w :=
  MapKept.run_checkKey (k := .int .i64 k) hk (show IntKind.i64 = IntKind.i64 from rfl) c 9999
theorem lookup_run {P : Program} {w : World} {t kt et : TypeId} {b : Nat} {m : List (Int × Value)} (ht : P.underlying t = some (.map kt et)) (hk : P.underlying kt = some (.int .i64))
    {z : Value} (hz : (zeroValue et).run P w = .ok z w) (h : IsMap w b m) (k : Int) (c : Bool) :
    (Instr.lookup t (.map (some b)) (.int .i64 k) c).run P w = .ok (if c then .tuple #[(mlook m k).getD z, .bool (mlook m k).isSome] else (mlook m k).getD z) w := by
  obtain ⟨es, clock, hb, he⟩ := h
  rcases findNow_mlook k es.toList m 0 he with ⟨a, hf⟩ | ⟨j, e, v, a, hf, _⟩
  · have := MapKept.run_findKey (P := P) (w := w) hk hf
    simp [Instr.lookup, run_underlying ht, MapKept.run_getObj_map hb, check_run hk, this, hz, Result.andThen, a]
  · have := MapKept.run_findKey (P := P) (w := w) hk hf
    simp [Instr.lookup, run_underlying ht, MapKept.run_getObj_map hb, check_run hk, this, Result.andThen, a]
theorem update_run {P : Program} {w : World} {t kt et : TypeId} {b : Nat} {m : List (Int × Value)} (ht : P.underlying t = some (.map kt et)) (hk : P.underlying kt = some (.int .i64))
    (h : IsMap w b m) (k : Int) (v : Value) :
    ∃ w', (Instr.mapUpdate t (.map (some b)) (.int .i64 k) v).run P w = .ok () w' ∧ IsMap w' b (mput m k v) ∧ w.grownBy w' (some b) := by
  obtain ⟨es, clock, hb, he⟩ := h
  have grown : ∀ o : Obj, w.grownBy { w with heap := w.heap.setIfInBounds b o } (some b) := fun o =>
    ⟨rfl, rfl, rfl, by simp, fun i hi hne => (MapKept.heap_set hb).2 i (fun e => hne (by rw [e]))⟩
  rcases findNow_mlook k es.toList m 0 he with ⟨a, hf⟩ | ⟨j, e, v0, a, hf, hj, hek, hm⟩
  · have hr := MapKept.run_findKey (P := P) (w := w) hk hf
    refine ⟨{ w with heap := w.heap.setIfInBounds b (.map (es.push ⟨.int .i64 k, v, clock⟩) (clock + 1)) }, ?_, ⟨_, _, (MapKept.heap_set hb).1, ?_⟩, grown _⟩
    · simp [Instr.mapUpdate, run_underlying ht, MapKept.run_getObj_map hb, check_run hk, hr, MapKept.run_setObj_map _ hb, Result.andThen]
    · rw [Array.toList_push, List.map_append, he, mput_none k v m a, List.map_append]; rfl
  · have hr := MapKept.run_findKey (P := P) (w := w) hk hf
    have hj' : es[j]? = some e := by simpa using hj
    have hs : (Instr.keyThatStays (.int .i64 k) (.int .i64 k)).run P w = .ok (.int .i64 k) w := MapKept.run_keyThatStays (d := .int .i64) rfl
    refine ⟨{ w with heap := w.heap.setIfInBounds b (.map (es.modify j fun e => { e with key := .int .i64 k, val := v }) clock) }, ?_, ⟨_, _, (MapKept.heap_set hb).1, ?_⟩, grown _⟩
    · simp [Instr.mapUpdate, run_underlying ht, MapKept.run_getObj_map hb, check_run hk, hr, hj', hek, hs, MapKept.run_setObj_map _ hb, Result.andThen]
    · rw [Array.toList_modify]; exact hm v
theorem IsMap.made (w : World) : IsMap (w.alloc (.map #[] 0)) w.heap.size [] := ⟨#[], 0, by show (w.heap.push _)[w.heap.size]? = _; simp, rfl⟩
theorem IsMap.lt {w : World} {b : Nat} {m : List (Int × Value)} (h : IsMap w b m) : b < w.heap.size := by
  obtain ⟨_, _, hb, _⟩ := h
  exact (Array.getElem?_eq_some_iff.1 hb).1
theorem IsMap.kept {w w' : World} {b : Nat} {m : List (Int × Value)} {row : Option Nat} (h : IsMap w b m) (hg : w.grownBy w' row) (hne : some b ≠ row) : IsMap w' b m := by
  obtain ⟨es, c, hb, he⟩ := h
  have hlt := (Array.getElem?_eq_some_iff.1 hb).1
  exact ⟨es, c, (hg.block b hlt hne).trans hb, he⟩
theorem IsMap.drawn {w : World} {b : Nat} {m : List (Int × Value)} (h : IsMap w b m) (n : Nat) : IsMap (w.drewN n) b m := h
theorem IsMap.alloc {w : World} {b : Nat} {m : List (Int × Value)} (h : IsMap w b m) (o : Obj) : IsMap (w.alloc o) b m := h.kept (World.grownBy_alloc w o none) (by simp)
end ObsMap
end
