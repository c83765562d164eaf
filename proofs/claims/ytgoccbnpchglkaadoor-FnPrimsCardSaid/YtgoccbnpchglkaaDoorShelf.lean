/- Proved: that the named library functions of this program read as those over which the library's contracts are proved: their numbers and the comparison of each body. Conditions: none. -/
import Derived.Ground.NamesProg
import Derived.Shelf.Strings.SlTrimAscii
import Derived.Shelf.Small.Strs
import Derived.Test.YtgoccbnpchglkaaDoorProg
namespace Go.Proofs
open Go.Shelf
def Tryd.lays160_ren : Go.Shelf.Ren := ⟨fun | 160 => 139 | 232 => 165 | 231 => 164 | 227 => 166 | 234 => 168 | 233 => 167 | 236 => 170 | 235 => 169 | 228 => 175 | 271 => 178 | 151 => 177 | 197 => 176 | 120 => 181 | 152 => 180 | 260 => 179 | 137 => 182 | 119 => 183 | 224 => 184 | 225 => 185 | 217 => 186 | 266 => 187 | n => n, fun | 9 => 9 | 4 => 4 | 3 => 3 | 5 => 5 | 117 => 198 | 116 => 197 | 0 => 0 | 124 => 201 | 21 => 21 | 105 => 204 | 46 => 209 | 119 => 208 | 139 => 212 | 138 => 211 | n => n, fun | 3 => 0 | 4 => 1 | n => n⟩
theorem Tryd.lays160 : Go.Proofs.Lays.n160 Tryd.prog Tryd.lays160_ren := {
  mixed := by kernel_rfl
  f119 := Tryd.func183.trans (congrArg some (by kernel_rfl))
  f120 := Tryd.func181.trans (congrArg some (by kernel_rfl))
  f137 := Tryd.func182.trans (congrArg some (by kernel_rfl))
  f151 := Tryd.func177.trans (congrArg some (by kernel_rfl))
  f152 := Tryd.func180.trans (congrArg some (by kernel_rfl))
  f160 := Tryd.func139.trans (congrArg some (by kernel_rfl))
  f197 := Tryd.func176.trans (congrArg some (by kernel_rfl))
  f217 := Tryd.func186.trans (congrArg some (by kernel_rfl))
  f224 := Tryd.func184.trans (congrArg some (by kernel_rfl))
  f225 := Tryd.func185.trans (congrArg some (by kernel_rfl))
  f227 := Tryd.func166.trans (congrArg some (by kernel_rfl))
  f228 := Tryd.func175.trans (congrArg some (by kernel_rfl))
  f231 := Tryd.func164.trans (congrArg some (by kernel_rfl))
  f232 := Tryd.func165.trans (congrArg some (by kernel_rfl))
  f233 := Tryd.func167.trans (congrArg some (by kernel_rfl))
  f234 := Tryd.func168.trans (congrArg some (by kernel_rfl))
  f235 := Tryd.func169.trans (congrArg some (by kernel_rfl))
  f236 := Tryd.func170.trans (congrArg some (by kernel_rfl))
  f260 := Tryd.func179.trans (congrArg some (by kernel_rfl))
  f266 := Tryd.func187.trans (congrArg some (by kernel_rfl))
  f271 := Tryd.func178.trans (congrArg some (by kernel_rfl))
  t0 := Tryd.underlying0
  a0 := Tryd.isAgg0
  z0 := Tryd.sizeOf0
  v0 := Tryd.zeroValue0
  t3 := Tryd.underlying3
  a3 := Tryd.isAgg3
  z3 := Tryd.sizeOf3
  v3 := Tryd.zeroValue3
  t4 := Tryd.underlying4
  a4 := Tryd.isAgg4
  z4 := Tryd.sizeOf4
  v4 := Tryd.zeroValue4
  t5 := Tryd.underlying5
  a5 := Tryd.isAgg5
  z5 := Tryd.sizeOf5
  v5 := Tryd.zeroValue5
  t9 := Tryd.underlying9
  a9 := Tryd.isAgg9
  z9 := Tryd.sizeOf9
  v9 := Tryd.zeroValue9
  t21 := Tryd.underlying21
  a21 := Tryd.isAgg21
  z21 := Tryd.sizeOf21
  v21 := Tryd.zeroValue21
  t46 := Tryd.underlying209
  a46 := Tryd.isAgg209
  z46 := Tryd.sizeOf209
  v46 := Tryd.zeroValue209
  t105 := Tryd.underlying204
  a105 := Tryd.isAgg204
  z105 := Tryd.sizeOf204
  v105 := Tryd.zeroValue204
  t116 := Tryd.underlying197
  a116 := Tryd.isAgg197
  z116 := Tryd.sizeOf197
  t117 := Tryd.underlying198
  a117 := Tryd.isAgg198
  z117 := Tryd.sizeOf198
  v117 := Tryd.zeroValue198
  t119 := Tryd.underlying208
  a119 := Tryd.isAgg208
  z119 := Tryd.sizeOf208
  t124 := Tryd.underlying201
  a124 := Tryd.isAgg201
  z124 := Tryd.sizeOf201
  v124 := Tryd.zeroValue201
  t138 := Tryd.underlying211
  a138 := Tryd.isAgg211
  z138 := Tryd.sizeOf211
  v138 := Tryd.zeroValue211
  t139 := Tryd.underlying212
  a139 := Tryd.isAgg212
  z139 := Tryd.sizeOf212
  v139 := Tryd.zeroValue212
  g3 := by kernel_rfl
  g4 := by kernel_rfl }
def Tryd.lays137_ren : Go.Shelf.Ren := ⟨fun | 137 => 182 | 217 => 186 | 266 => 187 | n => n, fun | 9 => 9 | 5 => 5 | 3 => 3 | n => n, fun | n => n⟩
theorem Tryd.lays137 : Go.Proofs.Lays.n137 Tryd.prog Tryd.lays137_ren := {
  mixed := by kernel_rfl
  f137 := Tryd.func182.trans (congrArg some (by kernel_rfl))
  f217 := Tryd.func186.trans (congrArg some (by kernel_rfl))
  f266 := Tryd.func187.trans (congrArg some (by kernel_rfl))
  t3 := Tryd.underlying3
  a3 := Tryd.isAgg3
  z3 := Tryd.sizeOf3
  v3 := Tryd.zeroValue3
  t5 := Tryd.underlying5
  a5 := Tryd.isAgg5
  z5 := Tryd.sizeOf5
  v5 := Tryd.zeroValue5
  t9 := Tryd.underlying9
  a9 := Tryd.isAgg9
  z9 := Tryd.sizeOf9
  v9 := Tryd.zeroValue9 }
end Go.Proofs
