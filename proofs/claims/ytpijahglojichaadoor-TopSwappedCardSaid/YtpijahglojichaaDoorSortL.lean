/-
  DERIVED: THE SHELF's CONTRACTS AT THIS DUMP, IN PLAIN WORDS (tools/lay-plain.mjs out of 'YtpijahglojichaaDoorShelfX.lean', which tools/lay-shelf.mjs wrote): THE SAME DECLARATIONS UNDER THE SAME NAMES: 'import', 'namespace', 'open', 'def', 'theorem' AND NOTHING ELSE: no command of the shelf's: FOR A HAND-IN. Each laying: the table of numbers ('.._ren') and one theorem, a field a fact of the dump's own or the kernel's comparison; each contract: ONE APPLICATION.
-/
import Derived.Shelf.Sort.Plain
import Derived.Shelf.Slices.In.SortNone
import Derived.Ground.Names2Prog
import Derived.Test.YtpijahglojichaaDoorProg
namespace Go.Proofs
open Go.Shelf
def Tryd.lays189_ren : Go.Shelf.Ren := ⟨fun | 189 => 101 | 125 => 109 | 257 => 108 | 128 => 120 | 129 => 121 | 294 => 111 | 295 => 112 | 296 => 113 | 297 => 114 | 298 => 115 | 299 => 116 | 216 => 117 | 300 => 118 | 301 => 119 | 328 => 122 | 329 => 123 | 330 => 124 | 331 => 125 | 332 => 126 | 215 => 110 | 343 => 127 | n => n, fun | 28 => 25 | 3 => 3 | 46 => 103 | 0 => 0 | 51 => 135 | 53 => 137 | 4 => 4 | 183 => 158 | 182 => 157 | 131 => 162 | 5 => 5 | 9 => 9 | 218 => 164 | 222 => 168 | 228 => 170 | 229 => 73 | n => n, fun | n => n⟩
theorem Tryd.lays189 : Go.Proofs.Lays.n189 Tryd.prog Tryd.lays189_ren := {
  mixed := by kernel_rfl
  f125 := Tryd.func109.trans (congrArg some (by kernel_rfl))
  f128 := Tryd.func120.trans (congrArg some (by kernel_rfl))
  f129 := Tryd.func121.trans (congrArg some (by kernel_rfl))
  f189 := Tryd.func101.trans (congrArg some (by kernel_rfl))
  f215 := Tryd.func110.trans (congrArg some (by kernel_rfl))
  f216 := Tryd.func117.trans (congrArg some (by kernel_rfl))
  f257 := Tryd.func108.trans (congrArg some (by kernel_rfl))
  f294 := Tryd.func111.trans (congrArg some (by kernel_rfl))
  f295 := Tryd.func112.trans (congrArg some (by kernel_rfl))
  f296 := Tryd.func113.trans (congrArg some (by kernel_rfl))
  f297 := Tryd.func114.trans (congrArg some (by kernel_rfl))
  f298 := Tryd.func115.trans (congrArg some (by kernel_rfl))
  f299 := Tryd.func116.trans (congrArg some (by kernel_rfl))
  f300 := Tryd.func118.trans (congrArg some (by kernel_rfl))
  f301 := Tryd.func119.trans (congrArg some (by kernel_rfl))
  f328 := Tryd.func122.trans (congrArg some (by kernel_rfl))
  f329 := Tryd.func123.trans (congrArg some (by kernel_rfl))
  f330 := Tryd.func124.trans (congrArg some (by kernel_rfl))
  f331 := Tryd.func125.trans (congrArg some (by kernel_rfl))
  f332 := Tryd.func126.trans (congrArg some (by kernel_rfl))
  f343 := Tryd.func127.trans (congrArg some (by kernel_rfl))
  t0 := Tryd.underlying0
  a0 := Tryd.isAgg0
  z0 := Tryd.sizeOf0
  v0 := Tryd.zeroValue0
  t3 := Tryd.underlying3
  a3 := Tryd.isAgg3
  z3 := Tryd.sizeOf3
  v3 := Tryd.zeroValue3
  t4 := Tryd.underlying4
  a4 := Tryd.isAgg4
  z4 := Tryd.sizeOf4
  v4 := Tryd.zeroValue4
  t5 := Tryd.underlying5
  a5 := Tryd.isAgg5
  z5 := Tryd.sizeOf5
  v5 := Tryd.zeroValue5
  t9 := Tryd.underlying9
  a9 := Tryd.isAgg9
  z9 := Tryd.sizeOf9
  v9 := Tryd.zeroValue9
  t28 := Tryd.underlying25
  a28 := Tryd.isAgg25
  z28 := Tryd.sizeOf25
  v28 := Tryd.zeroValue25
  t46 := Tryd.underlying103
  a46 := Tryd.isAgg103
  z46 := Tryd.sizeOf103
  v46 := Tryd.zeroValue103
  t51 := Tryd.underlying135
  a51 := Tryd.isAgg135
  z51 := Tryd.sizeOf135
  v51 := Tryd.zeroValue135
  t53 := Tryd.underlying137
  a53 := Tryd.isAgg137
  z53 := Tryd.sizeOf137
  v53 := Tryd.zeroValue137
  t131 := Tryd.underlying162
  a131 := Tryd.isAgg162
  z131 := Tryd.sizeOf162
  v131 := Tryd.zeroValue162
  t182 := Tryd.underlying157
  a182 := Tryd.isAgg157
  z182 := Tryd.sizeOf157
  v182 := Tryd.zeroValue157
  t183 := Tryd.underlying158
  a183 := Tryd.isAgg158
  z183 := Tryd.sizeOf158
  v183 := Tryd.zeroValue158
  t218 := Tryd.underlying164
  a218 := Tryd.isAgg164
  z218 := Tryd.sizeOf164
  v218 := Tryd.zeroValue164
  t222 := Tryd.underlying168
  a222 := Tryd.isAgg168
  z222 := Tryd.sizeOf168
  v222 := Tryd.zeroValue168
  t228 := Tryd.underlying170
  a228 := Tryd.isAgg170
  z228 := Tryd.sizeOf170
  v228 := Tryd.zeroValue170
  t229 := Tryd.underlying73
  a229 := Tryd.isAgg73
  z229 := Tryd.sizeOf73
  v229 := Tryd.zeroValue73 }
end Go.Proofs
