/-
  DERIVED: THE SHELF's CONTRACTS AT THIS DUMP, IN PLAIN WORDS (tools/lay-plain.mjs out of 'YtcnnmnmeingcmaaGreatDoorRShelf.lean', which tools/lay-shelf.mjs wrote): THE SAME DECLARATIONS UNDER THE SAME NAMES: 'import', 'namespace', 'open', 'def', 'theorem' AND NOTHING ELSE: no command of the shelf's: FOR A HAND-IN. Each laying: the table of numbers ('.._ren') and one theorem, a field a fact of the dump's own or the kernel's comparison; each contract: ONE APPLICATION.
-/
import Derived.Shelf.Sort.Plain
import Derived.Shelf.Slices.In.SortNone
import Derived.Shelf.Strings.Prefix
import Derived.Test.YtcnnmnmeingcmaaGreatDoorRChecked
namespace Go.Proofs
open Go.Shelf
def Tryz.lays190_ren : Go.Shelf.Ren := ⟨fun | 190 => 103 | 125 => 164 | 258 => 163 | 128 => 232 | 129 => 233 | 302 => 223 | 303 => 224 | 304 => 225 | 305 => 226 | 306 => 227 | 307 => 228 | 308 => 229 | 309 => 230 | 310 => 231 | 333 => 279 | 329 => 280 | 330 => 281 | 334 => 282 | 335 => 283 | 336 => 284 | 344 => 306 | n => n, fun | 31 => 47 | 9 => 9 | 3 => 3 | 46 => 215 | 0 => 0 | 51 => 209 | 53 => 99 | 4 => 4 | 183 => 337 | 182 => 336 | 131 => 341 | 5 => 5 | 218 => 392 | 222 => 74 | 228 => 430 | 229 => 108 | n => n, fun | n => n⟩
theorem Tryz.lays190 : Go.Proofs.Lays.n190 Tryz.prog Tryz.lays190_ren := {
  mixed := by kernel_rfl
  f125 := Tryz.func164.trans (congrArg some (by kernel_rfl))
  f128 := Tryz.func232.trans (congrArg some (by kernel_rfl))
  f129 := Tryz.func233.trans (congrArg some (by kernel_rfl))
  f190 := Tryz.func103.trans (congrArg some (by kernel_rfl))
  f258 := Tryz.func163.trans (congrArg some (by kernel_rfl))
  f302 := Tryz.func223.trans (congrArg some (by kernel_rfl))
  f303 := Tryz.func224.trans (congrArg some (by kernel_rfl))
  f304 := Tryz.func225.trans (congrArg some (by kernel_rfl))
  f305 := Tryz.func226.trans (congrArg some (by kernel_rfl))
  f306 := Tryz.func227.trans (congrArg some (by kernel_rfl))
  f307 := Tryz.func228.trans (congrArg some (by kernel_rfl))
  f308 := Tryz.func229.trans (congrArg some (by kernel_rfl))
  f309 := Tryz.func230.trans (congrArg some (by kernel_rfl))
  f310 := Tryz.func231.trans (congrArg some (by kernel_rfl))
  f329 := Tryz.func280.trans (congrArg some (by kernel_rfl))
  f330 := Tryz.func281.trans (congrArg some (by kernel_rfl))
  f333 := Tryz.func279.trans (congrArg some (by kernel_rfl))
  f334 := Tryz.func282.trans (congrArg some (by kernel_rfl))
  f335 := Tryz.func283.trans (congrArg some (by kernel_rfl))
  f336 := Tryz.func284.trans (congrArg some (by kernel_rfl))
  f344 := Tryz.func306.trans (congrArg some (by kernel_rfl))
  t0 := Tryz.underlying0
  a0 := Tryz.isAgg0
  z0 := Tryz.sizeOf0
  v0 := Tryz.zeroValue0
  t3 := Tryz.underlying3
  a3 := Tryz.isAgg3
  z3 := Tryz.sizeOf3
  v3 := Tryz.zeroValue3
  t4 := Tryz.underlying4
  a4 := Tryz.isAgg4
  z4 := Tryz.sizeOf4
  v4 := Tryz.zeroValue4
  t5 := Tryz.underlying5
  a5 := Tryz.isAgg5
  z5 := Tryz.sizeOf5
  v5 := Tryz.zeroValue5
  t9 := Tryz.underlying9
  a9 := Tryz.isAgg9
  z9 := Tryz.sizeOf9
  v9 := Tryz.zeroValue9
  t31 := Tryz.underlying47
  a31 := Tryz.isAgg47
  z31 := Tryz.sizeOf47
  v31 := Tryz.zeroValue47
  t46 := Tryz.underlying215
  a46 := Tryz.isAgg215
  z46 := Tryz.sizeOf215
  v46 := Tryz.zeroValue215
  t51 := Tryz.underlying209
  a51 := Tryz.isAgg209
  z51 := Tryz.sizeOf209
  v51 := Tryz.zeroValue209
  t53 := Tryz.underlying99
  a53 := Tryz.isAgg99
  z53 := Tryz.sizeOf99
  v53 := Tryz.zeroValue99
  t131 := Tryz.underlying341
  a131 := Tryz.isAgg341
  z131 := Tryz.sizeOf341
  v131 := Tryz.zeroValue341
  t182 := Tryz.underlying336
  a182 := Tryz.isAgg336
  z182 := Tryz.sizeOf336
  v182 := Tryz.zeroValue336
  t183 := Tryz.underlying337
  a183 := Tryz.isAgg337
  z183 := Tryz.sizeOf337
  v183 := Tryz.zeroValue337
  t218 := Tryz.underlying392
  a218 := Tryz.isAgg392
  z218 := Tryz.sizeOf392
  v218 := Tryz.zeroValue392
  t222 := Tryz.underlying74
  a222 := Tryz.isAgg74
  z222 := Tryz.sizeOf74
  v222 := Tryz.zeroValue74
  t228 := Tryz.underlying430
  a228 := Tryz.isAgg430
  z228 := Tryz.sizeOf430
  v228 := Tryz.zeroValue430
  t229 := Tryz.underlying108
  a229 := Tryz.isAgg108
  z229 := Tryz.sizeOf108
  v229 := Tryz.zeroValue108 }
def Tryz.lays99_ren : Go.Shelf.Ren := ⟨fun | 99 => 36 | 206 => 60 | n => n, fun | 9 => 9 | 4 => 4 | 3 => 3 | n => n, fun | n => n⟩
theorem Tryz.lays99 : Go.Proofs.Lays.n99 Tryz.prog Tryz.lays99_ren := {
  mixed := by kernel_rfl
  f99 := Tryz.func36.trans (congrArg some (by kernel_rfl))
  f206 := Tryz.func60.trans (congrArg some (by kernel_rfl))
  t3 := Tryz.underlying3
  a3 := Tryz.isAgg3
  z3 := Tryz.sizeOf3
  v3 := Tryz.zeroValue3
  t4 := Tryz.underlying4
  a4 := Tryz.isAgg4
  z4 := Tryz.sizeOf4
  v4 := Tryz.zeroValue4
  t9 := Tryz.underlying9
  a9 := Tryz.isAgg9
  z9 := Tryz.sizeOf9
  v9 := Tryz.zeroValue9 }
end Go.Proofs
