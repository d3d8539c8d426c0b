/-
  DERIVED: THE SHELF's CONTRACTS AT THIS DUMP, IN PLAIN WORDS (tools/lay-plain.mjs out of 'YtlemfpipiooiaaaGreatDoorShelf.lean', which tools/lay-shelf.mjs wrote): THE SAME DECLARATIONS UNDER THE SAME NAMES: 'import', 'namespace', 'open', 'def', 'theorem' AND NOTHING ELSE: no command of the shelf's: FOR A HAND-IN. Each laying: the table of numbers ('.._ren') and one theorem, a field a fact of the dump's own or the kernel's comparison; each contract: ONE APPLICATION.
-/
import Derived.Shelf.Sort.Plain
import Derived.Shelf.Slices.In.SortNone
import Derived.Shelf.Strings.Prefix
import Derived.Shelf.Small.Strs
import Derived.Test.YtlemfpipiooiaaaGreatDoorChecked
namespace Go.Proofs
open Go.Shelf
def Tryz.lays137_ren : Go.Shelf.Ren := ⟨fun | 137 => 125 | 217 => 212 | 266 => 282 | n => n, fun | 9 => 9 | 5 => 5 | 3 => 3 | n => n, fun | n => n⟩
theorem Tryz.lays137 : Go.Proofs.Lays.n137 Tryz.prog Tryz.lays137_ren := {
  mixed := by kernel_rfl
  f137 := Tryz.func125.trans (congrArg some (by kernel_rfl))
  f217 := Tryz.func212.trans (congrArg some (by kernel_rfl))
  f266 := Tryz.func282.trans (congrArg some (by kernel_rfl))
  t3 := Tryz.underlying3
  a3 := Tryz.isAgg3
  z3 := Tryz.sizeOf3
  v3 := Tryz.zeroValue3
  t5 := Tryz.underlying5
  a5 := Tryz.isAgg5
  z5 := Tryz.sizeOf5
  v5 := Tryz.zeroValue5
  t9 := Tryz.underlying9
  a9 := Tryz.isAgg9
  z9 := Tryz.sizeOf9
  v9 := Tryz.zeroValue9 }
open Go.RowKit in
/-- strings.IndexByte: "IndexByte returns the index of the first instance of c in s, or -1 if c is not present in s.": IT RETURNS 'Lib.indexByte s c'; the world is as it was. (LAID: no walk: one application.) -/
theorem Tryz.strings_IndexByte (s : ByteArray) (c : Int) (w : World) :
    Calls Tryz.prog 125 #[.string s, .int .u8 c] w fun e w' => e = .returned (.int .i64 (Lib.indexByte s.data.toList c.toNat.toUInt8)) ∧ w' = w := Any.strings_IndexByte Tryz.lays137 s c w
def Tryz.lays190_ren : Go.Shelf.Ren := ⟨fun | 190 => 225 | 125 => 287 | 258 => 286 | 128 => 350 | 129 => 269 | 302 => 341 | 303 => 342 | 304 => 343 | 305 => 344 | 306 => 345 | 307 => 346 | 308 => 347 | 309 => 348 | 310 => 349 | 333 => 367 | 329 => 368 | 330 => 369 | 334 => 370 | 335 => 371 | 336 => 84 | 344 => 381 | n => n, fun | 31 => 67 | 9 => 9 | 3 => 3 | 46 => 225 | 0 => 0 | 51 => 219 | 53 => 42 | 4 => 4 | 183 => 457 | 182 => 456 | 131 => 461 | 5 => 5 | 218 => 494 | 222 => 252 | 228 => 509 | 229 => 242 | n => n, fun | n => n⟩
theorem Tryz.lays190 : Go.Proofs.Lays.n190 Tryz.prog Tryz.lays190_ren := {
  mixed := by kernel_rfl
  f125 := Tryz.func287.trans (congrArg some (by kernel_rfl))
  f128 := Tryz.func350.trans (congrArg some (by kernel_rfl))
  f129 := Tryz.func269.trans (congrArg some (by kernel_rfl))
  f190 := Tryz.func225.trans (congrArg some (by kernel_rfl))
  f258 := Tryz.func286.trans (congrArg some (by kernel_rfl))
  f302 := Tryz.func341.trans (congrArg some (by kernel_rfl))
  f303 := Tryz.func342.trans (congrArg some (by kernel_rfl))
  f304 := Tryz.func343.trans (congrArg some (by kernel_rfl))
  f305 := Tryz.func344.trans (congrArg some (by kernel_rfl))
  f306 := Tryz.func345.trans (congrArg some (by kernel_rfl))
  f307 := Tryz.func346.trans (congrArg some (by kernel_rfl))
  f308 := Tryz.func347.trans (congrArg some (by kernel_rfl))
  f309 := Tryz.func348.trans (congrArg some (by kernel_rfl))
  f310 := Tryz.func349.trans (congrArg some (by kernel_rfl))
  f329 := Tryz.func368.trans (congrArg some (by kernel_rfl))
  f330 := Tryz.func369.trans (congrArg some (by kernel_rfl))
  f333 := Tryz.func367.trans (congrArg some (by kernel_rfl))
  f334 := Tryz.func370.trans (congrArg some (by kernel_rfl))
  f335 := Tryz.func371.trans (congrArg some (by kernel_rfl))
  f336 := Tryz.func84.trans (congrArg some (by kernel_rfl))
  f344 := Tryz.func381.trans (congrArg some (by kernel_rfl))
  t0 := Tryz.underlying0
  a0 := Tryz.isAgg0
  z0 := Tryz.sizeOf0
  v0 := Tryz.zeroValue0
  t3 := Tryz.underlying3
  a3 := Tryz.isAgg3
  z3 := Tryz.sizeOf3
  v3 := Tryz.zeroValue3
  t4 := Tryz.underlying4
  a4 := Tryz.isAgg4
  z4 := Tryz.sizeOf4
  v4 := Tryz.zeroValue4
  t5 := Tryz.underlying5
  a5 := Tryz.isAgg5
  z5 := Tryz.sizeOf5
  v5 := Tryz.zeroValue5
  t9 := Tryz.underlying9
  a9 := Tryz.isAgg9
  z9 := Tryz.sizeOf9
  v9 := Tryz.zeroValue9
  t31 := Tryz.underlying67
  a31 := Tryz.isAgg67
  z31 := Tryz.sizeOf67
  v31 := Tryz.zeroValue67
  t46 := Tryz.underlying225
  a46 := Tryz.isAgg225
  z46 := Tryz.sizeOf225
  v46 := Tryz.zeroValue225
  t51 := Tryz.underlying219
  a51 := Tryz.isAgg219
  z51 := Tryz.sizeOf219
  v51 := Tryz.zeroValue219
  t53 := Tryz.underlying42
  a53 := Tryz.isAgg42
  z53 := Tryz.sizeOf42
  v53 := Tryz.zeroValue42
  t131 := Tryz.underlying461
  a131 := Tryz.isAgg461
  z131 := Tryz.sizeOf461
  v131 := Tryz.zeroValue461
  t182 := Tryz.underlying456
  a182 := Tryz.isAgg456
  z182 := Tryz.sizeOf456
  v182 := Tryz.zeroValue456
  t183 := Tryz.underlying457
  a183 := Tryz.isAgg457
  z183 := Tryz.sizeOf457
  v183 := Tryz.zeroValue457
  t218 := Tryz.underlying494
  a218 := Tryz.isAgg494
  z218 := Tryz.sizeOf494
  v218 := Tryz.zeroValue494
  t222 := Tryz.underlying252
  a222 := Tryz.isAgg252
  z222 := Tryz.sizeOf252
  v222 := Tryz.zeroValue252
  t228 := Tryz.underlying509
  a228 := Tryz.isAgg509
  z228 := Tryz.sizeOf509
  v228 := Tryz.zeroValue509
  t229 := Tryz.underlying242
  a229 := Tryz.isAgg242
  z229 := Tryz.sizeOf242
  v229 := Tryz.zeroValue242 }
def Tryz.lays99_ren : Go.Shelf.Ren := ⟨fun | 99 => 80 | 206 => 147 | n => n, fun | 9 => 9 | 4 => 4 | 3 => 3 | n => n, fun | n => n⟩
theorem Tryz.lays99 : Go.Proofs.Lays.n99 Tryz.prog Tryz.lays99_ren := {
  mixed := by kernel_rfl
  f99 := Tryz.func80.trans (congrArg some (by kernel_rfl))
  f206 := Tryz.func147.trans (congrArg some (by kernel_rfl))
  t3 := Tryz.underlying3
  a3 := Tryz.isAgg3
  z3 := Tryz.sizeOf3
  v3 := Tryz.zeroValue3
  t4 := Tryz.underlying4
  a4 := Tryz.isAgg4
  z4 := Tryz.sizeOf4
  v4 := Tryz.zeroValue4
  t9 := Tryz.underlying9
  a9 := Tryz.isAgg9
  z9 := Tryz.sizeOf9
  v9 := Tryz.zeroValue9 }
end Go.Proofs
