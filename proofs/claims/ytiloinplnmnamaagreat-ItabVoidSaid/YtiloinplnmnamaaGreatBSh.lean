/-
  DERIVED: THE SHELF's CONTRACTS AT THIS DUMP, IN PLAIN WORDS (tools/lay-plain.mjs out of 'TryzShelf.lean', which tools/lay-shelf.mjs wrote): THE SAME DECLARATIONS UNDER THE SAME NAMES: 'import', 'namespace', 'open', 'def', 'theorem' AND NOTHING ELSE: no command of the shelf's: FOR A HAND-IN. Each laying: the table of numbers ('.._ren') and one theorem, a field a fact of the dump's own or the kernel's comparison; each contract: ONE APPLICATION.
-/
import Derived.Shelf.Sort.Plain
import Derived.Ground.NamesProg
import Derived.Ground.Names2Prog
import Derived.Shelf.Slices.Delete
import Derived.Shelf.Spec.SlicesInsert
import Derived.Shelf.Spec.SlicesInsertGrow
import Derived.Test.YtiloinplnmnamaaGreatProg
namespace Go.Proofs
open Go.Shelf
def Tryz.lays189_ren : Go.Shelf.Ren := ⟨fun | 189 => 312 | 125 => 380 | 257 => 379 | 128 => 415 | 129 => 416 | 294 => 406 | 295 => 407 | 296 => 408 | 297 => 409 | 298 => 410 | 299 => 411 | 216 => 412 | 300 => 413 | 301 => 414 | 328 => 425 | 329 => 426 | 330 => 427 | 331 => 428 | 332 => 429 | 215 => 430 | 343 => 432 | n => n, fun | 28 => 34 | 3 => 3 | 46 => 349 | 0 => 0 | 51 => 22 | 53 => 189 | 4 => 4 | 183 => 448 | 182 => 447 | 131 => 437 | 5 => 5 | 9 => 9 | 218 => 457 | 222 => 461 | 228 => 463 | 229 => 39 | n => n, fun | n => n⟩
theorem Tryz.lays189 : Go.Proofs.Lays.n189 Tryz.prog Tryz.lays189_ren := {
  mixed := by kernel_rfl
  f125 := Tryz.func380.trans (congrArg some (by kernel_rfl))
  f128 := Tryz.func415.trans (congrArg some (by kernel_rfl))
  f129 := Tryz.func416.trans (congrArg some (by kernel_rfl))
  f189 := Tryz.func312.trans (congrArg some (by kernel_rfl))
  f215 := Tryz.func430.trans (congrArg some (by kernel_rfl))
  f216 := Tryz.func412.trans (congrArg some (by kernel_rfl))
  f257 := Tryz.func379.trans (congrArg some (by kernel_rfl))
  f294 := Tryz.func406.trans (congrArg some (by kernel_rfl))
  f295 := Tryz.func407.trans (congrArg some (by kernel_rfl))
  f296 := Tryz.func408.trans (congrArg some (by kernel_rfl))
  f297 := Tryz.func409.trans (congrArg some (by kernel_rfl))
  f298 := Tryz.func410.trans (congrArg some (by kernel_rfl))
  f299 := Tryz.func411.trans (congrArg some (by kernel_rfl))
  f300 := Tryz.func413.trans (congrArg some (by kernel_rfl))
  f301 := Tryz.func414.trans (congrArg some (by kernel_rfl))
  f328 := Tryz.func425.trans (congrArg some (by kernel_rfl))
  f329 := Tryz.func426.trans (congrArg some (by kernel_rfl))
  f330 := Tryz.func427.trans (congrArg some (by kernel_rfl))
  f331 := Tryz.func428.trans (congrArg some (by kernel_rfl))
  f332 := Tryz.func429.trans (congrArg some (by kernel_rfl))
  f343 := Tryz.func432.trans (congrArg some (by kernel_rfl))
  t0 := Tryz.underlying0
  a0 := Tryz.isAgg0
  z0 := Tryz.sizeOf0
  v0 := Tryz.zeroValue0
  t3 := Tryz.underlying3
  a3 := Tryz.isAgg3
  z3 := Tryz.sizeOf3
  v3 := Tryz.zeroValue3
  t4 := Tryz.underlying4
  a4 := Tryz.isAgg4
  z4 := Tryz.sizeOf4
  v4 := Tryz.zeroValue4
  t5 := Tryz.underlying5
  a5 := Tryz.isAgg5
  z5 := Tryz.sizeOf5
  v5 := Tryz.zeroValue5
  t9 := Tryz.underlying9
  a9 := Tryz.isAgg9
  z9 := Tryz.sizeOf9
  v9 := Tryz.zeroValue9
  t28 := Tryz.underlying34
  a28 := Tryz.isAgg34
  z28 := Tryz.sizeOf34
  v28 := Tryz.zeroValue34
  t46 := Tryz.underlying349
  a46 := Tryz.isAgg349
  z46 := Tryz.sizeOf349
  v46 := Tryz.zeroValue349
  t51 := Tryz.underlying22
  a51 := Tryz.isAgg22
  z51 := Tryz.sizeOf22
  v51 := Tryz.zeroValue22
  t53 := Tryz.underlying189
  a53 := Tryz.isAgg189
  z53 := Tryz.sizeOf189
  v53 := Tryz.zeroValue189
  t131 := Tryz.underlying437
  a131 := Tryz.isAgg437
  z131 := Tryz.sizeOf437
  v131 := Tryz.zeroValue437
  t182 := Tryz.underlying447
  a182 := Tryz.isAgg447
  z182 := Tryz.sizeOf447
  v182 := Tryz.zeroValue447
  t183 := Tryz.underlying448
  a183 := Tryz.isAgg448
  z183 := Tryz.sizeOf448
  v183 := Tryz.zeroValue448
  t218 := Tryz.underlying457
  a218 := Tryz.isAgg457
  z218 := Tryz.sizeOf457
  v218 := Tryz.zeroValue457
  t222 := Tryz.underlying461
  a222 := Tryz.isAgg461
  z222 := Tryz.sizeOf461
  v222 := Tryz.zeroValue461
  t228 := Tryz.underlying463
  a228 := Tryz.isAgg463
  z228 := Tryz.sizeOf463
  v228 := Tryz.zeroValue463
  t229 := Tryz.underlying39
  a229 := Tryz.isAgg39
  z229 := Tryz.sizeOf39
  v229 := Tryz.zeroValue39 }
def Tryz.laysNm223_ren : Go.Shelf.Ren := ⟨fun | 23 => 373 | n => n, fun | 22 => 34 | 3 => 3 | 4 => 4 | 0 => 0 | n => n, fun | n => n⟩
theorem Tryz.laysNm223 : Go.Proofs.Lays2.n23 Tryz.prog Tryz.laysNm223_ren := {
  mixed := by kernel_rfl
  f23 := Tryz.func373.trans (congrArg some (by kernel_rfl))
  t0 := Tryz.underlying0
  a0 := Tryz.isAgg0
  z0 := Tryz.sizeOf0
  v0 := Tryz.zeroValue0
  t3 := Tryz.underlying3
  a3 := Tryz.isAgg3
  z3 := Tryz.sizeOf3
  v3 := Tryz.zeroValue3
  t4 := Tryz.underlying4
  a4 := Tryz.isAgg4
  z4 := Tryz.sizeOf4
  v4 := Tryz.zeroValue4
  t22 := Tryz.underlying34
  a22 := Tryz.isAgg34
  z22 := Tryz.sizeOf34
  v22 := Tryz.zeroValue34
  i3 := by kernel_rfl }
def Tryz.laysNm221_ren : Go.Shelf.Ren := ⟨fun | 21 => 375 | 27 => 404 | 28 => 405 | 35 => 424 | 39 => 431 | n => n, fun | 22 => 34 | 3 => 3 | 4 => 4 | 0 => 0 | n => n, fun | n => n⟩
theorem Tryz.laysNm221 : Go.Proofs.Lays2.n21 Tryz.prog Tryz.laysNm221_ren := {
  mixed := by kernel_rfl
  f21 := Tryz.func375.trans (congrArg some (by kernel_rfl))
  f27 := Tryz.func404.trans (congrArg some (by kernel_rfl))
  f28 := Tryz.func405.trans (congrArg some (by kernel_rfl))
  f35 := Tryz.func424.trans (congrArg some (by kernel_rfl))
  f39 := Tryz.func431.trans (congrArg some (by kernel_rfl))
  t0 := Tryz.underlying0
  a0 := Tryz.isAgg0
  z0 := Tryz.sizeOf0
  v0 := Tryz.zeroValue0
  t3 := Tryz.underlying3
  a3 := Tryz.isAgg3
  z3 := Tryz.sizeOf3
  v3 := Tryz.zeroValue3
  t4 := Tryz.underlying4
  a4 := Tryz.isAgg4
  z4 := Tryz.sizeOf4
  v4 := Tryz.zeroValue4
  t22 := Tryz.underlying34
  a22 := Tryz.isAgg34
  z22 := Tryz.sizeOf34
  v22 := Tryz.zeroValue34
  i3 := by kernel_rfl }
end Go.Proofs
