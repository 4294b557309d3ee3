/-
  DERIVED: THE SHELF's CONTRACTS AT THIS DUMP, IN PLAIN WORDS (tools/lay-plain.mjs out of 'TryzShelf.lean', which tools/lay-shelf.mjs wrote): THE SAME DECLARATIONS UNDER THE SAME NAMES: 'import', 'namespace', 'open', 'def', 'theorem' AND NOTHING ELSE: no command of the shelf's: FOR A HAND-IN. Each laying: the table of numbers ('.._ren') and one theorem, a field a fact of the dump's own or the kernel's comparison; each contract: ONE APPLICATION.
-/
import Derived.Shelf.Sort.Plain
import Derived.Shelf.Slices.In.SortNone
import Derived.Test.YtfceckiklfkjkaaGreatProg
namespace Go.Proofs
open Go.Shelf
def Tryz.lays189_ren : Go.Shelf.Ren := ⟨fun | 189 => 187 | 125 => 237 | 257 => 236 | 128 => 270 | 129 => 271 | 294 => 261 | 295 => 262 | 296 => 263 | 297 => 264 | 298 => 265 | 299 => 266 | 216 => 267 | 300 => 268 | 301 => 269 | 328 => 284 | 329 => 285 | 330 => 286 | 331 => 287 | 332 => 288 | 215 => 289 | 343 => 305 | n => n, fun | 28 => 52 | 3 => 3 | 46 => 176 | 0 => 0 | 51 => 23 | 53 => 282 | 4 => 4 | 183 => 320 | 182 => 319 | 131 => 244 | 5 => 5 | 9 => 9 | 218 => 342 | 222 => 346 | 228 => 353 | 229 => 76 | n => n, fun | n => n⟩
theorem Tryz.lays189 : Go.Proofs.Lays.n189 Tryz.prog Tryz.lays189_ren := {
  mixed := by kernel_rfl
  f125 := Tryz.func237.trans (congrArg some (by kernel_rfl))
  f128 := Tryz.func270.trans (congrArg some (by kernel_rfl))
  f129 := Tryz.func271.trans (congrArg some (by kernel_rfl))
  f189 := Tryz.func187.trans (congrArg some (by kernel_rfl))
  f215 := Tryz.func289.trans (congrArg some (by kernel_rfl))
  f216 := Tryz.func267.trans (congrArg some (by kernel_rfl))
  f257 := Tryz.func236.trans (congrArg some (by kernel_rfl))
  f294 := Tryz.func261.trans (congrArg some (by kernel_rfl))
  f295 := Tryz.func262.trans (congrArg some (by kernel_rfl))
  f296 := Tryz.func263.trans (congrArg some (by kernel_rfl))
  f297 := Tryz.func264.trans (congrArg some (by kernel_rfl))
  f298 := Tryz.func265.trans (congrArg some (by kernel_rfl))
  f299 := Tryz.func266.trans (congrArg some (by kernel_rfl))
  f300 := Tryz.func268.trans (congrArg some (by kernel_rfl))
  f301 := Tryz.func269.trans (congrArg some (by kernel_rfl))
  f328 := Tryz.func284.trans (congrArg some (by kernel_rfl))
  f329 := Tryz.func285.trans (congrArg some (by kernel_rfl))
  f330 := Tryz.func286.trans (congrArg some (by kernel_rfl))
  f331 := Tryz.func287.trans (congrArg some (by kernel_rfl))
  f332 := Tryz.func288.trans (congrArg some (by kernel_rfl))
  f343 := Tryz.func305.trans (congrArg some (by kernel_rfl))
  t0 := Tryz.underlying0
  a0 := Tryz.isAgg0
  z0 := Tryz.sizeOf0
  v0 := Tryz.zeroValue0
  t3 := Tryz.underlying3
  a3 := Tryz.isAgg3
  z3 := Tryz.sizeOf3
  v3 := Tryz.zeroValue3
  t4 := Tryz.underlying4
  a4 := Tryz.isAgg4
  z4 := Tryz.sizeOf4
  v4 := Tryz.zeroValue4
  t5 := Tryz.underlying5
  a5 := Tryz.isAgg5
  z5 := Tryz.sizeOf5
  v5 := Tryz.zeroValue5
  t9 := Tryz.underlying9
  a9 := Tryz.isAgg9
  z9 := Tryz.sizeOf9
  v9 := Tryz.zeroValue9
  t28 := Tryz.underlying52
  a28 := Tryz.isAgg52
  z28 := Tryz.sizeOf52
  v28 := Tryz.zeroValue52
  t46 := Tryz.underlying176
  a46 := Tryz.isAgg176
  z46 := Tryz.sizeOf176
  v46 := Tryz.zeroValue176
  t51 := Tryz.underlying23
  a51 := Tryz.isAgg23
  z51 := Tryz.sizeOf23
  v51 := Tryz.zeroValue23
  t53 := Tryz.underlying282
  a53 := Tryz.isAgg282
  z53 := Tryz.sizeOf282
  v53 := Tryz.zeroValue282
  t131 := Tryz.underlying244
  a131 := Tryz.isAgg244
  z131 := Tryz.sizeOf244
  v131 := Tryz.zeroValue244
  t182 := Tryz.underlying319
  a182 := Tryz.isAgg319
  z182 := Tryz.sizeOf319
  v182 := Tryz.zeroValue319
  t183 := Tryz.underlying320
  a183 := Tryz.isAgg320
  z183 := Tryz.sizeOf320
  v183 := Tryz.zeroValue320
  t218 := Tryz.underlying342
  a218 := Tryz.isAgg342
  z218 := Tryz.sizeOf342
  v218 := Tryz.zeroValue342
  t222 := Tryz.underlying346
  a222 := Tryz.isAgg346
  z222 := Tryz.sizeOf346
  v222 := Tryz.zeroValue346
  t228 := Tryz.underlying353
  a228 := Tryz.isAgg353
  z228 := Tryz.sizeOf353
  v228 := Tryz.zeroValue353
  t229 := Tryz.underlying76
  a229 := Tryz.isAgg76
  z229 := Tryz.sizeOf76
  v229 := Tryz.zeroValue76 }
open Go.Sort Go.RowKit in
theorem Tryz.slices_Sort_int (blk off cap : Nat) (zs : List Int) (w : World) (hH : Holds (Value.int .i64) w blk off zs.toArray) (hblk : blk < w.heap.size) (hsz : zs.length < 4611686018427387904) :
    Calls Tryz.prog 187 #[.slice (some ⟨blk, off, none⟩) zs.length cap] w fun e w' =>
      e = .returned (.tuple #[]) ∧ ∃ n os, w' = grow (putRow (Value.int .i64) (Sort.ahead w n) blk off (zs.mergeSort fun x y => decide (x ≤ y)).toArray) os := Any.slices_Sort_int Tryz.lays189 blk off cap zs w hH hblk hsz
end Go.Proofs
