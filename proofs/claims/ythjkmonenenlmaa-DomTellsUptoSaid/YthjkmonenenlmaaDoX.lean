/-
  slices.Sort at rows of numbers: the library's contract, laid at this program.
-/
import Derived.Shelf.Sort.Plain
import Derived.Shelf.Slices.In.SortNone
import Derived.Test.YthjkmonenenlmaaProg
set_option linter.unusedSimpArgs false
set_option linter.unusedVariables false
namespace Go.Proofs
open Go.Shelf
def Try.lays189_ren : Go.Shelf.Ren := ⟨fun | 189 => 23 | 125 => 34 | 257 => 33 | 128 => 44 | 129 => 45 | 294 => 35 | 295 => 36 | 296 => 37 | 297 => 38 | 298 => 39 | 299 => 40 | 216 => 41 | 300 => 42 | 301 => 43 | 328 => 46 | 329 => 47 | 330 => 48 | 331 => 49 | 332 => 50 | 215 => 51 | 343 => 52 | n => n, fun | 28 => 27 | 3 => 3 | 46 => 51 | 0 => 0 | 51 => 62 | 53 => 64 | 4 => 4 | 183 => 54 | 182 => 53 | 131 => 59 | 5 => 5 | 9 => 9 | 218 => 65 | 222 => 69 | 228 => 72 | 229 => 73 | n => n, fun | n => n⟩
theorem Try.lays189 : Go.Proofs.Lays.n189 Try.prog Try.lays189_ren :=
  { mixed := by kernel_rfl,
    f125 := Try.func34.trans (congrArg some (by kernel_rfl)),
    f128 := Try.func44.trans (congrArg some (by kernel_rfl)),
    f129 := Try.func45.trans (congrArg some (by kernel_rfl)),
    f189 := Try.func23.trans (congrArg some (by kernel_rfl)),
    f215 := Try.func51.trans (congrArg some (by kernel_rfl)),
    f216 := Try.func41.trans (congrArg some (by kernel_rfl)),
    f257 := Try.func33.trans (congrArg some (by kernel_rfl)),
    f294 := Try.func35.trans (congrArg some (by kernel_rfl)),
    f295 := Try.func36.trans (congrArg some (by kernel_rfl)),
    f296 := Try.func37.trans (congrArg some (by kernel_rfl)),
    f297 := Try.func38.trans (congrArg some (by kernel_rfl)),
    f298 := Try.func39.trans (congrArg some (by kernel_rfl)),
    f299 := Try.func40.trans (congrArg some (by kernel_rfl)),
    f300 := Try.func42.trans (congrArg some (by kernel_rfl)),
    f301 := Try.func43.trans (congrArg some (by kernel_rfl)),
    f328 := Try.func46.trans (congrArg some (by kernel_rfl)),
    f329 := Try.func47.trans (congrArg some (by kernel_rfl)),
    f330 := Try.func48.trans (congrArg some (by kernel_rfl)),
    f331 := Try.func49.trans (congrArg some (by kernel_rfl)),
    f332 := Try.func50.trans (congrArg some (by kernel_rfl)),
    f343 := Try.func52.trans (congrArg some (by kernel_rfl)),
    t0 := Try.underlying0,
    a0 := Try.isAgg0,
    z0 := Try.sizeOf0,
    v0 := Try.zeroValue0,
    t3 := Try.underlying3,
    a3 := Try.isAgg3,
    z3 := Try.sizeOf3,
    v3 := Try.zeroValue3,
    t4 := Try.underlying4,
    a4 := Try.isAgg4,
    z4 := Try.sizeOf4,
    v4 := Try.zeroValue4,
    t5 := Try.underlying5,
    a5 := Try.isAgg5,
    z5 := Try.sizeOf5,
    v5 := Try.zeroValue5,
    t9 := Try.underlying9,
    a9 := Try.isAgg9,
    z9 := Try.sizeOf9,
    v9 := Try.zeroValue9,
    t28 := Try.underlying27,
    a28 := Try.isAgg27,
    z28 := Try.sizeOf27,
    v28 := Try.zeroValue27,
    t46 := Try.underlying51,
    a46 := Try.isAgg51,
    z46 := Try.sizeOf51,
    v46 := Try.zeroValue51,
    t51 := Try.underlying62,
    a51 := Try.isAgg62,
    z51 := Try.sizeOf62,
    v51 := Try.zeroValue62,
    t53 := Try.underlying64,
    a53 := Try.isAgg64,
    z53 := Try.sizeOf64,
    v53 := Try.zeroValue64,
    t131 := Try.underlying59,
    a131 := Try.isAgg59,
    z131 := Try.sizeOf59,
    v131 := Try.zeroValue59,
    t182 := Try.underlying53,
    a182 := Try.isAgg53,
    z182 := Try.sizeOf53,
    v182 := Try.zeroValue53,
    t183 := Try.underlying54,
    a183 := Try.isAgg54,
    z183 := Try.sizeOf54,
    v183 := Try.zeroValue54,
    t218 := Try.underlying65,
    a218 := Try.isAgg65,
    z218 := Try.sizeOf65,
    v218 := Try.zeroValue65,
    t222 := Try.underlying69,
    a222 := Try.isAgg69,
    z222 := Try.sizeOf69,
    v222 := Try.zeroValue69,
    t228 := Try.underlying72,
    a228 := Try.isAgg72,
    z228 := Try.sizeOf72,
    v228 := Try.zeroValue72,
    t229 := Try.underlying73,
    a229 := Try.isAgg73,
    z229 := Try.sizeOf73,
    v229 := Try.zeroValue73 }
open Go.Sort Go.RowKit in
theorem Try.slices_Sort_int (blk off cap : Nat) (zs : List Int) (w : World) (hH : Holds (Value.int .i64) w blk off zs.toArray) (hblk : blk < w.heap.size) (hsz : zs.length < 4611686018427387904) :
    Calls Try.prog 23 #[.slice (some ⟨blk, off, none⟩) zs.length cap] w fun e w' =>
      e = .returned (.tuple #[]) ∧ ∃ n os, w' = grow (putRow (Value.int .i64) (Sort.ahead w n) blk off (zs.mergeSort fun x y => decide (x ≤ y)).toArray) os := Any.slices_Sort_int Try.lays189 blk off cap zs w hH hblk hsz
open Go.RowKit Go.Sort in
theorem Try.slices_Sort_int_none (p : Option Addr) (cap : Nat) (w : World) :
    Calls Try.prog 23 #[.slice p 0 cap] w fun e w' => e = .returned (.tuple #[]) ∧ w' = w := Any.slices_Sort_int_none Try.lays189 p cap w
end Go.Proofs
