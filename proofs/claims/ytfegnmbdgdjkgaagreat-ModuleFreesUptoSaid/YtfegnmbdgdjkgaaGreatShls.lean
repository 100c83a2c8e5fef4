/- The shelf's contracts at this dump: sorting strings. -/
import Derived.Test.YtfegnmbdgdjkgaaGreatShlf
import Derived.Shelf.Sort.Plain
import Derived.Shelf.Slices.In.SortNone
namespace Go.Proofs
open Go.Shelf
def Tryz.lays190_ren : Go.Shelf.Ren := ⟨fun | 190 => 13 | 125 => 26 | 258 => 25 | 128 => 58 | 129 => 59 | 302 => 49 | 303 => 50 | 304 => 51 | 305 => 52 | 306 => 53 | 307 => 54 | 308 => 55 | 309 => 56 | 310 => 57 | 333 => 73 | 329 => 74 | 330 => 75 | 334 => 76 | 335 => 77 | 336 => 78 | 344 => 87 | n => n, fun | 31 => 38 | 9 => 9 | 3 => 3 | 46 => 76 | 0 => 0 | 51 => 105 | 53 => 107 | 4 => 4 | 183 => 97 | 182 => 96 | 131 => 102 | 5 => 5 | 218 => 119 | 222 => 123 | 228 => 131 | 229 => 42 | n => n, fun | n => n⟩
theorem Tryz.lays190 : Go.Proofs.Lays.n190 Tryz.prog Tryz.lays190_ren := {
  mixed := by kernel_rfl
  f125 := Tryz.func26.trans (congrArg some (by kernel_rfl))
  f128 := Tryz.func58.trans (congrArg some (by kernel_rfl))
  f129 := Tryz.func59.trans (congrArg some (by kernel_rfl))
  f190 := Tryz.func13.trans (congrArg some (by kernel_rfl))
  f258 := Tryz.func25.trans (congrArg some (by kernel_rfl))
  f302 := Tryz.func49.trans (congrArg some (by kernel_rfl))
  f303 := Tryz.func50.trans (congrArg some (by kernel_rfl))
  f304 := Tryz.func51.trans (congrArg some (by kernel_rfl))
  f305 := Tryz.func52.trans (congrArg some (by kernel_rfl))
  f306 := Tryz.func53.trans (congrArg some (by kernel_rfl))
  f307 := Tryz.func54.trans (congrArg some (by kernel_rfl))
  f308 := Tryz.func55.trans (congrArg some (by kernel_rfl))
  f309 := Tryz.func56.trans (congrArg some (by kernel_rfl))
  f310 := Tryz.func57.trans (congrArg some (by kernel_rfl))
  f329 := Tryz.func74.trans (congrArg some (by kernel_rfl))
  f330 := Tryz.func75.trans (congrArg some (by kernel_rfl))
  f333 := Tryz.func73.trans (congrArg some (by kernel_rfl))
  f334 := Tryz.func76.trans (congrArg some (by kernel_rfl))
  f335 := Tryz.func77.trans (congrArg some (by kernel_rfl))
  f336 := Tryz.func78.trans (congrArg some (by kernel_rfl))
  f344 := Tryz.func87.trans (congrArg some (by kernel_rfl))
  t0 := Tryz.underlying0
  a0 := Tryz.isAgg0
  z0 := Tryz.sizeOf0
  v0 := Tryz.zeroValue0
  t3 := Tryz.underlying3
  a3 := Tryz.isAgg3
  z3 := Tryz.sizeOf3
  v3 := Tryz.zeroValue3
  t4 := Tryz.underlying4
  a4 := Tryz.isAgg4
  z4 := Tryz.sizeOf4
  v4 := Tryz.zeroValue4
  t5 := Tryz.underlying5
  a5 := Tryz.isAgg5
  z5 := Tryz.sizeOf5
  v5 := Tryz.zeroValue5
  t9 := Tryz.underlying9
  a9 := Tryz.isAgg9
  z9 := Tryz.sizeOf9
  v9 := Tryz.zeroValue9
  t31 := Tryz.underlying38
  a31 := Tryz.isAgg38
  z31 := Tryz.sizeOf38
  v31 := Tryz.zeroValue38
  t46 := Tryz.underlying76
  a46 := Tryz.isAgg76
  z46 := Tryz.sizeOf76
  v46 := Tryz.zeroValue76
  t51 := Tryz.underlying105
  a51 := Tryz.isAgg105
  z51 := Tryz.sizeOf105
  v51 := Tryz.zeroValue105
  t53 := Tryz.underlying107
  a53 := Tryz.isAgg107
  z53 := Tryz.sizeOf107
  v53 := Tryz.zeroValue107
  t131 := Tryz.underlying102
  a131 := Tryz.isAgg102
  z131 := Tryz.sizeOf102
  v131 := Tryz.zeroValue102
  t182 := Tryz.underlying96
  a182 := Tryz.isAgg96
  z182 := Tryz.sizeOf96
  v182 := Tryz.zeroValue96
  t183 := Tryz.underlying97
  a183 := Tryz.isAgg97
  z183 := Tryz.sizeOf97
  v183 := Tryz.zeroValue97
  t218 := Tryz.underlying119
  a218 := Tryz.isAgg119
  z218 := Tryz.sizeOf119
  v218 := Tryz.zeroValue119
  t222 := Tryz.underlying123
  a222 := Tryz.isAgg123
  z222 := Tryz.sizeOf123
  v222 := Tryz.zeroValue123
  t228 := Tryz.underlying131
  a228 := Tryz.isAgg131
  z228 := Tryz.sizeOf131
  v228 := Tryz.zeroValue131
  t229 := Tryz.underlying42
  a229 := Tryz.isAgg42
  z229 := Tryz.sizeOf42
  v229 := Tryz.zeroValue42 }
open Go.Sort Go.RowKit in
theorem Tryz.slices_Sort_string (blk off cap : Nat) (ss : List (List UInt8)) (w : World) (hH : Holds encStr w blk off ss.toArray) (hblk : blk < w.heap.size) (hsz : ss.length < 4611686018427387904) :
    Calls Tryz.prog 13 #[.slice (some ⟨blk, off, none⟩) ss.length cap] w fun e w' =>
      e = .returned (.tuple #[]) ∧ ∃ n os, w' = grow (putRow encStr (Sort.ahead w n) blk off (ss.mergeSort fun x y => decide (x ≤ y)).toArray) os := Any.slices_Sort_string Tryz.lays190 blk off cap ss w hH hblk hsz
open Go.RowKit Go.Sort in
/-- .. and plain. (LAID: no walk: one application.) -/
theorem Tryz.slices_Sort_string_none (p : Option Addr) (cap : Nat) (w : World) :
    Calls Tryz.prog 13 #[.slice p 0 cap] w fun e w' => e = .returned (.tuple #[]) ∧ w' = w := Any.slices_Sort_string_none Tryz.lays190 p cap w
end Go.Proofs
