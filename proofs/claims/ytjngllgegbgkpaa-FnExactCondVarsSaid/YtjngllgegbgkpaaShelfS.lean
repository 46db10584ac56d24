/- The contracts of the library functions that this seat calls, laid at this dump (written by the kit's own tools out of its shelf; cut to what is used). -/
import Derived.Shelf.Sort.Plain
import Derived.Shelf.Slices.In.SortNone2
import Derived.Test.YtjngllgegbgkpaaProg
namespace Go.Proofs
open Go.Shelf
def Try.lays192_ren : Go.Shelf.Ren := ⟨fun | 192 => 147 | 190 => 169 | 125 => 180 | 258 => 179 | 128 => 193 | 129 => 194 | 302 => 184 | 303 => 185 | 304 => 186 | 305 => 187 | 306 => 188 | 307 => 189 | 308 => 190 | 309 => 191 | 310 => 192 | 333 => 195 | 329 => 196 | 330 => 197 | 334 => 198 | 335 => 199 | 336 => 200 | 344 => 201 | n => n, fun | 31 => 22 | 0 => 0 | 9 => 9 | 3 => 3 | 46 => 182 | 51 => 197 | 53 => 199 | 4 => 4 | 183 => 189 | 182 => 188 | 131 => 194 | 5 => 5 | 218 => 200 | 222 => 204 | 228 => 206 | 229 => 207 | n => n, fun | n => n⟩
theorem Try.lays192 : Go.Proofs.Lays.n192 Try.prog Try.lays192_ren := {
  mixed := by kernel_rfl
  f125 := Try.func180.trans (congrArg some (by kernel_rfl))
  f128 := Try.func193.trans (congrArg some (by kernel_rfl))
  f129 := Try.func194.trans (congrArg some (by kernel_rfl))
  f190 := Try.func169.trans (congrArg some (by kernel_rfl))
  f192 := Try.func147.trans (congrArg some (by kernel_rfl))
  f258 := Try.func179.trans (congrArg some (by kernel_rfl))
  f302 := Try.func184.trans (congrArg some (by kernel_rfl))
  f303 := Try.func185.trans (congrArg some (by kernel_rfl))
  f304 := Try.func186.trans (congrArg some (by kernel_rfl))
  f305 := Try.func187.trans (congrArg some (by kernel_rfl))
  f306 := Try.func188.trans (congrArg some (by kernel_rfl))
  f307 := Try.func189.trans (congrArg some (by kernel_rfl))
  f308 := Try.func190.trans (congrArg some (by kernel_rfl))
  f309 := Try.func191.trans (congrArg some (by kernel_rfl))
  f310 := Try.func192.trans (congrArg some (by kernel_rfl))
  f329 := Try.func196.trans (congrArg some (by kernel_rfl))
  f330 := Try.func197.trans (congrArg some (by kernel_rfl))
  f333 := Try.func195.trans (congrArg some (by kernel_rfl))
  f334 := Try.func198.trans (congrArg some (by kernel_rfl))
  f335 := Try.func199.trans (congrArg some (by kernel_rfl))
  f336 := Try.func200.trans (congrArg some (by kernel_rfl))
  f344 := Try.func201.trans (congrArg some (by kernel_rfl))
  t0 := Try.underlying0
  a0 := Try.isAgg0
  z0 := Try.sizeOf0
  v0 := Try.zeroValue0
  t3 := Try.underlying3
  a3 := Try.isAgg3
  z3 := Try.sizeOf3
  v3 := Try.zeroValue3
  t4 := Try.underlying4
  a4 := Try.isAgg4
  z4 := Try.sizeOf4
  v4 := Try.zeroValue4
  t5 := Try.underlying5
  a5 := Try.isAgg5
  z5 := Try.sizeOf5
  v5 := Try.zeroValue5
  t9 := Try.underlying9
  a9 := Try.isAgg9
  z9 := Try.sizeOf9
  v9 := Try.zeroValue9
  t31 := Try.underlying22
  a31 := Try.isAgg22
  z31 := Try.sizeOf22
  v31 := Try.zeroValue22
  t46 := Try.underlying182
  a46 := Try.isAgg182
  z46 := Try.sizeOf182
  v46 := Try.zeroValue182
  t51 := Try.underlying197
  a51 := Try.isAgg197
  z51 := Try.sizeOf197
  v51 := Try.zeroValue197
  t53 := Try.underlying199
  a53 := Try.isAgg199
  z53 := Try.sizeOf199
  v53 := Try.zeroValue199
  t131 := Try.underlying194
  a131 := Try.isAgg194
  z131 := Try.sizeOf194
  v131 := Try.zeroValue194
  t182 := Try.underlying188
  a182 := Try.isAgg188
  z182 := Try.sizeOf188
  v182 := Try.zeroValue188
  t183 := Try.underlying189
  a183 := Try.isAgg189
  z183 := Try.sizeOf189
  v183 := Try.zeroValue189
  t218 := Try.underlying200
  a218 := Try.isAgg200
  z218 := Try.sizeOf200
  v218 := Try.zeroValue200
  t222 := Try.underlying204
  a222 := Try.isAgg204
  z222 := Try.sizeOf204
  v222 := Try.zeroValue204
  t228 := Try.underlying206
  a228 := Try.isAgg206
  z228 := Try.sizeOf206
  v228 := Try.zeroValue206
  t229 := Try.underlying207
  a229 := Try.isAgg207
  z229 := Try.sizeOf207
  v229 := Try.zeroValue207 }
open Go.Sort Go.RowKit in
theorem Try.sort_Strings (blk off cap : Nat) (ss : List (List UInt8)) (w : World) (hH : Holds encStr w blk off ss.toArray) (hblk : blk < w.heap.size) (hsz : ss.length < 4611686018427387904) :
    Calls Try.prog 147 #[.slice (some ⟨blk, off, none⟩) ss.length cap] w fun e w' =>
      e = .returned (.tuple #[]) ∧ ∃ n os, w' = grow (putRow encStr (Sort.ahead w n) blk off (ss.mergeSort fun x y => decide (x ≤ y)).toArray) os := Any.sort_Strings Try.lays192 blk off cap ss w hH hblk hsz
open Go.RowKit Go.Sort in
theorem Try.sort_Strings_none (p : Option Addr) (cap : Nat) (w : World) :
    Calls Try.prog 147 #[.slice p 0 cap] w fun e w' => e = .returned (.tuple #[]) ∧ w' = w := Any.sort_Strings_none Try.lays192 p cap w

end Go.Proofs
