/- The contracts of the library functions that this seat calls, laid at this dump (written by the kit's own tools out of its shelf; cut to what is used). -/
import Derived.Shelf.LaysM
import Derived.Shelf.LaysC
import Derived.Shelf.Sort.Plain
import Derived.Shelf.Slices.In.SortNone2
import Derived.Test.YtbflhchmaoigdaaDoorProg
namespace Go.Proofs
open Go.Shelf
def Tryd.lays192_ren : Go.Shelf.Ren := ⟨fun | 192 => 107 | 190 => 134 | 125 => 156 | 258 => 155 | 128 => 183 | 129 => 184 | 302 => 174 | 303 => 175 | 304 => 176 | 305 => 177 | 306 => 178 | 307 => 179 | 308 => 180 | 309 => 181 | 310 => 182 | 333 => 194 | 329 => 195 | 330 => 196 | 334 => 197 | 335 => 198 | 336 => 199 | 344 => 202 | n => n, fun | 31 => 24 | 0 => 0 | 9 => 9 | 3 => 3 | 46 => 127 | 51 => 166 | 53 => 139 | 4 => 4 | 183 => 160 | 182 => 159 | 131 => 66 | 5 => 5 | 218 => 176 | 222 => 180 | 228 => 186 | 229 => 187 | n => n, fun | n => n⟩
theorem Tryd.lays192 : Go.Proofs.Lays.n192 Tryd.prog Tryd.lays192_ren := {
  mixed := by kernel_rfl
  f125 := Tryd.func156.trans (congrArg some (by kernel_rfl))
  f128 := Tryd.func183.trans (congrArg some (by kernel_rfl))
  f129 := Tryd.func184.trans (congrArg some (by kernel_rfl))
  f190 := Tryd.func134.trans (congrArg some (by kernel_rfl))
  f192 := Tryd.func107.trans (congrArg some (by kernel_rfl))
  f258 := Tryd.func155.trans (congrArg some (by kernel_rfl))
  f302 := Tryd.func174.trans (congrArg some (by kernel_rfl))
  f303 := Tryd.func175.trans (congrArg some (by kernel_rfl))
  f304 := Tryd.func176.trans (congrArg some (by kernel_rfl))
  f305 := Tryd.func177.trans (congrArg some (by kernel_rfl))
  f306 := Tryd.func178.trans (congrArg some (by kernel_rfl))
  f307 := Tryd.func179.trans (congrArg some (by kernel_rfl))
  f308 := Tryd.func180.trans (congrArg some (by kernel_rfl))
  f309 := Tryd.func181.trans (congrArg some (by kernel_rfl))
  f310 := Tryd.func182.trans (congrArg some (by kernel_rfl))
  f329 := Tryd.func195.trans (congrArg some (by kernel_rfl))
  f330 := Tryd.func196.trans (congrArg some (by kernel_rfl))
  f333 := Tryd.func194.trans (congrArg some (by kernel_rfl))
  f334 := Tryd.func197.trans (congrArg some (by kernel_rfl))
  f335 := Tryd.func198.trans (congrArg some (by kernel_rfl))
  f336 := Tryd.func199.trans (congrArg some (by kernel_rfl))
  f344 := Tryd.func202.trans (congrArg some (by kernel_rfl))
  t0 := Tryd.underlying0
  a0 := Tryd.isAgg0
  z0 := Tryd.sizeOf0
  v0 := Tryd.zeroValue0
  t3 := Tryd.underlying3
  a3 := Tryd.isAgg3
  z3 := Tryd.sizeOf3
  v3 := Tryd.zeroValue3
  t4 := Tryd.underlying4
  a4 := Tryd.isAgg4
  z4 := Tryd.sizeOf4
  v4 := Tryd.zeroValue4
  t5 := Tryd.underlying5
  a5 := Tryd.isAgg5
  z5 := Tryd.sizeOf5
  v5 := Tryd.zeroValue5
  t9 := Tryd.underlying9
  a9 := Tryd.isAgg9
  z9 := Tryd.sizeOf9
  v9 := Tryd.zeroValue9
  t31 := Tryd.underlying24
  a31 := Tryd.isAgg24
  z31 := Tryd.sizeOf24
  v31 := Tryd.zeroValue24
  t46 := Tryd.underlying127
  a46 := Tryd.isAgg127
  z46 := Tryd.sizeOf127
  v46 := Tryd.zeroValue127
  t51 := Tryd.underlying166
  a51 := Tryd.isAgg166
  z51 := Tryd.sizeOf166
  v51 := Tryd.zeroValue166
  t53 := Tryd.underlying139
  a53 := Tryd.isAgg139
  z53 := Tryd.sizeOf139
  v53 := Tryd.zeroValue139
  t131 := Tryd.underlying66
  a131 := Tryd.isAgg66
  z131 := Tryd.sizeOf66
  v131 := Tryd.zeroValue66
  t182 := Tryd.underlying159
  a182 := Tryd.isAgg159
  z182 := Tryd.sizeOf159
  v182 := Tryd.zeroValue159
  t183 := Tryd.underlying160
  a183 := Tryd.isAgg160
  z183 := Tryd.sizeOf160
  v183 := Tryd.zeroValue160
  t218 := Tryd.underlying176
  a218 := Tryd.isAgg176
  z218 := Tryd.sizeOf176
  v218 := Tryd.zeroValue176
  t222 := Tryd.underlying180
  a222 := Tryd.isAgg180
  z222 := Tryd.sizeOf180
  v222 := Tryd.zeroValue180
  t228 := Tryd.underlying186
  a228 := Tryd.isAgg186
  z228 := Tryd.sizeOf186
  v228 := Tryd.zeroValue186
  t229 := Tryd.underlying187
  a229 := Tryd.isAgg187
  z229 := Tryd.sizeOf187
  v229 := Tryd.zeroValue187 }
open Go.Sort Go.RowKit in
theorem Tryd.sort_Strings (blk off cap : Nat) (ss : List (List UInt8)) (w : World) (hH : Holds encStr w blk off ss.toArray) (hblk : blk < w.heap.size) (hsz : ss.length < 4611686018427387904) :
    Calls Tryd.prog 107 #[.slice (some ⟨blk, off, none⟩) ss.length cap] w fun e w' =>
      e = .returned (.tuple #[]) ∧ ∃ n os, w' = grow (putRow encStr (Sort.ahead w n) blk off (ss.mergeSort fun x y => decide (x ≤ y)).toArray) os := Any.sort_Strings Tryd.lays192 blk off cap ss w hH hblk hsz
open Go.RowKit Go.Sort in
theorem Tryd.sort_Strings_none (p : Option Addr) (cap : Nat) (w : World) :
    Calls Tryd.prog 107 #[.slice p 0 cap] w fun e w' => e = .returned (.tuple #[]) ∧ w' = w := Any.sort_Strings_none Tryd.lays192 p cap w

end Go.Proofs
