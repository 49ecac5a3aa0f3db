/-
  Contracts of Go's library at this dump, in plain words (the kit's shelf): slices_Sort_int, slices_Sort_int_none, slices_Compact_int, slices_Compact_int_empty.
-/
import Derived.Shelf.Strings.Builder1
import Derived.Shelf.Strings.Builder2
import Derived.Shelf.Small.Bits
import Derived.Shelf.Strconv.Itoa0
import Derived.Shelf.Sort.Plain
import Derived.Shelf.Bits.Mul64
import Derived.Ground.Names2Prog
import Derived.Shelf.Slices.CompactI
import Derived.Shelf.Slices.SearchI
import Derived.Shelf.Slices.Cells
import Derived.Shelf.Slices.In.SortNone
import Derived.Test.YtlpghmopabihoaaProg
namespace Go.Proofs
open Go.Shelf
def Try.lays189_ren : Go.Shelf.Ren := ⟨fun | 189 => 125 | 125 => 167 | 257 => 166 | 128 => 204 | 129 => 205 | 294 => 195 | 295 => 196 | 296 => 197 | 297 => 198 | 298 => 199 | 299 => 200 | 216 => 201 | 300 => 202 | 301 => 203 | 328 => 215 | 329 => 216 | 330 => 217 | 331 => 218 | 332 => 219 | 215 => 220 | 343 => 228 | n => n, fun | 28 => 60 | 3 => 3 | 46 => 149 | 0 => 0 | 51 => 234 | 53 => 236 | 4 => 4 | 183 => 226 | 182 => 225 | 131 => 231 | 5 => 5 | 9 => 9 | 218 => 244 | 222 => 248 | 228 => 258 | 229 => 259 | n => n, fun | n => n⟩
theorem Try.lays189 : Go.Proofs.Lays.n189 Try.prog Try.lays189_ren := {
  mixed := by kernel_rfl
  f125 := Try.func167.trans (congrArg some (by kernel_rfl))
  f128 := Try.func204.trans (congrArg some (by kernel_rfl))
  f129 := Try.func205.trans (congrArg some (by kernel_rfl))
  f189 := Try.func125.trans (congrArg some (by kernel_rfl))
  f215 := Try.func220.trans (congrArg some (by kernel_rfl))
  f216 := Try.func201.trans (congrArg some (by kernel_rfl))
  f257 := Try.func166.trans (congrArg some (by kernel_rfl))
  f294 := Try.func195.trans (congrArg some (by kernel_rfl))
  f295 := Try.func196.trans (congrArg some (by kernel_rfl))
  f296 := Try.func197.trans (congrArg some (by kernel_rfl))
  f297 := Try.func198.trans (congrArg some (by kernel_rfl))
  f298 := Try.func199.trans (congrArg some (by kernel_rfl))
  f299 := Try.func200.trans (congrArg some (by kernel_rfl))
  f300 := Try.func202.trans (congrArg some (by kernel_rfl))
  f301 := Try.func203.trans (congrArg some (by kernel_rfl))
  f328 := Try.func215.trans (congrArg some (by kernel_rfl))
  f329 := Try.func216.trans (congrArg some (by kernel_rfl))
  f330 := Try.func217.trans (congrArg some (by kernel_rfl))
  f331 := Try.func218.trans (congrArg some (by kernel_rfl))
  f332 := Try.func219.trans (congrArg some (by kernel_rfl))
  f343 := Try.func228.trans (congrArg some (by kernel_rfl))
  t0 := Try.underlying0
  a0 := Try.isAgg0
  z0 := Try.sizeOf0
  v0 := Try.zeroValue0
  t3 := Try.underlying3
  a3 := Try.isAgg3
  z3 := Try.sizeOf3
  v3 := Try.zeroValue3
  t4 := Try.underlying4
  a4 := Try.isAgg4
  z4 := Try.sizeOf4
  v4 := Try.zeroValue4
  t5 := Try.underlying5
  a5 := Try.isAgg5
  z5 := Try.sizeOf5
  v5 := Try.zeroValue5
  t9 := Try.underlying9
  a9 := Try.isAgg9
  z9 := Try.sizeOf9
  v9 := Try.zeroValue9
  t28 := Try.underlying60
  a28 := Try.isAgg60
  z28 := Try.sizeOf60
  v28 := Try.zeroValue60
  t46 := Try.underlying149
  a46 := Try.isAgg149
  z46 := Try.sizeOf149
  v46 := Try.zeroValue149
  t51 := Try.underlying234
  a51 := Try.isAgg234
  z51 := Try.sizeOf234
  v51 := Try.zeroValue234
  t53 := Try.underlying236
  a53 := Try.isAgg236
  z53 := Try.sizeOf236
  v53 := Try.zeroValue236
  t131 := Try.underlying231
  a131 := Try.isAgg231
  z131 := Try.sizeOf231
  v131 := Try.zeroValue231
  t182 := Try.underlying225
  a182 := Try.isAgg225
  z182 := Try.sizeOf225
  v182 := Try.zeroValue225
  t183 := Try.underlying226
  a183 := Try.isAgg226
  z183 := Try.sizeOf226
  v183 := Try.zeroValue226
  t218 := Try.underlying244
  a218 := Try.isAgg244
  z218 := Try.sizeOf244
  v218 := Try.zeroValue244
  t222 := Try.underlying248
  a222 := Try.isAgg248
  z222 := Try.sizeOf248
  v222 := Try.zeroValue248
  t228 := Try.underlying258
  a228 := Try.isAgg258
  z228 := Try.sizeOf258
  v228 := Try.zeroValue258
  t229 := Try.underlying259
  a229 := Try.isAgg259
  z229 := Try.sizeOf259
  v229 := Try.zeroValue259 }
open Go.Sort Go.RowKit in
theorem Try.slices_Sort_int (blk off cap : Nat) (zs : List Int) (w : World) (hH : Holds (Value.int .i64) w blk off zs.toArray) (hblk : blk < w.heap.size) (hsz : zs.length < 4611686018427387904) :
    Calls Try.prog 125 #[.slice (some ⟨blk, off, none⟩) zs.length cap] w fun e w' =>
      e = .returned (.tuple #[]) ∧ ∃ n os, w' = grow (putRow (Value.int .i64) (Sort.ahead w n) blk off (zs.mergeSort fun x y => decide (x ≤ y)).toArray) os := Any.slices_Sort_int Try.lays189 blk off cap zs w hH hblk hsz
def Try.laysNm220_ren : Go.Shelf.Ren := ⟨fun | 20 => 126 | n => n, fun | 22 => 60 | 3 => 3 | 4 => 4 | 0 => 0 | n => n, fun | n => n⟩
theorem Try.laysNm220 : Go.Proofs.Lays2.n20 Try.prog Try.laysNm220_ren := {
  mixed := by kernel_rfl
  f20 := Try.func126.trans (congrArg some (by kernel_rfl))
  t0 := Try.underlying0
  a0 := Try.isAgg0
  z0 := Try.sizeOf0
  v0 := Try.zeroValue0
  t3 := Try.underlying3
  a3 := Try.isAgg3
  z3 := Try.sizeOf3
  v3 := Try.zeroValue3
  t4 := Try.underlying4
  a4 := Try.isAgg4
  z4 := Try.sizeOf4
  v4 := Try.zeroValue4
  t22 := Try.underlying60
  a22 := Try.isAgg60
  z22 := Try.sizeOf60
  v22 := Try.zeroValue60
  i3 := by kernel_rfl }
open Go.RowKit Go.Lib Go.Sort in
theorem Try.slices_Compact_int (blk off cap : Nat) (zs : List Int) (w : World) (hH : Holds (Value.int .i64) w blk off zs.toArray) (hsz : zs.length ≤ 9223372036854775807) (hcap : zs.length ≤ cap) :
    Calls Try.prog 126 #[.slice (some ⟨blk, off, none⟩) zs.length cap] w fun e w' => e = .returned (.slice (some ⟨blk, off, none⟩) (Lib.compact zs).length cap) ∧ ∃ q, w' = putRow (Value.int .i64) (Sort.ahead w q) blk off (Lib.compact zs ++ List.replicate (zs.length - (Lib.compact zs).length) 0).toArray := Any.slices_Compact_int Try.laysNm220 blk off cap zs w hH hsz hcap
open Go.RowKit Go.Lib Go.Sort in
theorem Try.slices_Compact_int_empty (a : Option Addr) (cap : Nat) (w : World) :
    Calls Try.prog 126 #[.slice a 0 cap] w fun e w' => e = .returned (.slice a 0 cap) ∧ w' = w := Any.slices_Compact_int_empty Try.laysNm220 a cap w
open Go.RowKit Go.Sort in
theorem Try.slices_Sort_int_none (p : Option Addr) (cap : Nat) (w : World) :
    Calls Try.prog 125 #[.slice p 0 cap] w fun e w' => e = .returned (.tuple #[]) ∧ w' = w := Any.slices_Sort_int_none Try.lays189 p cap w
end Go.Proofs
