/-
  Contracts of Go's library at this dump, in plain words (the kit's shelf): strings_Repeat.
-/
import Derived.Shelf.Strings.Builder1
import Derived.Shelf.Strings.Builder2
import Derived.Shelf.Strings.BuilderF
import Derived.Shelf.Strings.BuilderK
import Derived.Shelf.Strings.Builder2Cap
import Derived.Shelf.Strings.Prefix
import Derived.Shelf.Bits.Mul64
import Derived.Shelf.Strings.Repeat
import Derived.Test.YtjjdjkkhhcbogaaProg
namespace Go.Proofs
open Go.Shelf
def Try.lays105_ren : Go.Shelf.Ren := ⟨fun | 105 => 133 | 212 => 155 | 99 => 156 | 165 => 157 | 166 => 158 | 170 => 159 | 169 => 160 | 263 => 179 | 264 => 180 | 206 => 181 | 240 => 182 | 241 => 183 | 276 => 190 | 277 => 191 | n => n, fun | 9 => 9 | 3 => 3 | 4 => 4 | 20 => 20 | 0 => 0 | 46 => 118 | 109 => 188 | 5 => 5 | 72 => 193 | 76 => 196 | 51 => 208 | 146 => 215 | 53 => 210 | 148 => 217 | 70 => 191 | 37 => 47 | 75 => 195 | 127 => 219 | 164 => 227 | 80 => 198 | n => n, fun | n => n⟩
theorem Try.lays105 : Go.Proofs.Lays.n105 Try.prog Try.lays105_ren := {
  mixed := by kernel_rfl
  f99 := Try.func156.trans (congrArg some (by kernel_rfl))
  f105 := Try.func133.trans (congrArg some (by kernel_rfl))
  f165 := Try.func157.trans (congrArg some (by kernel_rfl))
  f166 := Try.func158.trans (congrArg some (by kernel_rfl))
  f169 := Try.func160.trans (congrArg some (by kernel_rfl))
  f170 := Try.func159.trans (congrArg some (by kernel_rfl))
  f206 := Try.func181.trans (congrArg some (by kernel_rfl))
  f212 := Try.func155.trans (congrArg some (by kernel_rfl))
  f240 := Try.func182.trans (congrArg some (by kernel_rfl))
  f241 := Try.func183.trans (congrArg some (by kernel_rfl))
  f263 := Try.func179.trans (congrArg some (by kernel_rfl))
  f264 := Try.func180.trans (congrArg some (by kernel_rfl))
  f276 := Try.func190.trans (congrArg some (by kernel_rfl))
  f277 := Try.func191.trans (congrArg some (by kernel_rfl))
  t0 := Try.underlying0
  a0 := Try.isAgg0
  z0 := Try.sizeOf0
  v0 := Try.zeroValue0
  t3 := Try.underlying3
  a3 := Try.isAgg3
  z3 := Try.sizeOf3
  v3 := Try.zeroValue3
  t4 := Try.underlying4
  a4 := Try.isAgg4
  z4 := Try.sizeOf4
  v4 := Try.zeroValue4
  t5 := Try.underlying5
  a5 := Try.isAgg5
  z5 := Try.sizeOf5
  v5 := Try.zeroValue5
  t9 := Try.underlying9
  a9 := Try.isAgg9
  z9 := Try.sizeOf9
  v9 := Try.zeroValue9
  t20 := Try.underlying20
  a20 := Try.isAgg20
  z20 := Try.sizeOf20
  v20 := Try.zeroValue20
  t37 := Try.underlying47
  a37 := Try.isAgg47
  z37 := Try.sizeOf47
  v37 := Try.zeroValue47
  t46 := Try.underlying118
  a46 := Try.isAgg118
  z46 := Try.sizeOf118
  v46 := Try.zeroValue118
  t51 := Try.underlying208
  a51 := Try.isAgg208
  z51 := Try.sizeOf208
  v51 := Try.zeroValue208
  t53 := Try.underlying210
  a53 := Try.isAgg210
  z53 := Try.sizeOf210
  v53 := Try.zeroValue210
  t70 := Try.underlying191
  a70 := Try.isAgg191
  z70 := Try.sizeOf191
  v70 := Try.zeroValue191
  t72 := Try.underlying193
  a72 := Try.isAgg193
  z72 := Try.sizeOf193
  v72 := Try.zeroValue193
  t75 := Try.underlying195
  a75 := Try.isAgg195
  z75 := Try.sizeOf195
  v75 := Try.zeroValue195
  t76 := Try.underlying196
  a76 := Try.isAgg196
  z76 := Try.sizeOf196
  v76 := Try.zeroValue196
  t109 := Try.underlying188
  a109 := Try.isAgg188
  z109 := Try.sizeOf188
  v109 := Try.zeroValue188
  t127 := Try.underlying219
  a127 := Try.isAgg219
  z127 := Try.sizeOf219
  v127 := Try.zeroValue219
  t146 := Try.underlying215
  a146 := Try.isAgg215
  z146 := Try.sizeOf215
  v146 := Try.zeroValue215
  t148 := Try.underlying217
  a148 := Try.isAgg217
  z148 := Try.sizeOf217
  v148 := Try.zeroValue217
  t164 := Try.underlying227
  a164 := Try.isAgg227
  z164 := Try.sizeOf227
  v164 := Try.zeroValue227 }
theorem Try.Builder_Extra_105 : Builder.Extra Try.prog Try.lays105_ren := {
  sizeBuilder := by kernel_rfl
  liesBuilder := by kernel_rfl
  t5 := Try.underlying5
  a5 := Try.isAgg5
  z5 := Try.sizeOf5
  v5 := Try.zeroValue5
  infoByte := by kernel_rfl
  cellsByte := by kernel_rfl
  sizeByte := by kernel_rfl
  neB5 := by decide }
open Go.RowKit Go.Lib in
theorem Try.strings_Repeat (s : ByteArray) (c : Nat) (w : World) (hc : c ≤ 9223372036854775807) (hlen : s.size * c ≤ 140737488355328) :
    Calls Try.prog 133 #[.string s, .int .i64 c] w fun e w' => e = .returned (.string ⟨(Lib.repeatL s.data.toList c).toArray⟩) ∧ Below w.heap.size w w' := Any.strings_Repeat Try.lays105 Try.Builder_Extra_105 s c w hc hlen
end Go.Proofs
