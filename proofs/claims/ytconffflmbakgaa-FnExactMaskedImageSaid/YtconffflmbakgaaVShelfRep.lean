/-
  Contracts of Go's library at this dump, in plain words (the kit's shelf): strings_Repeat.
-/
import Derived.Shelf.Strings.Builder1
import Derived.Shelf.Strings.Builder2
import Derived.Shelf.Strings.BuilderF
import Derived.Shelf.Strings.BuilderK
import Derived.Shelf.Strings.Builder2Cap
import Derived.Shelf.Strings.Prefix
import Derived.Shelf.Bits.Mul64
import Derived.Shelf.Strings.Repeat
import Derived.Shelf.Strings.BuilderCap
import Derived.Test.YtconffflmbakgaaProg
namespace Go.Proofs
open Go.Shelf
def Try.lays105_ren : Go.Shelf.Ren := ⟨fun | 105 => 152 | 212 => 163 | 99 => 164 | 165 => 165 | 166 => 93 | 170 => 166 | 169 => 94 | 263 => 168 | 264 => 169 | 206 => 170 | 240 => 137 | 241 => 171 | 276 => 150 | 277 => 172 | n => n, fun | 9 => 9 | 3 => 3 | 4 => 4 | 20 => 20 | 0 => 0 | 46 => 198 | 109 => 211 | 5 => 5 | 72 => 141 | 76 => 144 | 51 => 216 | 146 => 217 | 53 => 219 | 148 => 220 | 70 => 139 | 37 => 138 | 75 => 143 | 127 => 186 | 164 => 196 | 80 => 146 | n => n, fun | n => n⟩
theorem Try.lays105 : Go.Proofs.Lays.n105 Try.prog Try.lays105_ren := {
  mixed := by kernel_rfl
  f99 := Try.func164.trans (congrArg some (by kernel_rfl))
  f105 := Try.func152.trans (congrArg some (by kernel_rfl))
  f165 := Try.func165.trans (congrArg some (by kernel_rfl))
  f166 := Try.func93.trans (congrArg some (by kernel_rfl))
  f169 := Try.func94.trans (congrArg some (by kernel_rfl))
  f170 := Try.func166.trans (congrArg some (by kernel_rfl))
  f206 := Try.func170.trans (congrArg some (by kernel_rfl))
  f212 := Try.func163.trans (congrArg some (by kernel_rfl))
  f240 := Try.func137.trans (congrArg some (by kernel_rfl))
  f241 := Try.func171.trans (congrArg some (by kernel_rfl))
  f263 := Try.func168.trans (congrArg some (by kernel_rfl))
  f264 := Try.func169.trans (congrArg some (by kernel_rfl))
  f276 := Try.func150.trans (congrArg some (by kernel_rfl))
  f277 := Try.func172.trans (congrArg some (by kernel_rfl))
  t0 := Try.underlying0
  a0 := Try.isAgg0
  z0 := Try.sizeOf0
  v0 := Try.zeroValue0
  t3 := Try.underlying3
  a3 := Try.isAgg3
  z3 := Try.sizeOf3
  v3 := Try.zeroValue3
  t4 := Try.underlying4
  a4 := Try.isAgg4
  z4 := Try.sizeOf4
  v4 := Try.zeroValue4
  t5 := Try.underlying5
  a5 := Try.isAgg5
  z5 := Try.sizeOf5
  v5 := Try.zeroValue5
  t9 := Try.underlying9
  a9 := Try.isAgg9
  z9 := Try.sizeOf9
  v9 := Try.zeroValue9
  t20 := Try.underlying20
  a20 := Try.isAgg20
  z20 := Try.sizeOf20
  v20 := Try.zeroValue20
  t37 := Try.underlying138
  a37 := Try.isAgg138
  z37 := Try.sizeOf138
  v37 := Try.zeroValue138
  t46 := Try.underlying198
  a46 := Try.isAgg198
  z46 := Try.sizeOf198
  v46 := Try.zeroValue198
  t51 := Try.underlying216
  a51 := Try.isAgg216
  z51 := Try.sizeOf216
  v51 := Try.zeroValue216
  t53 := Try.underlying219
  a53 := Try.isAgg219
  z53 := Try.sizeOf219
  v53 := Try.zeroValue219
  t70 := Try.underlying139
  a70 := Try.isAgg139
  z70 := Try.sizeOf139
  v70 := Try.zeroValue139
  t72 := Try.underlying141
  a72 := Try.isAgg141
  z72 := Try.sizeOf141
  v72 := Try.zeroValue141
  t75 := Try.underlying143
  a75 := Try.isAgg143
  z75 := Try.sizeOf143
  v75 := Try.zeroValue143
  t76 := Try.underlying144
  a76 := Try.isAgg144
  z76 := Try.sizeOf144
  v76 := Try.zeroValue144
  t109 := Try.underlying211
  a109 := Try.isAgg211
  z109 := Try.sizeOf211
  v109 := Try.zeroValue211
  t127 := Try.underlying186
  a127 := Try.isAgg186
  z127 := Try.sizeOf186
  v127 := Try.zeroValue186
  t146 := Try.underlying217
  a146 := Try.isAgg217
  z146 := Try.sizeOf217
  v146 := Try.zeroValue217
  t148 := Try.underlying220
  a148 := Try.isAgg220
  z148 := Try.sizeOf220
  v148 := Try.zeroValue220
  t164 := Try.underlying196
  a164 := Try.isAgg196
  z164 := Try.sizeOf196
  v164 := Try.zeroValue196 }
theorem Try.Builder_Extra_105 : Builder.Extra Try.prog Try.lays105_ren := {
  sizeBuilder := by kernel_rfl
  liesBuilder := by kernel_rfl
  t5 := Try.underlying5
  a5 := Try.isAgg5
  z5 := Try.sizeOf5
  v5 := Try.zeroValue5
  infoByte := by kernel_rfl
  cellsByte := by kernel_rfl
  sizeByte := by kernel_rfl
  neB5 := by decide }
open Go.RowKit Go.Lib in
theorem Try.strings_Repeat (s : ByteArray) (c : Nat) (w : World) (hc : c ≤ 9223372036854775807) (hlen : s.size * c ≤ 140737488355328) :
    Calls Try.prog 152 #[.string s, .int .i64 c] w fun e w' => e = .returned (.string ⟨(Lib.repeatL s.data.toList c).toArray⟩) ∧ Below w.heap.size w w' := Any.strings_Repeat Try.lays105 Try.Builder_Extra_105 s c w hc hlen
end Go.Proofs
