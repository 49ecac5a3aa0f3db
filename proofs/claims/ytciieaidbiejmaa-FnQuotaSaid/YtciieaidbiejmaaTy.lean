import Derived.Test.YtciieaidbiejmaaDB
import Derived.Test.YtciieaidbiejmaaProg
namespace Go.Proofs.Ytciieaidbiejmaa.DM
@[simp] theorem sz3 : szT Try.prog 3 = some 1 := by kernel_rfl
@[simp] theorem by3 : Try.prog.bytesOf 3 = 8 := by kernel_rfl
@[simp] theorem ag3 : aggT Try.prog 3 = some false := by kernel_rfl
@[simp] theorem ze3 : zeroT Try.prog 3 = some [.int .i64 0] := by kernel_rfl
attribute [simp] Try.underlying3
@[simp] theorem sz4 : szT Try.prog 4 = some 1 := by kernel_rfl
@[simp] theorem by4 : Try.prog.bytesOf 4 = 1 := by kernel_rfl
@[simp] theorem ag4 : aggT Try.prog 4 = some false := by kernel_rfl
@[simp] theorem ze4 : zeroT Try.prog 4 = some [.bool false] := by kernel_rfl
attribute [simp] Try.underlying4
@[simp] theorem sz5 : szT Try.prog 5 = some 1 := by kernel_rfl
@[simp] theorem by5 : Try.prog.bytesOf 5 = 1 := by kernel_rfl
@[simp] theorem ag5 : aggT Try.prog 5 = some false := by kernel_rfl
@[simp] theorem ze5 : zeroT Try.prog 5 = some [.int .u8 0] := by kernel_rfl
attribute [simp] Try.underlying5
@[simp] theorem sz9 : szT Try.prog 9 = some 1 := by kernel_rfl
@[simp] theorem by9 : Try.prog.bytesOf 9 = 16 := by kernel_rfl
@[simp] theorem ag9 : aggT Try.prog 9 = some false := by kernel_rfl
@[simp] theorem ze9 : zeroT Try.prog 9 = some [.string ByteArray.empty] := by kernel_rfl
attribute [simp] Try.underlying9
@[simp] theorem sz22 : szT Try.prog 22 = some 1 := by kernel_rfl
@[simp] theorem by22 : Try.prog.bytesOf 22 = 24 := by kernel_rfl
@[simp] theorem ag22 : aggT Try.prog 22 = some false := by kernel_rfl
@[simp] theorem ze22 : zeroT Try.prog 22 = some [.slice none 0 0] := by kernel_rfl
@[simp] theorem el22 : elemT Try.prog 22 = some (5, 1) := by kernel_rfl
attribute [simp] Try.underlying22
@[simp] theorem sz25 : szT Try.prog 25 = some 4 := by kernel_rfl
@[simp] theorem by25 : Try.prog.bytesOf 25 = 32 := by kernel_rfl
@[simp] theorem ag25 : aggT Try.prog 25 = some true := by kernel_rfl
@[simp] theorem ze25 : zeroT Try.prog 25 = some [.int .i64 0, .int .i64 0, .int .i64 0, .int .i64 0] := by kernel_rfl
attribute [simp] Try.underlying25
@[simp] theorem sz26 : szT Try.prog 26 = some 1 := by kernel_rfl
@[simp] theorem by26 : Try.prog.bytesOf 26 = 24 := by kernel_rfl
@[simp] theorem ag26 : aggT Try.prog 26 = some false := by kernel_rfl
@[simp] theorem ze26 : zeroT Try.prog 26 = some [.slice none 0 0] := by kernel_rfl
@[simp] theorem el26 : elemT Try.prog 26 = some (40, 3) := by kernel_rfl
attribute [simp] Try.underlying26
@[simp] theorem sz28 : szT Try.prog 28 = some 1 := by kernel_rfl
@[simp] theorem by28 : Try.prog.bytesOf 28 = 24 := by kernel_rfl
@[simp] theorem ag28 : aggT Try.prog 28 = some true := by kernel_rfl
@[simp] theorem ze28 : zeroT Try.prog 28 = some [.slice none 0 0] := by kernel_rfl
attribute [simp] Try.underlying28
@[simp] theorem sz30 : szT Try.prog 30 = some 6 := by kernel_rfl
@[simp] theorem by30 : Try.prog.bytesOf 30 = 72 := by kernel_rfl
@[simp] theorem ag30 : aggT Try.prog 30 = some true := by kernel_rfl
@[simp] theorem ze30 : zeroT Try.prog 30 = some [.int .i64 0, .string ByteArray.empty, .string ByteArray.empty, .int .i64 0, .int .i64 0, .string ByteArray.empty] := by kernel_rfl
attribute [simp] Try.underlying30
@[simp] theorem sz33 : szT Try.prog 33 = some 1 := by kernel_rfl
@[simp] theorem by33 : Try.prog.bytesOf 33 = 24 := by kernel_rfl
@[simp] theorem ag33 : aggT Try.prog 33 = some false := by kernel_rfl
@[simp] theorem ze33 : zeroT Try.prog 33 = some [.slice none 0 0] := by kernel_rfl
@[simp] theorem el33 : elemT Try.prog 33 = some (9, 1) := by kernel_rfl
attribute [simp] Try.underlying33
@[simp] theorem sz35 : szT Try.prog 35 = some 5 := by kernel_rfl
@[simp] theorem by35 : Try.prog.bytesOf 35 = 64 := by kernel_rfl
@[simp] theorem ag35 : aggT Try.prog 35 = some true := by kernel_rfl
@[simp] theorem ze35 : zeroT Try.prog 35 = some [.int .i64 0, .string ByteArray.empty, .int .i64 0, .bool false, .slice none 0 0] := by kernel_rfl
attribute [simp] Try.underlying35
@[simp] theorem sz40 : szT Try.prog 40 = some 3 := by kernel_rfl
@[simp] theorem by40 : Try.prog.bytesOf 40 = 40 := by kernel_rfl
@[simp] theorem ag40 : aggT Try.prog 40 = some true := by kernel_rfl
@[simp] theorem ze40 : zeroT Try.prog 40 = some [.string ByteArray.empty, .bool false, .string ByteArray.empty] := by kernel_rfl
attribute [simp] Try.underlying40
@[simp] theorem sz45 : szT Try.prog 45 = some 1 := by kernel_rfl
@[simp] theorem by45 : Try.prog.bytesOf 45 = 8 := by kernel_rfl
@[simp] theorem ag45 : aggT Try.prog 45 = some false := by kernel_rfl
@[simp] theorem ze45 : zeroT Try.prog 45 = some [.pointer none] := by kernel_rfl
attribute [simp] Try.underlying45
@[simp] theorem sz61 : szT Try.prog 61 = some 3 := by kernel_rfl
@[simp] theorem by61 : Try.prog.bytesOf 61 = 40 := by kernel_rfl
@[simp] theorem ag61 : aggT Try.prog 61 = some true := by kernel_rfl
@[simp] theorem ze61 : zeroT Try.prog 61 = some [.slice none 0 0, .int .i64 0, .int .i64 0] := by kernel_rfl
attribute [simp] Try.underlying61
@[simp] theorem sz64 : szT Try.prog 64 = some 1 := by kernel_rfl
@[simp] theorem by64 : Try.prog.bytesOf 64 = 24 := by kernel_rfl
@[simp] theorem ag64 : aggT Try.prog 64 = some false := by kernel_rfl
@[simp] theorem ze64 : zeroT Try.prog 64 = some [.slice none 0 0] := by kernel_rfl
@[simp] theorem el64 : elemT Try.prog 64 = some (3, 1) := by kernel_rfl
attribute [simp] Try.underlying64
theorem mixed : Try.prog.follows .mixedOrders = true := by kernel_rfl
end Go.Proofs.Ytciieaidbiejmaa.DM
