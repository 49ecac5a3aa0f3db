import Derived.Test.YtjjdjkkhhcbogaaDB
import Derived.Test.YtjjdjkkhhcbogaaProg
namespace Go.Proofs.Ytjjdjkkhhcbogaa.DM
@[simp] theorem sz3 : szT Try.prog 3 = some 1 := by kernel_rfl
@[simp] theorem by3 : Try.prog.bytesOf 3 = 8 := by kernel_rfl
@[simp] theorem ag3 : aggT Try.prog 3 = some false := by kernel_rfl
@[simp] theorem ze3 : zeroT Try.prog 3 = some [.int .i64 0] := by kernel_rfl
attribute [simp] Try.underlying3
@[simp] theorem sz4 : szT Try.prog 4 = some 1 := by kernel_rfl
@[simp] theorem by4 : Try.prog.bytesOf 4 = 1 := by kernel_rfl
@[simp] theorem ag4 : aggT Try.prog 4 = some false := by kernel_rfl
@[simp] theorem ze4 : zeroT Try.prog 4 = some [.bool false] := by kernel_rfl
attribute [simp] Try.underlying4
@[simp] theorem sz5 : szT Try.prog 5 = some 1 := by kernel_rfl
@[simp] theorem by5 : Try.prog.bytesOf 5 = 1 := by kernel_rfl
@[simp] theorem ag5 : aggT Try.prog 5 = some false := by kernel_rfl
@[simp] theorem ze5 : zeroT Try.prog 5 = some [.int .u8 0] := by kernel_rfl
attribute [simp] Try.underlying5
@[simp] theorem sz9 : szT Try.prog 9 = some 1 := by kernel_rfl
@[simp] theorem by9 : Try.prog.bytesOf 9 = 16 := by kernel_rfl
@[simp] theorem ag9 : aggT Try.prog 9 = some false := by kernel_rfl
@[simp] theorem ze9 : zeroT Try.prog 9 = some [.string ByteArray.empty] := by kernel_rfl
attribute [simp] Try.underlying9
@[simp] theorem sz22 : szT Try.prog 22 = some 1 := by kernel_rfl
@[simp] theorem by22 : Try.prog.bytesOf 22 = 24 := by kernel_rfl
@[simp] theorem ag22 : aggT Try.prog 22 = some false := by kernel_rfl
@[simp] theorem ze22 : zeroT Try.prog 22 = some [.slice none 0 0] := by kernel_rfl
@[simp] theorem el22 : elemT Try.prog 22 = some (151, 3) := by kernel_rfl
attribute [simp] Try.underlying22
@[simp] theorem sz24 : szT Try.prog 24 = some 2 := by kernel_rfl
@[simp] theorem by24 : Try.prog.bytesOf 24 = 40 := by kernel_rfl
@[simp] theorem ag24 : aggT Try.prog 24 = some true := by kernel_rfl
@[simp] theorem ze24 : zeroT Try.prog 24 = some [.string ByteArray.empty, .slice none 0 0] := by kernel_rfl
attribute [simp] Try.underlying24
@[simp] theorem sz26 : szT Try.prog 26 = some 3 := by kernel_rfl
@[simp] theorem by26 : Try.prog.bytesOf 26 = 32 := by kernel_rfl
@[simp] theorem ag26 : aggT Try.prog 26 = some true := by kernel_rfl
@[simp] theorem ze26 : zeroT Try.prog 26 = some [.int .i64 0, .int .i64 0, .string ByteArray.empty] := by kernel_rfl
attribute [simp] Try.underlying26
@[simp] theorem sz29 : szT Try.prog 29 = some 1 := by kernel_rfl
@[simp] theorem by29 : Try.prog.bytesOf 29 = 24 := by kernel_rfl
@[simp] theorem ag29 : aggT Try.prog 29 = some false := by kernel_rfl
@[simp] theorem ze29 : zeroT Try.prog 29 = some [.slice none 0 0] := by kernel_rfl
@[simp] theorem el29 : elemT Try.prog 29 = some (115, 3) := by kernel_rfl
attribute [simp] Try.underlying29
@[simp] theorem sz31 : szT Try.prog 31 = some 2 := by kernel_rfl
@[simp] theorem by31 : Try.prog.bytesOf 31 = 40 := by kernel_rfl
@[simp] theorem ag31 : aggT Try.prog 31 = some true := by kernel_rfl
@[simp] theorem ze31 : zeroT Try.prog 31 = some [.string ByteArray.empty, .slice none 0 0] := by kernel_rfl
attribute [simp] Try.underlying31
@[simp] theorem sz34 : szT Try.prog 34 = some 3 := by kernel_rfl
@[simp] theorem by34 : Try.prog.bytesOf 34 = 32 := by kernel_rfl
@[simp] theorem ag34 : aggT Try.prog 34 = some true := by kernel_rfl
@[simp] theorem ze34 : zeroT Try.prog 34 = some [.int .i64 0, .int .i64 0, .string ByteArray.empty] := by kernel_rfl
attribute [simp] Try.underlying34
@[simp] theorem sz39 : szT Try.prog 39 = some 1 := by kernel_rfl
@[simp] theorem by39 : Try.prog.bytesOf 39 = 24 := by kernel_rfl
@[simp] theorem ag39 : aggT Try.prog 39 = some false := by kernel_rfl
@[simp] theorem ze39 : zeroT Try.prog 39 = some [.slice none 0 0] := by kernel_rfl
@[simp] theorem el39 : elemT Try.prog 39 = some (26, 3) := by kernel_rfl
attribute [simp] Try.underlying39
@[simp] theorem sz42 : szT Try.prog 42 = some 1 := by kernel_rfl
@[simp] theorem by42 : Try.prog.bytesOf 42 = 24 := by kernel_rfl
@[simp] theorem ag42 : aggT Try.prog 42 = some false := by kernel_rfl
@[simp] theorem ze42 : zeroT Try.prog 42 = some [.slice none 0 0] := by kernel_rfl
@[simp] theorem el42 : elemT Try.prog 42 = some (34, 3) := by kernel_rfl
attribute [simp] Try.underlying42
@[simp] theorem sz47 : szT Try.prog 47 = some 1 := by kernel_rfl
@[simp] theorem by47 : Try.prog.bytesOf 47 = 24 := by kernel_rfl
@[simp] theorem ag47 : aggT Try.prog 47 = some false := by kernel_rfl
@[simp] theorem ze47 : zeroT Try.prog 47 = some [.slice none 0 0] := by kernel_rfl
@[simp] theorem el47 : elemT Try.prog 47 = some (5, 1) := by kernel_rfl
attribute [simp] Try.underlying47
@[simp] theorem sz56 : szT Try.prog 56 = some 1 := by kernel_rfl
@[simp] theorem by56 : Try.prog.bytesOf 56 = 24 := by kernel_rfl
@[simp] theorem ag56 : aggT Try.prog 56 = some false := by kernel_rfl
@[simp] theorem ze56 : zeroT Try.prog 56 = some [.slice none 0 0] := by kernel_rfl
@[simp] theorem el56 : elemT Try.prog 56 = some (3, 1) := by kernel_rfl
attribute [simp] Try.underlying56
@[simp] theorem sz59 : szT Try.prog 59 = some 1 := by kernel_rfl
@[simp] theorem by59 : Try.prog.bytesOf 59 = 24 := by kernel_rfl
@[simp] theorem ag59 : aggT Try.prog 59 = some false := by kernel_rfl
@[simp] theorem ze59 : zeroT Try.prog 59 = some [.slice none 0 0] := by kernel_rfl
@[simp] theorem el59 : elemT Try.prog 59 = some (64, 2) := by kernel_rfl
attribute [simp] Try.underlying59
@[simp] theorem sz64 : szT Try.prog 64 = some 2 := by kernel_rfl
@[simp] theorem by64 : Try.prog.bytesOf 64 = 24 := by kernel_rfl
@[simp] theorem ag64 : aggT Try.prog 64 = some true := by kernel_rfl
@[simp] theorem ze64 : zeroT Try.prog 64 = some [.int .i64 0, .string ByteArray.empty] := by kernel_rfl
attribute [simp] Try.underlying64
@[simp] theorem sz66 : szT Try.prog 66 = some 1 := by kernel_rfl
@[simp] theorem by66 : Try.prog.bytesOf 66 = 24 := by kernel_rfl
@[simp] theorem ag66 : aggT Try.prog 66 = some false := by kernel_rfl
@[simp] theorem ze66 : zeroT Try.prog 66 = some [.slice none 0 0] := by kernel_rfl
@[simp] theorem el66 : elemT Try.prog 66 = some (127, 8) := by kernel_rfl
attribute [simp] Try.underlying66
@[simp] theorem sz68 : szT Try.prog 68 = some 1 := by kernel_rfl
@[simp] theorem by68 : Try.prog.bytesOf 68 = 24 := by kernel_rfl
@[simp] theorem ag68 : aggT Try.prog 68 = some false := by kernel_rfl
@[simp] theorem ze68 : zeroT Try.prog 68 = some [.slice none 0 0] := by kernel_rfl
@[simp] theorem el68 : elemT Try.prog 68 = some (128, 5) := by kernel_rfl
attribute [simp] Try.underlying68
@[simp] theorem sz70 : szT Try.prog 70 = some 1 := by kernel_rfl
@[simp] theorem by70 : Try.prog.bytesOf 70 = 24 := by kernel_rfl
@[simp] theorem ag70 : aggT Try.prog 70 = some false := by kernel_rfl
@[simp] theorem ze70 : zeroT Try.prog 70 = some [.slice none 0 0] := by kernel_rfl
@[simp] theorem el70 : elemT Try.prog 70 = some (130, 8) := by kernel_rfl
attribute [simp] Try.underlying70
@[simp] theorem sz78 : szT Try.prog 78 = some 4 := by kernel_rfl
@[simp] theorem by78 : Try.prog.bytesOf 78 = 32 := by kernel_rfl
@[simp] theorem ag78 : aggT Try.prog 78 = some true := by kernel_rfl
@[simp] theorem ze78 : zeroT Try.prog 78 = some [.int .i64 0, .int .i64 0, .int .i64 0, .int .i64 0] := by kernel_rfl
attribute [simp] Try.underlying78
@[simp] theorem sz79 : szT Try.prog 79 = some 1 := by kernel_rfl
@[simp] theorem by79 : Try.prog.bytesOf 79 = 24 := by kernel_rfl
@[simp] theorem ag79 : aggT Try.prog 79 = some false := by kernel_rfl
@[simp] theorem ze79 : zeroT Try.prog 79 = some [.slice none 0 0] := by kernel_rfl
@[simp] theorem el79 : elemT Try.prog 79 = some (175, 16) := by kernel_rfl
attribute [simp] Try.underlying79
@[simp] theorem sz80 : szT Try.prog 80 = some 1 := by kernel_rfl
@[simp] theorem by80 : Try.prog.bytesOf 80 = 24 := by kernel_rfl
@[simp] theorem ag80 : aggT Try.prog 80 = some false := by kernel_rfl
@[simp] theorem ze80 : zeroT Try.prog 80 = some [.slice none 0 0] := by kernel_rfl
@[simp] theorem el80 : elemT Try.prog 80 = some (178, 3) := by kernel_rfl
attribute [simp] Try.underlying80
@[simp] theorem sz82 : szT Try.prog 82 = some 8 := by kernel_rfl
@[simp] theorem by82 : Try.prog.bytesOf 82 = 120 := by kernel_rfl
@[simp] theorem ag82 : aggT Try.prog 82 = some true := by kernel_rfl
@[simp] theorem ze82 : zeroT Try.prog 82 = some [.int .i64 0, .int .i64 0, .int .i64 0, .int .i64 0, .string ByteArray.empty, .slice none 0 0, .slice none 0 0, .slice none 0 0] := by kernel_rfl
attribute [simp] Try.underlying82
@[simp] theorem sz85 : szT Try.prog 85 = some 4 := by kernel_rfl
@[simp] theorem by85 : Try.prog.bytesOf 85 = 32 := by kernel_rfl
@[simp] theorem ag85 : aggT Try.prog 85 = some true := by kernel_rfl
@[simp] theorem ze85 : zeroT Try.prog 85 = some [.int .i64 0, .int .i64 0, .int .i64 0, .int .i64 0] := by kernel_rfl
attribute [simp] Try.underlying85
@[simp] theorem sz86 : szT Try.prog 86 = some 1 := by kernel_rfl
@[simp] theorem by86 : Try.prog.bytesOf 86 = 24 := by kernel_rfl
@[simp] theorem ag86 : aggT Try.prog 86 = some false := by kernel_rfl
@[simp] theorem ze86 : zeroT Try.prog 86 = some [.slice none 0 0] := by kernel_rfl
@[simp] theorem el86 : elemT Try.prog 86 = some (141, 16) := by kernel_rfl
attribute [simp] Try.underlying86
@[simp] theorem sz87 : szT Try.prog 87 = some 1 := by kernel_rfl
@[simp] theorem by87 : Try.prog.bytesOf 87 = 24 := by kernel_rfl
@[simp] theorem ag87 : aggT Try.prog 87 = some false := by kernel_rfl
@[simp] theorem ze87 : zeroT Try.prog 87 = some [.slice none 0 0] := by kernel_rfl
@[simp] theorem el87 : elemT Try.prog 87 = some (180, 3) := by kernel_rfl
attribute [simp] Try.underlying87
@[simp] theorem sz89 : szT Try.prog 89 = some 8 := by kernel_rfl
@[simp] theorem by89 : Try.prog.bytesOf 89 = 120 := by kernel_rfl
@[simp] theorem ag89 : aggT Try.prog 89 = some true := by kernel_rfl
@[simp] theorem ze89 : zeroT Try.prog 89 = some [.int .i64 0, .int .i64 0, .int .i64 0, .int .i64 0, .string ByteArray.empty, .slice none 0 0, .slice none 0 0, .slice none 0 0] := by kernel_rfl
attribute [simp] Try.underlying89
@[simp] theorem sz102 : szT Try.prog 102 = some 1 := by kernel_rfl
@[simp] theorem by102 : Try.prog.bytesOf 102 = 8 := by kernel_rfl
@[simp] theorem ag102 : aggT Try.prog 102 = some false := by kernel_rfl
@[simp] theorem ze102 : zeroT Try.prog 102 = some [.pointer none] := by kernel_rfl
attribute [simp] Try.underlying102
@[simp] theorem sz115 : szT Try.prog 115 = some 3 := by kernel_rfl
@[simp] theorem by115 : Try.prog.bytesOf 115 = 32 := by kernel_rfl
@[simp] theorem ag115 : aggT Try.prog 115 = some true := by kernel_rfl
@[simp] theorem ze115 : zeroT Try.prog 115 = some [.int .i64 0, .string ByteArray.empty, .bool false] := by kernel_rfl
attribute [simp] Try.underlying115
@[simp] theorem sz118 : szT Try.prog 118 = some 1 := by kernel_rfl
@[simp] theorem by118 : Try.prog.bytesOf 118 = 8 := by kernel_rfl
@[simp] theorem ag118 : aggT Try.prog 118 = some false := by kernel_rfl
@[simp] theorem ze118 : zeroT Try.prog 118 = some [.int .u64 0] := by kernel_rfl
attribute [simp] Try.underlying118
@[simp] theorem sz123 : szT Try.prog 123 = some 1 := by kernel_rfl
@[simp] theorem by123 : Try.prog.bytesOf 123 = 24 := by kernel_rfl
@[simp] theorem ag123 : aggT Try.prog 123 = some false := by kernel_rfl
@[simp] theorem ze123 : zeroT Try.prog 123 = some [.slice none 0 0] := by kernel_rfl
@[simp] theorem el123 : elemT Try.prog 123 = some (9, 1) := by kernel_rfl
attribute [simp] Try.underlying123
@[simp] theorem sz125 : szT Try.prog 125 = some 5 := by kernel_rfl
@[simp] theorem by125 : Try.prog.bytesOf 125 = 64 := by kernel_rfl
@[simp] theorem ag125 : aggT Try.prog 125 = some true := by kernel_rfl
@[simp] theorem ze125 : zeroT Try.prog 125 = some [.int .i64 0, .string ByteArray.empty, .int .i64 0, .bool false, .slice none 0 0] := by kernel_rfl
attribute [simp] Try.underlying125
@[simp] theorem sz127 : szT Try.prog 127 = some 8 := by kernel_rfl
@[simp] theorem by127 : Try.prog.bytesOf 127 = 88 := by kernel_rfl
@[simp] theorem ag127 : aggT Try.prog 127 = some true := by kernel_rfl
@[simp] theorem ze127 : zeroT Try.prog 127 = some [.int .i64 0, .int .i64 0, .bool false, .int .i64 0, .string ByteArray.empty, .int .i64 0, .bool false, .slice none 0 0] := by kernel_rfl
attribute [simp] Try.underlying127
@[simp] theorem sz128 : szT Try.prog 128 = some 5 := by kernel_rfl
@[simp] theorem by128 : Try.prog.bytesOf 128 = 64 := by kernel_rfl
@[simp] theorem ag128 : aggT Try.prog 128 = some true := by kernel_rfl
@[simp] theorem ze128 : zeroT Try.prog 128 = some [.int .i64 0, .string ByteArray.empty, .int .i64 0, .bool false, .slice none 0 0] := by kernel_rfl
attribute [simp] Try.underlying128
@[simp] theorem sz130 : szT Try.prog 130 = some 8 := by kernel_rfl
@[simp] theorem by130 : Try.prog.bytesOf 130 = 88 := by kernel_rfl
@[simp] theorem ag130 : aggT Try.prog 130 = some true := by kernel_rfl
@[simp] theorem ze130 : zeroT Try.prog 130 = some [.int .i64 0, .int .i64 0, .bool false, .int .i64 0, .string ByteArray.empty, .int .i64 0, .bool false, .slice none 0 0] := by kernel_rfl
attribute [simp] Try.underlying130
@[simp] theorem sz139 : szT Try.prog 139 = some 6 := by kernel_rfl
@[simp] theorem by139 : Try.prog.bytesOf 139 = 72 := by kernel_rfl
@[simp] theorem ag139 : aggT Try.prog 139 = some true := by kernel_rfl
@[simp] theorem ze139 : zeroT Try.prog 139 = some [.int .i64 0, .string ByteArray.empty, .string ByteArray.empty, .int .i64 0, .int .i64 0, .string ByteArray.empty] := by kernel_rfl
attribute [simp] Try.underlying139
@[simp] theorem sz141 : szT Try.prog 141 = some 16 := by kernel_rfl
@[simp] theorem by141 : Try.prog.bytesOf 141 = 200 := by kernel_rfl
@[simp] theorem ag141 : aggT Try.prog 141 = some true := by kernel_rfl
@[simp] theorem ze141 : zeroT Try.prog 141 = some [.int .i64 0, .string ByteArray.empty, .string ByteArray.empty, .int .i64 0, .int .i64 0, .string ByteArray.empty, .int .i64 0, .string ByteArray.empty, .int .i64 0, .bool false, .slice none 0 0, .slice none 0 0, .slice none 0 0, .int .i64 0, .bool false, .bool false] := by kernel_rfl
attribute [simp] Try.underlying141
@[simp] theorem sz151 : szT Try.prog 151 = some 3 := by kernel_rfl
@[simp] theorem by151 : Try.prog.bytesOf 151 = 32 := by kernel_rfl
@[simp] theorem ag151 : aggT Try.prog 151 = some true := by kernel_rfl
@[simp] theorem ze151 : zeroT Try.prog 151 = some [.int .i64 0, .string ByteArray.empty, .bool false] := by kernel_rfl
attribute [simp] Try.underlying151
@[simp] theorem sz155 : szT Try.prog 155 = some 1 := by kernel_rfl
@[simp] theorem by155 : Try.prog.bytesOf 155 = 8 := by kernel_rfl
@[simp] theorem ag155 : aggT Try.prog 155 = some false := by kernel_rfl
@[simp] theorem ze155 : zeroT Try.prog 155 = some [.pointer none] := by kernel_rfl
attribute [simp] Try.underlying155
@[simp] theorem sz157 : szT Try.prog 157 = some 3 := by kernel_rfl
@[simp] theorem by157 : Try.prog.bytesOf 157 = 40 := by kernel_rfl
@[simp] theorem ag157 : aggT Try.prog 157 = some true := by kernel_rfl
@[simp] theorem ze157 : zeroT Try.prog 157 = some [.slice none 0 0, .int .i64 0, .int .i64 0] := by kernel_rfl
attribute [simp] Try.underlying157
@[simp] theorem sz165 : szT Try.prog 165 = some 1 := by kernel_rfl
@[simp] theorem by165 : Try.prog.bytesOf 165 = 8 := by kernel_rfl
@[simp] theorem ag165 : aggT Try.prog 165 = some false := by kernel_rfl
@[simp] theorem ze165 : zeroT Try.prog 165 = some [.nilFunc] := by kernel_rfl
attribute [simp] Try.underlying165
@[simp] theorem sz173 : szT Try.prog 173 = some 6 := by kernel_rfl
@[simp] theorem by173 : Try.prog.bytesOf 173 = 72 := by kernel_rfl
@[simp] theorem ag173 : aggT Try.prog 173 = some true := by kernel_rfl
@[simp] theorem ze173 : zeroT Try.prog 173 = some [.int .i64 0, .string ByteArray.empty, .string ByteArray.empty, .int .i64 0, .int .i64 0, .string ByteArray.empty] := by kernel_rfl
attribute [simp] Try.underlying173
@[simp] theorem sz175 : szT Try.prog 175 = some 16 := by kernel_rfl
@[simp] theorem by175 : Try.prog.bytesOf 175 = 200 := by kernel_rfl
@[simp] theorem ag175 : aggT Try.prog 175 = some true := by kernel_rfl
@[simp] theorem ze175 : zeroT Try.prog 175 = some [.int .i64 0, .string ByteArray.empty, .string ByteArray.empty, .int .i64 0, .int .i64 0, .string ByteArray.empty, .int .i64 0, .string ByteArray.empty, .int .i64 0, .bool false, .slice none 0 0, .slice none 0 0, .slice none 0 0, .int .i64 0, .bool false, .bool false] := by kernel_rfl
attribute [simp] Try.underlying175
@[simp] theorem sz178 : szT Try.prog 178 = some 3 := by kernel_rfl
@[simp] theorem by178 : Try.prog.bytesOf 178 = 48 := by kernel_rfl
@[simp] theorem ag178 : aggT Try.prog 178 = some true := by kernel_rfl
@[simp] theorem ze178 : zeroT Try.prog 178 = some [.string ByteArray.empty, .string ByteArray.empty, .string ByteArray.empty] := by kernel_rfl
attribute [simp] Try.underlying178
@[simp] theorem sz180 : szT Try.prog 180 = some 3 := by kernel_rfl
@[simp] theorem by180 : Try.prog.bytesOf 180 = 48 := by kernel_rfl
@[simp] theorem ag180 : aggT Try.prog 180 = some true := by kernel_rfl
@[simp] theorem ze180 : zeroT Try.prog 180 = some [.string ByteArray.empty, .string ByteArray.empty, .string ByteArray.empty] := by kernel_rfl
attribute [simp] Try.underlying180
@[simp] theorem sz186 : szT Try.prog 186 = some 1 := by kernel_rfl
@[simp] theorem by186 : Try.prog.bytesOf 186 = 8 := by kernel_rfl
@[simp] theorem ag186 : aggT Try.prog 186 = some false := by kernel_rfl
@[simp] theorem ze186 : zeroT Try.prog 186 = some [.nilFunc] := by kernel_rfl
attribute [simp] Try.underlying186
@[simp] theorem sz191 : szT Try.prog 191 = some 1 := by kernel_rfl
@[simp] theorem by191 : Try.prog.bytesOf 191 = 8 := by kernel_rfl
@[simp] theorem ag191 : aggT Try.prog 191 = some false := by kernel_rfl
@[simp] theorem ze191 : zeroT Try.prog 191 = some [.pointer none] := by kernel_rfl
attribute [simp] Try.underlying191
@[simp] theorem sz193 : szT Try.prog 193 = some 2 := by kernel_rfl
@[simp] theorem by193 : Try.prog.bytesOf 193 = 32 := by kernel_rfl
@[simp] theorem ag193 : aggT Try.prog 193 = some true := by kernel_rfl
@[simp] theorem ze193 : zeroT Try.prog 193 = some [.pointer none, .slice none 0 0] := by kernel_rfl
attribute [simp] Try.underlying193
@[simp] theorem sz200 : szT Try.prog 200 = some 1 := by kernel_rfl
@[simp] theorem by200 : Try.prog.bytesOf 200 = 8 := by kernel_rfl
@[simp] theorem ag200 : aggT Try.prog 200 = some false := by kernel_rfl
@[simp] theorem ze200 : zeroT Try.prog 200 = some [.int .i64 0] := by kernel_rfl
attribute [simp] Try.underlying200
@[simp] theorem sz208 : szT Try.prog 208 = some 1 := by kernel_rfl
@[simp] theorem by208 : Try.prog.bytesOf 208 = 4 := by kernel_rfl
@[simp] theorem ag208 : aggT Try.prog 208 = some false := by kernel_rfl
@[simp] theorem ze208 : zeroT Try.prog 208 = some [.int .u32 0] := by kernel_rfl
attribute [simp] Try.underlying208
@[simp] theorem sz210 : szT Try.prog 210 = some 1 := by kernel_rfl
@[simp] theorem by210 : Try.prog.bytesOf 210 = 8 := by kernel_rfl
@[simp] theorem ag210 : aggT Try.prog 210 = some false := by kernel_rfl
@[simp] theorem ze210 : zeroT Try.prog 210 = some [.int .u64 0] := by kernel_rfl
attribute [simp] Try.underlying210
@[simp] theorem sz219 : szT Try.prog 219 = some 1 := by kernel_rfl
@[simp] theorem by219 : Try.prog.bytesOf 219 = 8 := by kernel_rfl
@[simp] theorem ag219 : aggT Try.prog 219 = some false := by kernel_rfl
@[simp] theorem ze219 : zeroT Try.prog 219 = some [.pointer none] := by kernel_rfl
attribute [simp] Try.underlying219
@[simp] theorem sz220 : szT Try.prog 220 = some 1 := by kernel_rfl
@[simp] theorem by220 : Try.prog.bytesOf 220 = 8 := by kernel_rfl
@[simp] theorem ag220 : aggT Try.prog 220 = some false := by kernel_rfl
@[simp] theorem ze220 : zeroT Try.prog 220 = some [.int .u64 0] := by kernel_rfl
attribute [simp] Try.underlying220
@[simp] theorem sz224 : szT Try.prog 224 = some 1 := by kernel_rfl
@[simp] theorem by224 : Try.prog.bytesOf 224 = 8 := by kernel_rfl
@[simp] theorem ag224 : aggT Try.prog 224 = some false := by kernel_rfl
@[simp] theorem ze224 : zeroT Try.prog 224 = some [.pointer none] := by kernel_rfl
attribute [simp] Try.underlying224
@[simp] theorem sz227 : szT Try.prog 227 = some 1 := by kernel_rfl
@[simp] theorem by227 : Try.prog.bytesOf 227 = 8 := by kernel_rfl
@[simp] theorem ag227 : aggT Try.prog 227 = some false := by kernel_rfl
@[simp] theorem ze227 : zeroT Try.prog 227 = some [.pointer none] := by kernel_rfl
attribute [simp] Try.underlying227
theorem mixed : Try.prog.follows .mixedOrders = true := by kernel_rfl
end Go.Proofs.Ytjjdjkkhhcbogaa.DM
