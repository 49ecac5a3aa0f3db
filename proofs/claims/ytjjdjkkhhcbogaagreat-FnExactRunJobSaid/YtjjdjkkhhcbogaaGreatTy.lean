import Derived.Test.YtjjdjkkhhcbogaaGreatDB
import Derived.Test.YtjjdjkkhhcbogaaGreatProg
namespace Go.Proofs.YtjjdjkkhhcbogaaGreat.DM
@[simp] theorem sz3 : szT Tryz.prog 3 = some 1 := by kernel_rfl
@[simp] theorem by3 : Tryz.prog.bytesOf 3 = 8 := by kernel_rfl
@[simp] theorem ag3 : aggT Tryz.prog 3 = some false := by kernel_rfl
@[simp] theorem ze3 : zeroT Tryz.prog 3 = some [.int .i64 0] := by kernel_rfl
attribute [simp] Tryz.underlying3
@[simp] theorem sz4 : szT Tryz.prog 4 = some 1 := by kernel_rfl
@[simp] theorem by4 : Tryz.prog.bytesOf 4 = 1 := by kernel_rfl
@[simp] theorem ag4 : aggT Tryz.prog 4 = some false := by kernel_rfl
@[simp] theorem ze4 : zeroT Tryz.prog 4 = some [.bool false] := by kernel_rfl
attribute [simp] Tryz.underlying4
@[simp] theorem sz5 : szT Tryz.prog 5 = some 1 := by kernel_rfl
@[simp] theorem by5 : Tryz.prog.bytesOf 5 = 1 := by kernel_rfl
@[simp] theorem ag5 : aggT Tryz.prog 5 = some false := by kernel_rfl
@[simp] theorem ze5 : zeroT Tryz.prog 5 = some [.int .u8 0] := by kernel_rfl
attribute [simp] Tryz.underlying5
@[simp] theorem sz9 : szT Tryz.prog 9 = some 1 := by kernel_rfl
@[simp] theorem by9 : Tryz.prog.bytesOf 9 = 16 := by kernel_rfl
@[simp] theorem ag9 : aggT Tryz.prog 9 = some false := by kernel_rfl
@[simp] theorem ze9 : zeroT Tryz.prog 9 = some [.string ByteArray.empty] := by kernel_rfl
attribute [simp] Tryz.underlying9
@[simp] theorem sz23 : szT Tryz.prog 23 = some 4 := by kernel_rfl
@[simp] theorem by23 : Tryz.prog.bytesOf 23 = 32 := by kernel_rfl
@[simp] theorem ag23 : aggT Tryz.prog 23 = some true := by kernel_rfl
@[simp] theorem ze23 : zeroT Tryz.prog 23 = some [.int .i64 0, .int .i64 0, .int .i64 0, .int .i64 0] := by kernel_rfl
attribute [simp] Tryz.underlying23
@[simp] theorem sz24 : szT Tryz.prog 24 = some 1 := by kernel_rfl
@[simp] theorem by24 : Tryz.prog.bytesOf 24 = 24 := by kernel_rfl
@[simp] theorem ag24 : aggT Tryz.prog 24 = some false := by kernel_rfl
@[simp] theorem ze24 : zeroT Tryz.prog 24 = some [.slice none 0 0] := by kernel_rfl
@[simp] theorem el24 : elemT Tryz.prog 24 = some (3, 1) := by kernel_rfl
attribute [simp] Tryz.underlying24
@[simp] theorem sz25 : szT Tryz.prog 25 = some 1 := by kernel_rfl
@[simp] theorem by25 : Tryz.prog.bytesOf 25 = 24 := by kernel_rfl
@[simp] theorem ag25 : aggT Tryz.prog 25 = some false := by kernel_rfl
@[simp] theorem ze25 : zeroT Tryz.prog 25 = some [.slice none 0 0] := by kernel_rfl
@[simp] theorem el25 : elemT Tryz.prog 25 = some (147, 6) := by kernel_rfl
attribute [simp] Tryz.underlying25
@[simp] theorem sz27 : szT Tryz.prog 27 = some 3 := by kernel_rfl
@[simp] theorem by27 : Tryz.prog.bytesOf 27 = 56 := by kernel_rfl
@[simp] theorem ag27 : aggT Tryz.prog 27 = some true := by kernel_rfl
@[simp] theorem ze27 : zeroT Tryz.prog 27 = some [.int .i64 0, .slice none 0 0, .slice none 0 0] := by kernel_rfl
attribute [simp] Tryz.underlying27
@[simp] theorem sz29 : szT Tryz.prog 29 = some 1 := by kernel_rfl
@[simp] theorem by29 : Tryz.prog.bytesOf 29 = 24 := by kernel_rfl
@[simp] theorem ag29 : aggT Tryz.prog 29 = some false := by kernel_rfl
@[simp] theorem ze29 : zeroT Tryz.prog 29 = some [.slice none 0 0] := by kernel_rfl
@[simp] theorem el29 : elemT Tryz.prog 29 = some (104, 3) := by kernel_rfl
attribute [simp] Tryz.underlying29
@[simp] theorem sz31 : szT Tryz.prog 31 = some 4 := by kernel_rfl
@[simp] theorem by31 : Tryz.prog.bytesOf 31 = 32 := by kernel_rfl
@[simp] theorem ag31 : aggT Tryz.prog 31 = some true := by kernel_rfl
@[simp] theorem ze31 : zeroT Tryz.prog 31 = some [.int .i64 0, .int .i64 0, .int .i64 0, .int .i64 0] := by kernel_rfl
attribute [simp] Tryz.underlying31
@[simp] theorem sz33 : szT Tryz.prog 33 = some 1 := by kernel_rfl
@[simp] theorem by33 : Tryz.prog.bytesOf 33 = 24 := by kernel_rfl
@[simp] theorem ag33 : aggT Tryz.prog 33 = some false := by kernel_rfl
@[simp] theorem ze33 : zeroT Tryz.prog 33 = some [.slice none 0 0] := by kernel_rfl
@[simp] theorem el33 : elemT Tryz.prog 33 = some (155, 6) := by kernel_rfl
attribute [simp] Tryz.underlying33
@[simp] theorem sz35 : szT Tryz.prog 35 = some 3 := by kernel_rfl
@[simp] theorem by35 : Tryz.prog.bytesOf 35 = 56 := by kernel_rfl
@[simp] theorem ag35 : aggT Tryz.prog 35 = some true := by kernel_rfl
@[simp] theorem ze35 : zeroT Tryz.prog 35 = some [.int .i64 0, .slice none 0 0, .slice none 0 0] := by kernel_rfl
attribute [simp] Tryz.underlying35
@[simp] theorem sz42 : szT Tryz.prog 42 = some 1 := by kernel_rfl
@[simp] theorem by42 : Tryz.prog.bytesOf 42 = 24 := by kernel_rfl
@[simp] theorem ag42 : aggT Tryz.prog 42 = some false := by kernel_rfl
@[simp] theorem ze42 : zeroT Tryz.prog 42 = some [.slice none 0 0] := by kernel_rfl
@[simp] theorem el42 : elemT Tryz.prog 42 = some (171, 3) := by kernel_rfl
attribute [simp] Tryz.underlying42
@[simp] theorem sz44 : szT Tryz.prog 44 = some 2 := by kernel_rfl
@[simp] theorem by44 : Tryz.prog.bytesOf 44 = 40 := by kernel_rfl
@[simp] theorem ag44 : aggT Tryz.prog 44 = some true := by kernel_rfl
@[simp] theorem ze44 : zeroT Tryz.prog 44 = some [.string ByteArray.empty, .slice none 0 0] := by kernel_rfl
attribute [simp] Tryz.underlying44
@[simp] theorem sz49 : szT Tryz.prog 49 = some 1 := by kernel_rfl
@[simp] theorem by49 : Tryz.prog.bytesOf 49 = 24 := by kernel_rfl
@[simp] theorem ag49 : aggT Tryz.prog 49 = some false := by kernel_rfl
@[simp] theorem ze49 : zeroT Tryz.prog 49 = some [.slice none 0 0] := by kernel_rfl
@[simp] theorem el49 : elemT Tryz.prog 49 = some (133, 16) := by kernel_rfl
attribute [simp] Tryz.underlying49
@[simp] theorem sz50 : szT Tryz.prog 50 = some 1 := by kernel_rfl
@[simp] theorem by50 : Tryz.prog.bytesOf 50 = 24 := by kernel_rfl
@[simp] theorem ag50 : aggT Tryz.prog 50 = some false := by kernel_rfl
@[simp] theorem ze50 : zeroT Tryz.prog 50 = some [.slice none 0 0] := by kernel_rfl
@[simp] theorem el50 : elemT Tryz.prog 50 = some (175, 3) := by kernel_rfl
attribute [simp] Tryz.underlying50
@[simp] theorem sz52 : szT Tryz.prog 52 = some 8 := by kernel_rfl
@[simp] theorem by52 : Tryz.prog.bytesOf 52 = 120 := by kernel_rfl
@[simp] theorem ag52 : aggT Tryz.prog 52 = some true := by kernel_rfl
@[simp] theorem ze52 : zeroT Tryz.prog 52 = some [.int .i64 0, .int .i64 0, .int .i64 0, .int .i64 0, .string ByteArray.empty, .slice none 0 0, .slice none 0 0, .slice none 0 0] := by kernel_rfl
attribute [simp] Tryz.underlying52
@[simp] theorem sz57 : szT Tryz.prog 57 = some 1 := by kernel_rfl
@[simp] theorem by57 : Tryz.prog.bytesOf 57 = 24 := by kernel_rfl
@[simp] theorem ag57 : aggT Tryz.prog 57 = some false := by kernel_rfl
@[simp] theorem ze57 : zeroT Tryz.prog 57 = some [.slice none 0 0] := by kernel_rfl
@[simp] theorem el57 : elemT Tryz.prog 57 = some (179, 1) := by kernel_rfl
attribute [simp] Tryz.underlying57
@[simp] theorem sz59 : szT Tryz.prog 59 = some 11 := by kernel_rfl
@[simp] theorem by59 : Tryz.prog.bytesOf 59 = 176 := by kernel_rfl
@[simp] theorem ag59 : aggT Tryz.prog 59 = some true := by kernel_rfl
@[simp] theorem ze59 : zeroT Tryz.prog 59 = some [.int .i64 0, .int .i64 0, .int .i64 0, .int .i64 0, .string ByteArray.empty, .slice none 0 0, .slice none 0 0, .slice none 0 0, .slice none 0 0, .slice none 0 0, .int .i64 0] := by kernel_rfl
attribute [simp] Tryz.underlying59
@[simp] theorem sz64 : szT Tryz.prog 64 = some 1 := by kernel_rfl
@[simp] theorem by64 : Tryz.prog.bytesOf 64 = 24 := by kernel_rfl
@[simp] theorem ag64 : aggT Tryz.prog 64 = some false := by kernel_rfl
@[simp] theorem ze64 : zeroT Tryz.prog 64 = some [.slice none 0 0] := by kernel_rfl
@[simp] theorem el64 : elemT Tryz.prog 64 = some (238, 3) := by kernel_rfl
attribute [simp] Tryz.underlying64
@[simp] theorem sz66 : szT Tryz.prog 66 = some 2 := by kernel_rfl
@[simp] theorem by66 : Tryz.prog.bytesOf 66 = 40 := by kernel_rfl
@[simp] theorem ag66 : aggT Tryz.prog 66 = some true := by kernel_rfl
@[simp] theorem ze66 : zeroT Tryz.prog 66 = some [.string ByteArray.empty, .slice none 0 0] := by kernel_rfl
attribute [simp] Tryz.underlying66
@[simp] theorem sz67 : szT Tryz.prog 67 = some 1 := by kernel_rfl
@[simp] theorem by67 : Tryz.prog.bytesOf 67 = 24 := by kernel_rfl
@[simp] theorem ag67 : aggT Tryz.prog 67 = some false := by kernel_rfl
@[simp] theorem ze67 : zeroT Tryz.prog 67 = some [.slice none 0 0] := by kernel_rfl
@[simp] theorem el67 : elemT Tryz.prog 67 = some (187, 16) := by kernel_rfl
attribute [simp] Tryz.underlying67
@[simp] theorem sz68 : szT Tryz.prog 68 = some 1 := by kernel_rfl
@[simp] theorem by68 : Tryz.prog.bytesOf 68 = 24 := by kernel_rfl
@[simp] theorem ag68 : aggT Tryz.prog 68 = some false := by kernel_rfl
@[simp] theorem ze68 : zeroT Tryz.prog 68 = some [.slice none 0 0] := by kernel_rfl
@[simp] theorem el68 : elemT Tryz.prog 68 = some (189, 3) := by kernel_rfl
attribute [simp] Tryz.underlying68
@[simp] theorem sz70 : szT Tryz.prog 70 = some 8 := by kernel_rfl
@[simp] theorem by70 : Tryz.prog.bytesOf 70 = 120 := by kernel_rfl
@[simp] theorem ag70 : aggT Tryz.prog 70 = some true := by kernel_rfl
@[simp] theorem ze70 : zeroT Tryz.prog 70 = some [.int .i64 0, .int .i64 0, .int .i64 0, .int .i64 0, .string ByteArray.empty, .slice none 0 0, .slice none 0 0, .slice none 0 0] := by kernel_rfl
attribute [simp] Tryz.underlying70
@[simp] theorem sz72 : szT Tryz.prog 72 = some 1 := by kernel_rfl
@[simp] theorem by72 : Tryz.prog.bytesOf 72 = 24 := by kernel_rfl
@[simp] theorem ag72 : aggT Tryz.prog 72 = some false := by kernel_rfl
@[simp] theorem ze72 : zeroT Tryz.prog 72 = some [.slice none 0 0] := by kernel_rfl
@[simp] theorem el72 : elemT Tryz.prog 72 = some (9, 1) := by kernel_rfl
attribute [simp] Tryz.underlying72
@[simp] theorem sz74 : szT Tryz.prog 74 = some 5 := by kernel_rfl
@[simp] theorem by74 : Tryz.prog.bytesOf 74 = 64 := by kernel_rfl
@[simp] theorem ag74 : aggT Tryz.prog 74 = some true := by kernel_rfl
@[simp] theorem ze74 : zeroT Tryz.prog 74 = some [.int .i64 0, .string ByteArray.empty, .int .i64 0, .bool false, .slice none 0 0] := by kernel_rfl
attribute [simp] Tryz.underlying74
@[simp] theorem sz88 : szT Tryz.prog 88 = some 1 := by kernel_rfl
@[simp] theorem by88 : Tryz.prog.bytesOf 88 = 24 := by kernel_rfl
@[simp] theorem ag88 : aggT Tryz.prog 88 = some false := by kernel_rfl
@[simp] theorem ze88 : zeroT Tryz.prog 88 = some [.slice none 0 0] := by kernel_rfl
@[simp] theorem el88 : elemT Tryz.prog 88 = some (149, 2) := by kernel_rfl
attribute [simp] Tryz.underlying88
@[simp] theorem sz104 : szT Tryz.prog 104 = some 3 := by kernel_rfl
@[simp] theorem by104 : Tryz.prog.bytesOf 104 = 32 := by kernel_rfl
@[simp] theorem ag104 : aggT Tryz.prog 104 = some true := by kernel_rfl
@[simp] theorem ze104 : zeroT Tryz.prog 104 = some [.int .i64 0, .int .i64 0, .string ByteArray.empty] := by kernel_rfl
attribute [simp] Tryz.underlying104
@[simp] theorem sz131 : szT Tryz.prog 131 = some 6 := by kernel_rfl
@[simp] theorem by131 : Tryz.prog.bytesOf 131 = 72 := by kernel_rfl
@[simp] theorem ag131 : aggT Tryz.prog 131 = some true := by kernel_rfl
@[simp] theorem ze131 : zeroT Tryz.prog 131 = some [.int .i64 0, .string ByteArray.empty, .string ByteArray.empty, .int .i64 0, .int .i64 0, .string ByteArray.empty] := by kernel_rfl
attribute [simp] Tryz.underlying131
@[simp] theorem sz133 : szT Tryz.prog 133 = some 16 := by kernel_rfl
@[simp] theorem by133 : Tryz.prog.bytesOf 133 = 200 := by kernel_rfl
@[simp] theorem ag133 : aggT Tryz.prog 133 = some true := by kernel_rfl
@[simp] theorem ze133 : zeroT Tryz.prog 133 = some [.int .i64 0, .string ByteArray.empty, .string ByteArray.empty, .int .i64 0, .int .i64 0, .string ByteArray.empty, .int .i64 0, .string ByteArray.empty, .int .i64 0, .bool false, .slice none 0 0, .slice none 0 0, .slice none 0 0, .int .i64 0, .bool false, .bool false] := by kernel_rfl
attribute [simp] Tryz.underlying133
@[simp] theorem sz144 : szT Tryz.prog 144 = some 1 := by kernel_rfl
@[simp] theorem by144 : Tryz.prog.bytesOf 144 = 24 := by kernel_rfl
@[simp] theorem ag144 : aggT Tryz.prog 144 = some false := by kernel_rfl
@[simp] theorem ze144 : zeroT Tryz.prog 144 = some [.slice none 0 0] := by kernel_rfl
@[simp] theorem el144 : elemT Tryz.prog 144 = some (253, 3) := by kernel_rfl
attribute [simp] Tryz.underlying144
@[simp] theorem sz145 : szT Tryz.prog 145 = some 1 := by kernel_rfl
@[simp] theorem by145 : Tryz.prog.bytesOf 145 = 24 := by kernel_rfl
@[simp] theorem ag145 : aggT Tryz.prog 145 = some false := by kernel_rfl
@[simp] theorem ze145 : zeroT Tryz.prog 145 = some [.slice none 0 0] := by kernel_rfl
@[simp] theorem el145 : elemT Tryz.prog 145 = some (255, 2) := by kernel_rfl
attribute [simp] Tryz.underlying145
@[simp] theorem sz147 : szT Tryz.prog 147 = some 6 := by kernel_rfl
@[simp] theorem by147 : Tryz.prog.bytesOf 147 = 88 := by kernel_rfl
@[simp] theorem ag147 : aggT Tryz.prog 147 = some true := by kernel_rfl
@[simp] theorem ze147 : zeroT Tryz.prog 147 = some [.int .i64 0, .int .i64 0, .int .i64 0, .string ByteArray.empty, .slice none 0 0, .slice none 0 0] := by kernel_rfl
attribute [simp] Tryz.underlying147
@[simp] theorem sz149 : szT Tryz.prog 149 = some 2 := by kernel_rfl
@[simp] theorem by149 : Tryz.prog.bytesOf 149 = 24 := by kernel_rfl
@[simp] theorem ag149 : aggT Tryz.prog 149 = some true := by kernel_rfl
@[simp] theorem ze149 : zeroT Tryz.prog 149 = some [.int .i64 0, .string ByteArray.empty] := by kernel_rfl
attribute [simp] Tryz.underlying149
@[simp] theorem sz152 : szT Tryz.prog 152 = some 1 := by kernel_rfl
@[simp] theorem by152 : Tryz.prog.bytesOf 152 = 24 := by kernel_rfl
@[simp] theorem ag152 : aggT Tryz.prog 152 = some false := by kernel_rfl
@[simp] theorem ze152 : zeroT Tryz.prog 152 = some [.slice none 0 0] := by kernel_rfl
@[simp] theorem el152 : elemT Tryz.prog 152 = some (223, 3) := by kernel_rfl
attribute [simp] Tryz.underlying152
@[simp] theorem sz153 : szT Tryz.prog 153 = some 1 := by kernel_rfl
@[simp] theorem by153 : Tryz.prog.bytesOf 153 = 24 := by kernel_rfl
@[simp] theorem ag153 : aggT Tryz.prog 153 = some false := by kernel_rfl
@[simp] theorem ze153 : zeroT Tryz.prog 153 = some [.slice none 0 0] := by kernel_rfl
@[simp] theorem el153 : elemT Tryz.prog 153 = some (225, 2) := by kernel_rfl
attribute [simp] Tryz.underlying153
@[simp] theorem sz155 : szT Tryz.prog 155 = some 6 := by kernel_rfl
@[simp] theorem by155 : Tryz.prog.bytesOf 155 = 88 := by kernel_rfl
@[simp] theorem ag155 : aggT Tryz.prog 155 = some true := by kernel_rfl
@[simp] theorem ze155 : zeroT Tryz.prog 155 = some [.int .i64 0, .int .i64 0, .int .i64 0, .string ByteArray.empty, .slice none 0 0, .slice none 0 0] := by kernel_rfl
attribute [simp] Tryz.underlying155
@[simp] theorem sz158 : szT Tryz.prog 158 = some 1 := by kernel_rfl
@[simp] theorem by158 : Tryz.prog.bytesOf 158 = 8 := by kernel_rfl
@[simp] theorem ag158 : aggT Tryz.prog 158 = some false := by kernel_rfl
@[simp] theorem ze158 : zeroT Tryz.prog 158 = some [.nilFunc] := by kernel_rfl
attribute [simp] Tryz.underlying158
@[simp] theorem sz160 : szT Tryz.prog 160 = some 1 := by kernel_rfl
@[simp] theorem by160 : Tryz.prog.bytesOf 160 = 24 := by kernel_rfl
@[simp] theorem ag160 : aggT Tryz.prog 160 = some false := by kernel_rfl
@[simp] theorem ze160 : zeroT Tryz.prog 160 = some [.slice none 0 0] := by kernel_rfl
@[simp] theorem el160 : elemT Tryz.prog 160 = some (5, 1) := by kernel_rfl
attribute [simp] Tryz.underlying160
@[simp] theorem sz171 : szT Tryz.prog 171 = some 3 := by kernel_rfl
@[simp] theorem by171 : Tryz.prog.bytesOf 171 = 32 := by kernel_rfl
@[simp] theorem ag171 : aggT Tryz.prog 171 = some true := by kernel_rfl
@[simp] theorem ze171 : zeroT Tryz.prog 171 = some [.int .i64 0, .string ByteArray.empty, .bool false] := by kernel_rfl
attribute [simp] Tryz.underlying171
@[simp] theorem sz175 : szT Tryz.prog 175 = some 3 := by kernel_rfl
@[simp] theorem by175 : Tryz.prog.bytesOf 175 = 48 := by kernel_rfl
@[simp] theorem ag175 : aggT Tryz.prog 175 = some true := by kernel_rfl
@[simp] theorem ze175 : zeroT Tryz.prog 175 = some [.string ByteArray.empty, .string ByteArray.empty, .string ByteArray.empty] := by kernel_rfl
attribute [simp] Tryz.underlying175
@[simp] theorem sz177 : szT Tryz.prog 177 = some 1 := by kernel_rfl
@[simp] theorem by177 : Tryz.prog.bytesOf 177 = 24 := by kernel_rfl
@[simp] theorem ag177 : aggT Tryz.prog 177 = some false := by kernel_rfl
@[simp] theorem ze177 : zeroT Tryz.prog 177 = some [.slice none 0 0] := by kernel_rfl
@[simp] theorem el177 : elemT Tryz.prog 177 = some (236, 3) := by kernel_rfl
attribute [simp] Tryz.underlying177
@[simp] theorem sz179 : szT Tryz.prog 179 = some 1 := by kernel_rfl
@[simp] theorem by179 : Tryz.prog.bytesOf 179 = 24 := by kernel_rfl
@[simp] theorem ag179 : aggT Tryz.prog 179 = some true := by kernel_rfl
@[simp] theorem ze179 : zeroT Tryz.prog 179 = some [.slice none 0 0] := by kernel_rfl
attribute [simp] Tryz.underlying179
@[simp] theorem sz183 : szT Tryz.prog 183 = some 6 := by kernel_rfl
@[simp] theorem by183 : Tryz.prog.bytesOf 183 = 72 := by kernel_rfl
@[simp] theorem ag183 : aggT Tryz.prog 183 = some true := by kernel_rfl
@[simp] theorem ze183 : zeroT Tryz.prog 183 = some [.int .i64 0, .string ByteArray.empty, .string ByteArray.empty, .int .i64 0, .int .i64 0, .string ByteArray.empty] := by kernel_rfl
attribute [simp] Tryz.underlying183
@[simp] theorem sz184 : szT Tryz.prog 184 = some 5 := by kernel_rfl
@[simp] theorem by184 : Tryz.prog.bytesOf 184 = 64 := by kernel_rfl
@[simp] theorem ag184 : aggT Tryz.prog 184 = some true := by kernel_rfl
@[simp] theorem ze184 : zeroT Tryz.prog 184 = some [.int .i64 0, .string ByteArray.empty, .int .i64 0, .bool false, .slice none 0 0] := by kernel_rfl
attribute [simp] Tryz.underlying184
@[simp] theorem sz185 : szT Tryz.prog 185 = some 1 := by kernel_rfl
@[simp] theorem by185 : Tryz.prog.bytesOf 185 = 24 := by kernel_rfl
@[simp] theorem ag185 : aggT Tryz.prog 185 = some false := by kernel_rfl
@[simp] theorem ze185 : zeroT Tryz.prog 185 = some [.slice none 0 0] := by kernel_rfl
@[simp] theorem el185 : elemT Tryz.prog 185 = some (278, 3) := by kernel_rfl
attribute [simp] Tryz.underlying185
@[simp] theorem sz187 : szT Tryz.prog 187 = some 16 := by kernel_rfl
@[simp] theorem by187 : Tryz.prog.bytesOf 187 = 200 := by kernel_rfl
@[simp] theorem ag187 : aggT Tryz.prog 187 = some true := by kernel_rfl
@[simp] theorem ze187 : zeroT Tryz.prog 187 = some [.int .i64 0, .string ByteArray.empty, .string ByteArray.empty, .int .i64 0, .int .i64 0, .string ByteArray.empty, .int .i64 0, .string ByteArray.empty, .int .i64 0, .bool false, .slice none 0 0, .slice none 0 0, .slice none 0 0, .int .i64 0, .bool false, .bool false] := by kernel_rfl
attribute [simp] Tryz.underlying187
@[simp] theorem sz189 : szT Tryz.prog 189 = some 3 := by kernel_rfl
@[simp] theorem by189 : Tryz.prog.bytesOf 189 = 48 := by kernel_rfl
@[simp] theorem ag189 : aggT Tryz.prog 189 = some true := by kernel_rfl
@[simp] theorem ze189 : zeroT Tryz.prog 189 = some [.string ByteArray.empty, .string ByteArray.empty, .string ByteArray.empty] := by kernel_rfl
attribute [simp] Tryz.underlying189
@[simp] theorem sz206 : szT Tryz.prog 206 = some 1 := by kernel_rfl
@[simp] theorem by206 : Tryz.prog.bytesOf 206 = 8 := by kernel_rfl
@[simp] theorem ag206 : aggT Tryz.prog 206 = some false := by kernel_rfl
@[simp] theorem ze206 : zeroT Tryz.prog 206 = some [.int .u64 0] := by kernel_rfl
attribute [simp] Tryz.underlying206
@[simp] theorem sz210 : szT Tryz.prog 210 = some 1 := by kernel_rfl
@[simp] theorem by210 : Tryz.prog.bytesOf 210 = 8 := by kernel_rfl
@[simp] theorem ag210 : aggT Tryz.prog 210 = some false := by kernel_rfl
@[simp] theorem ze210 : zeroT Tryz.prog 210 = some [.pointer none] := by kernel_rfl
attribute [simp] Tryz.underlying210
@[simp] theorem sz212 : szT Tryz.prog 212 = some 2 := by kernel_rfl
@[simp] theorem by212 : Tryz.prog.bytesOf 212 = 32 := by kernel_rfl
@[simp] theorem ag212 : aggT Tryz.prog 212 = some true := by kernel_rfl
@[simp] theorem ze212 : zeroT Tryz.prog 212 = some [.pointer none, .slice none 0 0] := by kernel_rfl
attribute [simp] Tryz.underlying212
@[simp] theorem sz223 : szT Tryz.prog 223 = some 3 := by kernel_rfl
@[simp] theorem by223 : Tryz.prog.bytesOf 223 = 32 := by kernel_rfl
@[simp] theorem ag223 : aggT Tryz.prog 223 = some true := by kernel_rfl
@[simp] theorem ze223 : zeroT Tryz.prog 223 = some [.int .i64 0, .int .i64 0, .string ByteArray.empty] := by kernel_rfl
attribute [simp] Tryz.underlying223
@[simp] theorem sz225 : szT Tryz.prog 225 = some 2 := by kernel_rfl
@[simp] theorem by225 : Tryz.prog.bytesOf 225 = 24 := by kernel_rfl
@[simp] theorem ag225 : aggT Tryz.prog 225 = some true := by kernel_rfl
@[simp] theorem ze225 : zeroT Tryz.prog 225 = some [.int .i64 0, .string ByteArray.empty] := by kernel_rfl
attribute [simp] Tryz.underlying225
@[simp] theorem sz228 : szT Tryz.prog 228 = some 1 := by kernel_rfl
@[simp] theorem by228 : Tryz.prog.bytesOf 228 = 8 := by kernel_rfl
@[simp] theorem ag228 : aggT Tryz.prog 228 = some false := by kernel_rfl
@[simp] theorem ze228 : zeroT Tryz.prog 228 = some [.pointer none] := by kernel_rfl
attribute [simp] Tryz.underlying228
@[simp] theorem sz236 : szT Tryz.prog 236 = some 3 := by kernel_rfl
@[simp] theorem by236 : Tryz.prog.bytesOf 236 = 40 := by kernel_rfl
@[simp] theorem ag236 : aggT Tryz.prog 236 = some true := by kernel_rfl
@[simp] theorem ze236 : zeroT Tryz.prog 236 = some [.string ByteArray.empty, .bool false, .string ByteArray.empty] := by kernel_rfl
attribute [simp] Tryz.underlying236
@[simp] theorem sz238 : szT Tryz.prog 238 = some 3 := by kernel_rfl
@[simp] theorem by238 : Tryz.prog.bytesOf 238 = 32 := by kernel_rfl
@[simp] theorem ag238 : aggT Tryz.prog 238 = some true := by kernel_rfl
@[simp] theorem ze238 : zeroT Tryz.prog 238 = some [.int .i64 0, .string ByteArray.empty, .bool false] := by kernel_rfl
attribute [simp] Tryz.underlying238
@[simp] theorem sz251 : szT Tryz.prog 251 = some 1 := by kernel_rfl
@[simp] theorem by251 : Tryz.prog.bytesOf 251 = 8 := by kernel_rfl
@[simp] theorem ag251 : aggT Tryz.prog 251 = some false := by kernel_rfl
@[simp] theorem ze251 : zeroT Tryz.prog 251 = some [.nilFunc] := by kernel_rfl
attribute [simp] Tryz.underlying251
@[simp] theorem sz253 : szT Tryz.prog 253 = some 3 := by kernel_rfl
@[simp] theorem by253 : Tryz.prog.bytesOf 253 = 32 := by kernel_rfl
@[simp] theorem ag253 : aggT Tryz.prog 253 = some true := by kernel_rfl
@[simp] theorem ze253 : zeroT Tryz.prog 253 = some [.int .i64 0, .int .i64 0, .string ByteArray.empty] := by kernel_rfl
attribute [simp] Tryz.underlying253
@[simp] theorem sz255 : szT Tryz.prog 255 = some 2 := by kernel_rfl
@[simp] theorem by255 : Tryz.prog.bytesOf 255 = 24 := by kernel_rfl
@[simp] theorem ag255 : aggT Tryz.prog 255 = some true := by kernel_rfl
@[simp] theorem ze255 : zeroT Tryz.prog 255 = some [.int .i64 0, .string ByteArray.empty] := by kernel_rfl
attribute [simp] Tryz.underlying255
@[simp] theorem sz258 : szT Tryz.prog 258 = some 1 := by kernel_rfl
@[simp] theorem by258 : Tryz.prog.bytesOf 258 = 4 := by kernel_rfl
@[simp] theorem ag258 : aggT Tryz.prog 258 = some false := by kernel_rfl
@[simp] theorem ze258 : zeroT Tryz.prog 258 = some [.int .u32 0] := by kernel_rfl
attribute [simp] Tryz.underlying258
@[simp] theorem sz261 : szT Tryz.prog 261 = some 1 := by kernel_rfl
@[simp] theorem by261 : Tryz.prog.bytesOf 261 = 8 := by kernel_rfl
@[simp] theorem ag261 : aggT Tryz.prog 261 = some false := by kernel_rfl
@[simp] theorem ze261 : zeroT Tryz.prog 261 = some [.int .u64 0] := by kernel_rfl
attribute [simp] Tryz.underlying261
@[simp] theorem sz264 : szT Tryz.prog 264 = some 1 := by kernel_rfl
@[simp] theorem by264 : Tryz.prog.bytesOf 264 = 8 := by kernel_rfl
@[simp] theorem ag264 : aggT Tryz.prog 264 = some false := by kernel_rfl
@[simp] theorem ze264 : zeroT Tryz.prog 264 = some [.pointer none] := by kernel_rfl
attribute [simp] Tryz.underlying264
@[simp] theorem sz274 : szT Tryz.prog 274 = some 1 := by kernel_rfl
@[simp] theorem by274 : Tryz.prog.bytesOf 274 = 8 := by kernel_rfl
@[simp] theorem ag274 : aggT Tryz.prog 274 = some false := by kernel_rfl
@[simp] theorem ze274 : zeroT Tryz.prog 274 = some [.nilFunc] := by kernel_rfl
attribute [simp] Tryz.underlying274
@[simp] theorem sz278 : szT Tryz.prog 278 = some 3 := by kernel_rfl
@[simp] theorem by278 : Tryz.prog.bytesOf 278 = 32 := by kernel_rfl
@[simp] theorem ag278 : aggT Tryz.prog 278 = some true := by kernel_rfl
@[simp] theorem ze278 : zeroT Tryz.prog 278 = some [.int .i64 0, .int .i64 0, .string ByteArray.empty] := by kernel_rfl
attribute [simp] Tryz.underlying278
@[simp] theorem sz283 : szT Tryz.prog 283 = some 1 := by kernel_rfl
@[simp] theorem by283 : Tryz.prog.bytesOf 283 = 8 := by kernel_rfl
@[simp] theorem ag283 : aggT Tryz.prog 283 = some false := by kernel_rfl
@[simp] theorem ze283 : zeroT Tryz.prog 283 = some [.pointer none] := by kernel_rfl
attribute [simp] Tryz.underlying283
@[simp] theorem sz287 : szT Tryz.prog 287 = some 1 := by kernel_rfl
@[simp] theorem by287 : Tryz.prog.bytesOf 287 = 8 := by kernel_rfl
@[simp] theorem ag287 : aggT Tryz.prog 287 = some false := by kernel_rfl
@[simp] theorem ze287 : zeroT Tryz.prog 287 = some [.int .i64 0] := by kernel_rfl
attribute [simp] Tryz.underlying287
@[simp] theorem sz298 : szT Tryz.prog 298 = some 1 := by kernel_rfl
@[simp] theorem by298 : Tryz.prog.bytesOf 298 = 8 := by kernel_rfl
@[simp] theorem ag298 : aggT Tryz.prog 298 = some false := by kernel_rfl
@[simp] theorem ze298 : zeroT Tryz.prog 298 = some [.nilFunc] := by kernel_rfl
attribute [simp] Tryz.underlying298
@[simp] theorem sz300 : szT Tryz.prog 300 = some 1 := by kernel_rfl
@[simp] theorem by300 : Tryz.prog.bytesOf 300 = 8 := by kernel_rfl
@[simp] theorem ag300 : aggT Tryz.prog 300 = some false := by kernel_rfl
@[simp] theorem ze300 : zeroT Tryz.prog 300 = some [.int .u64 0] := by kernel_rfl
attribute [simp] Tryz.underlying300
@[simp] theorem sz304 : szT Tryz.prog 304 = some 1 := by kernel_rfl
@[simp] theorem by304 : Tryz.prog.bytesOf 304 = 8 := by kernel_rfl
@[simp] theorem ag304 : aggT Tryz.prog 304 = some false := by kernel_rfl
@[simp] theorem ze304 : zeroT Tryz.prog 304 = some [.pointer none] := by kernel_rfl
attribute [simp] Tryz.underlying304
theorem mixed : Tryz.prog.follows .mixedOrders = true := by kernel_rfl
end Go.Proofs.YtjjdjkkhhcbogaaGreat.DM
