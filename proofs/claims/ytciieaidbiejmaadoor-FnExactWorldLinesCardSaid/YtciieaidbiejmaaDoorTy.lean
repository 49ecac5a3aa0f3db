import Derived.Test.YtciieaidbiejmaaDoorDB
import Derived.Test.YtciieaidbiejmaaDoorProg
namespace Go.Proofs.YtciieaidbiejmaaDoor.DM
@[simp] theorem sz2 : szT Tryd.prog 2 = some 1 := by kernel_rfl
@[simp] theorem by2 : Tryd.prog.bytesOf 2 = 8 := by kernel_rfl
@[simp] theorem ag2 : aggT Tryd.prog 2 = some false := by kernel_rfl
@[simp] theorem ze2 : zeroT Tryd.prog 2 = some [.int .i64 0] := by kernel_rfl
attribute [simp] Tryd.underlying2
@[simp] theorem sz3 : szT Tryd.prog 3 = some 1 := by kernel_rfl
@[simp] theorem by3 : Tryd.prog.bytesOf 3 = 8 := by kernel_rfl
@[simp] theorem ag3 : aggT Tryd.prog 3 = some false := by kernel_rfl
@[simp] theorem ze3 : zeroT Tryd.prog 3 = some [.int .i64 0] := by kernel_rfl
attribute [simp] Tryd.underlying3
@[simp] theorem sz4 : szT Tryd.prog 4 = some 1 := by kernel_rfl
@[simp] theorem by4 : Tryd.prog.bytesOf 4 = 1 := by kernel_rfl
@[simp] theorem ag4 : aggT Tryd.prog 4 = some false := by kernel_rfl
@[simp] theorem ze4 : zeroT Tryd.prog 4 = some [.bool false] := by kernel_rfl
attribute [simp] Tryd.underlying4
@[simp] theorem sz5 : szT Tryd.prog 5 = some 1 := by kernel_rfl
@[simp] theorem by5 : Tryd.prog.bytesOf 5 = 1 := by kernel_rfl
@[simp] theorem ag5 : aggT Tryd.prog 5 = some false := by kernel_rfl
@[simp] theorem ze5 : zeroT Tryd.prog 5 = some [.int .u8 0] := by kernel_rfl
attribute [simp] Tryd.underlying5
@[simp] theorem sz9 : szT Tryd.prog 9 = some 1 := by kernel_rfl
@[simp] theorem by9 : Tryd.prog.bytesOf 9 = 16 := by kernel_rfl
@[simp] theorem ag9 : aggT Tryd.prog 9 = some false := by kernel_rfl
@[simp] theorem ze9 : zeroT Tryd.prog 9 = some [.string ByteArray.empty] := by kernel_rfl
attribute [simp] Tryd.underlying9
@[simp] theorem sz21 : szT Tryd.prog 21 = some 1 := by kernel_rfl
@[simp] theorem by21 : Tryd.prog.bytesOf 21 = 4 := by kernel_rfl
@[simp] theorem ag21 : aggT Tryd.prog 21 = some false := by kernel_rfl
@[simp] theorem ze21 : zeroT Tryd.prog 21 = some [.int .i32 0] := by kernel_rfl
attribute [simp] Tryd.underlying21
@[simp] theorem sz23 : szT Tryd.prog 23 = some 6 := by kernel_rfl
@[simp] theorem by23 : Tryd.prog.bytesOf 23 = 72 := by kernel_rfl
@[simp] theorem ag23 : aggT Tryd.prog 23 = some true := by kernel_rfl
@[simp] theorem ze23 : zeroT Tryd.prog 23 = some [.int .i64 0, .string ByteArray.empty, .string ByteArray.empty, .int .i64 0, .int .i64 0, .string ByteArray.empty] := by kernel_rfl
attribute [simp] Tryd.underlying23
@[simp] theorem sz26 : szT Tryd.prog 26 = some 6 := by kernel_rfl
@[simp] theorem by26 : Tryd.prog.bytesOf 26 = 72 := by kernel_rfl
@[simp] theorem ag26 : aggT Tryd.prog 26 = some true := by kernel_rfl
@[simp] theorem ze26 : zeroT Tryd.prog 26 = some [.int .i64 0, .string ByteArray.empty, .string ByteArray.empty, .int .i64 0, .int .i64 0, .string ByteArray.empty] := by kernel_rfl
attribute [simp] Tryd.underlying26
@[simp] theorem sz30 : szT Tryd.prog 30 = some 9 := by kernel_rfl
@[simp] theorem by30 : Tryd.prog.bytesOf 30 = 96 := by kernel_rfl
@[simp] theorem ag30 : aggT Tryd.prog 30 = some true := by kernel_rfl
@[simp] theorem ze30 : zeroT Tryd.prog 30 = some [.int .i64 0, .int .i64 0, .int .i64 0, .string ByteArray.empty, .string ByteArray.empty, .int .i64 0, .int .i64 0, .string ByteArray.empty, .int .i64 0] := by kernel_rfl
attribute [simp] Tryd.underlying30
@[simp] theorem sz34 : szT Tryd.prog 34 = some 9 := by kernel_rfl
@[simp] theorem by34 : Tryd.prog.bytesOf 34 = 96 := by kernel_rfl
@[simp] theorem ag34 : aggT Tryd.prog 34 = some true := by kernel_rfl
@[simp] theorem ze34 : zeroT Tryd.prog 34 = some [.int .i64 0, .int .i64 0, .int .i64 0, .string ByteArray.empty, .string ByteArray.empty, .int .i64 0, .int .i64 0, .string ByteArray.empty, .int .i64 0] := by kernel_rfl
attribute [simp] Tryd.underlying34
@[simp] theorem sz37 : szT Tryd.prog 37 = some 1 := by kernel_rfl
@[simp] theorem by37 : Tryd.prog.bytesOf 37 = 24 := by kernel_rfl
@[simp] theorem ag37 : aggT Tryd.prog 37 = some false := by kernel_rfl
@[simp] theorem ze37 : zeroT Tryd.prog 37 = some [.slice none 0 0] := by kernel_rfl
@[simp] theorem el37 : elemT Tryd.prog 37 = some (9, 1) := by kernel_rfl
attribute [simp] Tryd.underlying37
@[simp] theorem sz39 : szT Tryd.prog 39 = some 5 := by kernel_rfl
@[simp] theorem by39 : Tryd.prog.bytesOf 39 = 64 := by kernel_rfl
@[simp] theorem ag39 : aggT Tryd.prog 39 = some true := by kernel_rfl
@[simp] theorem ze39 : zeroT Tryd.prog 39 = some [.int .i64 0, .string ByteArray.empty, .int .i64 0, .bool false, .slice none 0 0] := by kernel_rfl
attribute [simp] Tryd.underlying39
@[simp] theorem sz42 : szT Tryd.prog 42 = some 5 := by kernel_rfl
@[simp] theorem by42 : Tryd.prog.bytesOf 42 = 64 := by kernel_rfl
@[simp] theorem ag42 : aggT Tryd.prog 42 = some true := by kernel_rfl
@[simp] theorem ze42 : zeroT Tryd.prog 42 = some [.int .i64 0, .string ByteArray.empty, .int .i64 0, .bool false, .slice none 0 0] := by kernel_rfl
attribute [simp] Tryd.underlying42
@[simp] theorem sz47 : szT Tryd.prog 47 = some 4 := by kernel_rfl
@[simp] theorem by47 : Tryd.prog.bytesOf 47 = 32 := by kernel_rfl
@[simp] theorem ag47 : aggT Tryd.prog 47 = some true := by kernel_rfl
@[simp] theorem ze47 : zeroT Tryd.prog 47 = some [.int .i64 0, .int .i64 0, .int .i64 0, .int .i64 0] := by kernel_rfl
attribute [simp] Tryd.underlying47
@[simp] theorem sz48 : szT Tryd.prog 48 = some 1 := by kernel_rfl
@[simp] theorem by48 : Tryd.prog.bytesOf 48 = 24 := by kernel_rfl
@[simp] theorem ag48 : aggT Tryd.prog 48 = some false := by kernel_rfl
@[simp] theorem ze48 : zeroT Tryd.prog 48 = some [.slice none 0 0] := by kernel_rfl
@[simp] theorem el48 : elemT Tryd.prog 48 = some (230, 3) := by kernel_rfl
attribute [simp] Tryd.underlying48
@[simp] theorem sz50 : szT Tryd.prog 50 = some 2 := by kernel_rfl
@[simp] theorem by50 : Tryd.prog.bytesOf 50 = 40 := by kernel_rfl
@[simp] theorem ag50 : aggT Tryd.prog 50 = some true := by kernel_rfl
@[simp] theorem ze50 : zeroT Tryd.prog 50 = some [.string ByteArray.empty, .slice none 0 0] := by kernel_rfl
attribute [simp] Tryd.underlying50
@[simp] theorem sz51 : szT Tryd.prog 51 = some 1 := by kernel_rfl
@[simp] theorem by51 : Tryd.prog.bytesOf 51 = 24 := by kernel_rfl
@[simp] theorem ag51 : aggT Tryd.prog 51 = some false := by kernel_rfl
@[simp] theorem ze51 : zeroT Tryd.prog 51 = some [.slice none 0 0] := by kernel_rfl
@[simp] theorem el51 : elemT Tryd.prog 51 = some (185, 16) := by kernel_rfl
attribute [simp] Tryd.underlying51
@[simp] theorem sz52 : szT Tryd.prog 52 = some 1 := by kernel_rfl
@[simp] theorem by52 : Tryd.prog.bytesOf 52 = 24 := by kernel_rfl
@[simp] theorem ag52 : aggT Tryd.prog 52 = some false := by kernel_rfl
@[simp] theorem ze52 : zeroT Tryd.prog 52 = some [.slice none 0 0] := by kernel_rfl
@[simp] theorem el52 : elemT Tryd.prog 52 = some (188, 3) := by kernel_rfl
attribute [simp] Tryd.underlying52
@[simp] theorem sz54 : szT Tryd.prog 54 = some 8 := by kernel_rfl
@[simp] theorem by54 : Tryd.prog.bytesOf 54 = 120 := by kernel_rfl
@[simp] theorem ag54 : aggT Tryd.prog 54 = some true := by kernel_rfl
@[simp] theorem ze54 : zeroT Tryd.prog 54 = some [.int .i64 0, .int .i64 0, .int .i64 0, .int .i64 0, .string ByteArray.empty, .slice none 0 0, .slice none 0 0, .slice none 0 0] := by kernel_rfl
attribute [simp] Tryd.underlying54
@[simp] theorem sz55 : szT Tryd.prog 55 = some 1 := by kernel_rfl
@[simp] theorem by55 : Tryd.prog.bytesOf 55 = 24 := by kernel_rfl
@[simp] theorem ag55 : aggT Tryd.prog 55 = some false := by kernel_rfl
@[simp] theorem ze55 : zeroT Tryd.prog 55 = some [.slice none 0 0] := by kernel_rfl
@[simp] theorem el55 : elemT Tryd.prog 55 = some (150, 1) := by kernel_rfl
attribute [simp] Tryd.underlying55
@[simp] theorem sz57 : szT Tryd.prog 57 = some 11 := by kernel_rfl
@[simp] theorem by57 : Tryd.prog.bytesOf 57 = 176 := by kernel_rfl
@[simp] theorem ag57 : aggT Tryd.prog 57 = some true := by kernel_rfl
@[simp] theorem ze57 : zeroT Tryd.prog 57 = some [.int .i64 0, .int .i64 0, .int .i64 0, .int .i64 0, .string ByteArray.empty, .slice none 0 0, .slice none 0 0, .slice none 0 0, .slice none 0 0, .slice none 0 0, .int .i64 0] := by kernel_rfl
attribute [simp] Tryd.underlying57
@[simp] theorem sz60 : szT Tryd.prog 60 = some 4 := by kernel_rfl
@[simp] theorem by60 : Tryd.prog.bytesOf 60 = 32 := by kernel_rfl
@[simp] theorem ag60 : aggT Tryd.prog 60 = some true := by kernel_rfl
@[simp] theorem ze60 : zeroT Tryd.prog 60 = some [.int .i64 0, .int .i64 0, .int .i64 0, .int .i64 0] := by kernel_rfl
attribute [simp] Tryd.underlying60
@[simp] theorem sz61 : szT Tryd.prog 61 = some 1 := by kernel_rfl
@[simp] theorem by61 : Tryd.prog.bytesOf 61 = 24 := by kernel_rfl
@[simp] theorem ag61 : aggT Tryd.prog 61 = some false := by kernel_rfl
@[simp] theorem ze61 : zeroT Tryd.prog 61 = some [.slice none 0 0] := by kernel_rfl
@[simp] theorem el61 : elemT Tryd.prog 61 = some (234, 3) := by kernel_rfl
attribute [simp] Tryd.underlying61
@[simp] theorem sz63 : szT Tryd.prog 63 = some 2 := by kernel_rfl
@[simp] theorem by63 : Tryd.prog.bytesOf 63 = 40 := by kernel_rfl
@[simp] theorem ag63 : aggT Tryd.prog 63 = some true := by kernel_rfl
@[simp] theorem ze63 : zeroT Tryd.prog 63 = some [.string ByteArray.empty, .slice none 0 0] := by kernel_rfl
attribute [simp] Tryd.underlying63
@[simp] theorem sz64 : szT Tryd.prog 64 = some 1 := by kernel_rfl
@[simp] theorem by64 : Tryd.prog.bytesOf 64 = 24 := by kernel_rfl
@[simp] theorem ag64 : aggT Tryd.prog 64 = some false := by kernel_rfl
@[simp] theorem ze64 : zeroT Tryd.prog 64 = some [.slice none 0 0] := by kernel_rfl
@[simp] theorem el64 : elemT Tryd.prog 64 = some (193, 16) := by kernel_rfl
attribute [simp] Tryd.underlying64
@[simp] theorem sz65 : szT Tryd.prog 65 = some 1 := by kernel_rfl
@[simp] theorem by65 : Tryd.prog.bytesOf 65 = 24 := by kernel_rfl
@[simp] theorem ag65 : aggT Tryd.prog 65 = some false := by kernel_rfl
@[simp] theorem ze65 : zeroT Tryd.prog 65 = some [.slice none 0 0] := by kernel_rfl
@[simp] theorem el65 : elemT Tryd.prog 65 = some (195, 3) := by kernel_rfl
attribute [simp] Tryd.underlying65
@[simp] theorem sz67 : szT Tryd.prog 67 = some 8 := by kernel_rfl
@[simp] theorem by67 : Tryd.prog.bytesOf 67 = 120 := by kernel_rfl
@[simp] theorem ag67 : aggT Tryd.prog 67 = some true := by kernel_rfl
@[simp] theorem ze67 : zeroT Tryd.prog 67 = some [.int .i64 0, .int .i64 0, .int .i64 0, .int .i64 0, .string ByteArray.empty, .slice none 0 0, .slice none 0 0, .slice none 0 0] := by kernel_rfl
attribute [simp] Tryd.underlying67
@[simp] theorem sz68 : szT Tryd.prog 68 = some 1 := by kernel_rfl
@[simp] theorem by68 : Tryd.prog.bytesOf 68 = 24 := by kernel_rfl
@[simp] theorem ag68 : aggT Tryd.prog 68 = some false := by kernel_rfl
@[simp] theorem ze68 : zeroT Tryd.prog 68 = some [.slice none 0 0] := by kernel_rfl
@[simp] theorem el68 : elemT Tryd.prog 68 = some (91, 1) := by kernel_rfl
attribute [simp] Tryd.underlying68
@[simp] theorem sz70 : szT Tryd.prog 70 = some 11 := by kernel_rfl
@[simp] theorem by70 : Tryd.prog.bytesOf 70 = 176 := by kernel_rfl
@[simp] theorem ag70 : aggT Tryd.prog 70 = some true := by kernel_rfl
@[simp] theorem ze70 : zeroT Tryd.prog 70 = some [.int .i64 0, .int .i64 0, .int .i64 0, .int .i64 0, .string ByteArray.empty, .slice none 0 0, .slice none 0 0, .slice none 0 0, .slice none 0 0, .slice none 0 0, .int .i64 0] := by kernel_rfl
attribute [simp] Tryd.underlying70
@[simp] theorem sz86 : szT Tryd.prog 86 = some 1 := by kernel_rfl
@[simp] theorem by86 : Tryd.prog.bytesOf 86 = 24 := by kernel_rfl
@[simp] theorem ag86 : aggT Tryd.prog 86 = some false := by kernel_rfl
@[simp] theorem ze86 : zeroT Tryd.prog 86 = some [.slice none 0 0] := by kernel_rfl
@[simp] theorem el86 : elemT Tryd.prog 86 = some (5, 1) := by kernel_rfl
attribute [simp] Tryd.underlying86
@[simp] theorem sz89 : szT Tryd.prog 89 = some 1 := by kernel_rfl
@[simp] theorem by89 : Tryd.prog.bytesOf 89 = 24 := by kernel_rfl
@[simp] theorem ag89 : aggT Tryd.prog 89 = some false := by kernel_rfl
@[simp] theorem ze89 : zeroT Tryd.prog 89 = some [.slice none 0 0] := by kernel_rfl
@[simp] theorem el89 : elemT Tryd.prog 89 = some (131, 3) := by kernel_rfl
attribute [simp] Tryd.underlying89
@[simp] theorem sz91 : szT Tryd.prog 91 = some 1 := by kernel_rfl
@[simp] theorem by91 : Tryd.prog.bytesOf 91 = 24 := by kernel_rfl
@[simp] theorem ag91 : aggT Tryd.prog 91 = some true := by kernel_rfl
@[simp] theorem ze91 : zeroT Tryd.prog 91 = some [.slice none 0 0] := by kernel_rfl
attribute [simp] Tryd.underlying91
@[simp] theorem sz117 : szT Tryd.prog 117 = some 5 := by kernel_rfl
@[simp] theorem by117 : Tryd.prog.bytesOf 117 = 40 := by kernel_rfl
@[simp] theorem ag117 : aggT Tryd.prog 117 = some true := by kernel_rfl
@[simp] theorem ze117 : zeroT Tryd.prog 117 = some [.int .i64 0, .int .i64 0, .int .i64 0, .int .i64 0, .int .i64 0] := by kernel_rfl
attribute [simp] Tryd.underlying117
@[simp] theorem sz123 : szT Tryd.prog 123 = some 1 := by kernel_rfl
@[simp] theorem by123 : Tryd.prog.bytesOf 123 = 8 := by kernel_rfl
@[simp] theorem ag123 : aggT Tryd.prog 123 = some false := by kernel_rfl
@[simp] theorem ze123 : zeroT Tryd.prog 123 = some [.pointer none] := by kernel_rfl
attribute [simp] Tryd.underlying123
@[simp] theorem sz125 : szT Tryd.prog 125 = some 1 := by kernel_rfl
@[simp] theorem by125 : Tryd.prog.bytesOf 125 = 24 := by kernel_rfl
@[simp] theorem ag125 : aggT Tryd.prog 125 = some false := by kernel_rfl
@[simp] theorem ze125 : zeroT Tryd.prog 125 = some [.slice none 0 0] := by kernel_rfl
@[simp] theorem el125 : elemT Tryd.prog 125 = some (42, 5) := by kernel_rfl
attribute [simp] Tryd.underlying125
@[simp] theorem sz131 : szT Tryd.prog 131 = some 3 := by kernel_rfl
@[simp] theorem by131 : Tryd.prog.bytesOf 131 = 40 := by kernel_rfl
@[simp] theorem ag131 : aggT Tryd.prog 131 = some true := by kernel_rfl
@[simp] theorem ze131 : zeroT Tryd.prog 131 = some [.string ByteArray.empty, .bool false, .string ByteArray.empty] := by kernel_rfl
attribute [simp] Tryd.underlying131
@[simp] theorem sz133 : szT Tryd.prog 133 = some 1 := by kernel_rfl
@[simp] theorem by133 : Tryd.prog.bytesOf 133 = 8 := by kernel_rfl
@[simp] theorem ag133 : aggT Tryd.prog 133 = some false := by kernel_rfl
@[simp] theorem ze133 : zeroT Tryd.prog 133 = some [.pointer none] := by kernel_rfl
attribute [simp] Tryd.underlying133
@[simp] theorem sz135 : szT Tryd.prog 135 = some 2 := by kernel_rfl
@[simp] theorem by135 : Tryd.prog.bytesOf 135 = 32 := by kernel_rfl
@[simp] theorem ag135 : aggT Tryd.prog 135 = some true := by kernel_rfl
@[simp] theorem ze135 : zeroT Tryd.prog 135 = some [.pointer none, .slice none 0 0] := by kernel_rfl
attribute [simp] Tryd.underlying135
@[simp] theorem sz138 : szT Tryd.prog 138 = some 1 := by kernel_rfl
@[simp] theorem by138 : Tryd.prog.bytesOf 138 = 16 := by kernel_rfl
@[simp] theorem ag138 : aggT Tryd.prog 138 = some false := by kernel_rfl
@[simp] theorem ze138 : zeroT Tryd.prog 138 = some [.nilIface] := by kernel_rfl
attribute [simp] Tryd.underlying138
@[simp] theorem sz142 : szT Tryd.prog 142 = some 1 := by kernel_rfl
@[simp] theorem by142 : Tryd.prog.bytesOf 142 = 24 := by kernel_rfl
@[simp] theorem ag142 : aggT Tryd.prog 142 = some false := by kernel_rfl
@[simp] theorem ze142 : zeroT Tryd.prog 142 = some [.slice none 0 0] := by kernel_rfl
@[simp] theorem el142 : elemT Tryd.prog 142 = some (37, 1) := by kernel_rfl
attribute [simp] Tryd.underlying142
@[simp] theorem sz148 : szT Tryd.prog 148 = some 1 := by kernel_rfl
@[simp] theorem by148 : Tryd.prog.bytesOf 148 = 24 := by kernel_rfl
@[simp] theorem ag148 : aggT Tryd.prog 148 = some false := by kernel_rfl
@[simp] theorem ze148 : zeroT Tryd.prog 148 = some [.slice none 0 0] := by kernel_rfl
@[simp] theorem el148 : elemT Tryd.prog 148 = some (233, 3) := by kernel_rfl
attribute [simp] Tryd.underlying148
@[simp] theorem sz150 : szT Tryd.prog 150 = some 1 := by kernel_rfl
@[simp] theorem by150 : Tryd.prog.bytesOf 150 = 24 := by kernel_rfl
@[simp] theorem ag150 : aggT Tryd.prog 150 = some true := by kernel_rfl
@[simp] theorem ze150 : zeroT Tryd.prog 150 = some [.slice none 0 0] := by kernel_rfl
attribute [simp] Tryd.underlying150
@[simp] theorem sz172 : szT Tryd.prog 172 = some 3 := by kernel_rfl
@[simp] theorem by172 : Tryd.prog.bytesOf 172 = 40 := by kernel_rfl
@[simp] theorem ag172 : aggT Tryd.prog 172 = some true := by kernel_rfl
@[simp] theorem ze172 : zeroT Tryd.prog 172 = some [.slice none 0 0, .int .i64 0, .int .i64 0] := by kernel_rfl
attribute [simp] Tryd.underlying172
@[simp] theorem sz174 : szT Tryd.prog 174 = some 1 := by kernel_rfl
@[simp] theorem by174 : Tryd.prog.bytesOf 174 = 24 := by kernel_rfl
@[simp] theorem ag174 : aggT Tryd.prog 174 = some false := by kernel_rfl
@[simp] theorem ze174 : zeroT Tryd.prog 174 = some [.slice none 0 0] := by kernel_rfl
@[simp] theorem el174 : elemT Tryd.prog 174 = some (26, 6) := by kernel_rfl
attribute [simp] Tryd.underlying174
@[simp] theorem sz180 : szT Tryd.prog 180 = some 1 := by kernel_rfl
@[simp] theorem by180 : Tryd.prog.bytesOf 180 = 8 := by kernel_rfl
@[simp] theorem ag180 : aggT Tryd.prog 180 = some false := by kernel_rfl
@[simp] theorem ze180 : zeroT Tryd.prog 180 = some [.pointer none] := by kernel_rfl
attribute [simp] Tryd.underlying180
@[simp] theorem sz183 : szT Tryd.prog 183 = some 1 := by kernel_rfl
@[simp] theorem by183 : Tryd.prog.bytesOf 183 = 24 := by kernel_rfl
@[simp] theorem ag183 : aggT Tryd.prog 183 = some false := by kernel_rfl
@[simp] theorem ze183 : zeroT Tryd.prog 183 = some [.slice none 0 0] := by kernel_rfl
@[simp] theorem el183 : elemT Tryd.prog 183 = some (274, 3) := by kernel_rfl
attribute [simp] Tryd.underlying183
@[simp] theorem sz185 : szT Tryd.prog 185 = some 16 := by kernel_rfl
@[simp] theorem by185 : Tryd.prog.bytesOf 185 = 200 := by kernel_rfl
@[simp] theorem ag185 : aggT Tryd.prog 185 = some true := by kernel_rfl
@[simp] theorem ze185 : zeroT Tryd.prog 185 = some [.int .i64 0, .string ByteArray.empty, .string ByteArray.empty, .int .i64 0, .int .i64 0, .string ByteArray.empty, .int .i64 0, .string ByteArray.empty, .int .i64 0, .bool false, .slice none 0 0, .slice none 0 0, .slice none 0 0, .int .i64 0, .bool false, .bool false] := by kernel_rfl
attribute [simp] Tryd.underlying185
@[simp] theorem sz188 : szT Tryd.prog 188 = some 3 := by kernel_rfl
@[simp] theorem by188 : Tryd.prog.bytesOf 188 = 48 := by kernel_rfl
@[simp] theorem ag188 : aggT Tryd.prog 188 = some true := by kernel_rfl
@[simp] theorem ze188 : zeroT Tryd.prog 188 = some [.string ByteArray.empty, .string ByteArray.empty, .string ByteArray.empty] := by kernel_rfl
attribute [simp] Tryd.underlying188
@[simp] theorem sz191 : szT Tryd.prog 191 = some 1 := by kernel_rfl
@[simp] theorem by191 : Tryd.prog.bytesOf 191 = 24 := by kernel_rfl
@[simp] theorem ag191 : aggT Tryd.prog 191 = some false := by kernel_rfl
@[simp] theorem ze191 : zeroT Tryd.prog 191 = some [.slice none 0 0] := by kernel_rfl
@[simp] theorem el191 : elemT Tryd.prog 191 = some (242, 3) := by kernel_rfl
attribute [simp] Tryd.underlying191
@[simp] theorem sz193 : szT Tryd.prog 193 = some 16 := by kernel_rfl
@[simp] theorem by193 : Tryd.prog.bytesOf 193 = 200 := by kernel_rfl
@[simp] theorem ag193 : aggT Tryd.prog 193 = some true := by kernel_rfl
@[simp] theorem ze193 : zeroT Tryd.prog 193 = some [.int .i64 0, .string ByteArray.empty, .string ByteArray.empty, .int .i64 0, .int .i64 0, .string ByteArray.empty, .int .i64 0, .string ByteArray.empty, .int .i64 0, .bool false, .slice none 0 0, .slice none 0 0, .slice none 0 0, .int .i64 0, .bool false, .bool false] := by kernel_rfl
attribute [simp] Tryd.underlying193
@[simp] theorem sz195 : szT Tryd.prog 195 = some 3 := by kernel_rfl
@[simp] theorem by195 : Tryd.prog.bytesOf 195 = 48 := by kernel_rfl
@[simp] theorem ag195 : aggT Tryd.prog 195 = some true := by kernel_rfl
@[simp] theorem ze195 : zeroT Tryd.prog 195 = some [.string ByteArray.empty, .string ByteArray.empty, .string ByteArray.empty] := by kernel_rfl
attribute [simp] Tryd.underlying195
@[simp] theorem sz204 : szT Tryd.prog 204 = some 256 := by kernel_rfl
@[simp] theorem by204 : Tryd.prog.bytesOf 204 = 256 := by kernel_rfl
@[simp] theorem ag204 : aggT Tryd.prog 204 = some true := by kernel_rfl
attribute [simp] Tryd.underlying204
@[simp] theorem sz206 : szT Tryd.prog 206 = some 1 := by kernel_rfl
@[simp] theorem by206 : Tryd.prog.bytesOf 206 = 8 := by kernel_rfl
@[simp] theorem ag206 : aggT Tryd.prog 206 = some false := by kernel_rfl
@[simp] theorem ze206 : zeroT Tryd.prog 206 = some [.nilFunc] := by kernel_rfl
attribute [simp] Tryd.underlying206
@[simp] theorem sz214 : szT Tryd.prog 214 = some 1 := by kernel_rfl
@[simp] theorem by214 : Tryd.prog.bytesOf 214 = 24 := by kernel_rfl
@[simp] theorem ag214 : aggT Tryd.prog 214 = some false := by kernel_rfl
@[simp] theorem ze214 : zeroT Tryd.prog 214 = some [.slice none 0 0] := by kernel_rfl
@[simp] theorem el214 : elemT Tryd.prog 214 = some (3, 1) := by kernel_rfl
attribute [simp] Tryd.underlying214
@[simp] theorem sz219 : szT Tryd.prog 219 = some 1 := by kernel_rfl
@[simp] theorem by219 : Tryd.prog.bytesOf 219 = 8 := by kernel_rfl
@[simp] theorem ag219 : aggT Tryd.prog 219 = some false := by kernel_rfl
@[simp] theorem ze219 : zeroT Tryd.prog 219 = some [.int .u64 0] := by kernel_rfl
attribute [simp] Tryd.underlying219
@[simp] theorem sz225 : szT Tryd.prog 225 = some 1 := by kernel_rfl
@[simp] theorem by225 : Tryd.prog.bytesOf 225 = 8 := by kernel_rfl
@[simp] theorem ag225 : aggT Tryd.prog 225 = some false := by kernel_rfl
@[simp] theorem ze225 : zeroT Tryd.prog 225 = some [.pointer none] := by kernel_rfl
attribute [simp] Tryd.underlying225
@[simp] theorem sz230 : szT Tryd.prog 230 = some 3 := by kernel_rfl
@[simp] theorem by230 : Tryd.prog.bytesOf 230 = 32 := by kernel_rfl
@[simp] theorem ag230 : aggT Tryd.prog 230 = some true := by kernel_rfl
@[simp] theorem ze230 : zeroT Tryd.prog 230 = some [.int .i64 0, .string ByteArray.empty, .bool false] := by kernel_rfl
attribute [simp] Tryd.underlying230
@[simp] theorem sz233 : szT Tryd.prog 233 = some 3 := by kernel_rfl
@[simp] theorem by233 : Tryd.prog.bytesOf 233 = 40 := by kernel_rfl
@[simp] theorem ag233 : aggT Tryd.prog 233 = some true := by kernel_rfl
@[simp] theorem ze233 : zeroT Tryd.prog 233 = some [.string ByteArray.empty, .bool false, .string ByteArray.empty] := by kernel_rfl
attribute [simp] Tryd.underlying233
@[simp] theorem sz234 : szT Tryd.prog 234 = some 3 := by kernel_rfl
@[simp] theorem by234 : Tryd.prog.bytesOf 234 = 32 := by kernel_rfl
@[simp] theorem ag234 : aggT Tryd.prog 234 = some true := by kernel_rfl
@[simp] theorem ze234 : zeroT Tryd.prog 234 = some [.int .i64 0, .string ByteArray.empty, .bool false] := by kernel_rfl
attribute [simp] Tryd.underlying234
@[simp] theorem sz242 : szT Tryd.prog 242 = some 3 := by kernel_rfl
@[simp] theorem by242 : Tryd.prog.bytesOf 242 = 32 := by kernel_rfl
@[simp] theorem ag242 : aggT Tryd.prog 242 = some true := by kernel_rfl
@[simp] theorem ze242 : zeroT Tryd.prog 242 = some [.int .i64 0, .int .i64 0, .string ByteArray.empty] := by kernel_rfl
attribute [simp] Tryd.underlying242
@[simp] theorem sz243 : szT Tryd.prog 243 = some 1 := by kernel_rfl
@[simp] theorem by243 : Tryd.prog.bytesOf 243 = 24 := by kernel_rfl
@[simp] theorem ag243 : aggT Tryd.prog 243 = some false := by kernel_rfl
@[simp] theorem ze243 : zeroT Tryd.prog 243 = some [.slice none 0 0] := by kernel_rfl
@[simp] theorem el243 : elemT Tryd.prog 243 = some (245, 2) := by kernel_rfl
attribute [simp] Tryd.underlying243
@[simp] theorem sz245 : szT Tryd.prog 245 = some 2 := by kernel_rfl
@[simp] theorem by245 : Tryd.prog.bytesOf 245 = 16 := by kernel_rfl
@[simp] theorem ag245 : aggT Tryd.prog 245 = some true := by kernel_rfl
@[simp] theorem ze245 : zeroT Tryd.prog 245 = some [.int .i64 0, .int .i64 0] := by kernel_rfl
attribute [simp] Tryd.underlying245
@[simp] theorem sz246 : szT Tryd.prog 246 = some 1 := by kernel_rfl
@[simp] theorem by246 : Tryd.prog.bytesOf 246 = 4 := by kernel_rfl
@[simp] theorem ag246 : aggT Tryd.prog 246 = some false := by kernel_rfl
@[simp] theorem ze246 : zeroT Tryd.prog 246 = some [.int .u32 0] := by kernel_rfl
attribute [simp] Tryd.underlying246
@[simp] theorem sz248 : szT Tryd.prog 248 = some 1 := by kernel_rfl
@[simp] theorem by248 : Tryd.prog.bytesOf 248 = 8 := by kernel_rfl
@[simp] theorem ag248 : aggT Tryd.prog 248 = some false := by kernel_rfl
@[simp] theorem ze248 : zeroT Tryd.prog 248 = some [.pointer none] := by kernel_rfl
attribute [simp] Tryd.underlying248
@[simp] theorem sz267 : szT Tryd.prog 267 = some 24 := by kernel_rfl
@[simp] theorem by267 : Tryd.prog.bytesOf 267 = 24 := by kernel_rfl
@[simp] theorem ag267 : aggT Tryd.prog 267 = some true := by kernel_rfl
@[simp] theorem ze267 : zeroT Tryd.prog 267 = some [.int .u8 0, .int .u8 0, .int .u8 0, .int .u8 0, .int .u8 0, .int .u8 0, .int .u8 0, .int .u8 0, .int .u8 0, .int .u8 0, .int .u8 0, .int .u8 0, .int .u8 0, .int .u8 0, .int .u8 0, .int .u8 0, .int .u8 0, .int .u8 0, .int .u8 0, .int .u8 0, .int .u8 0, .int .u8 0, .int .u8 0, .int .u8 0] := by kernel_rfl
attribute [simp] Tryd.underlying267
@[simp] theorem sz268 : szT Tryd.prog 268 = some 1 := by kernel_rfl
@[simp] theorem by268 : Tryd.prog.bytesOf 268 = 8 := by kernel_rfl
@[simp] theorem ag268 : aggT Tryd.prog 268 = some false := by kernel_rfl
@[simp] theorem ze268 : zeroT Tryd.prog 268 = some [.int .u64 0] := by kernel_rfl
attribute [simp] Tryd.underlying268
@[simp] theorem sz274 : szT Tryd.prog 274 = some 3 := by kernel_rfl
@[simp] theorem by274 : Tryd.prog.bytesOf 274 = 32 := by kernel_rfl
@[simp] theorem ag274 : aggT Tryd.prog 274 = some true := by kernel_rfl
@[simp] theorem ze274 : zeroT Tryd.prog 274 = some [.int .i64 0, .int .i64 0, .string ByteArray.empty] := by kernel_rfl
attribute [simp] Tryd.underlying274
@[simp] theorem sz277 : szT Tryd.prog 277 = some 1 := by kernel_rfl
@[simp] theorem by277 : Tryd.prog.bytesOf 277 = 24 := by kernel_rfl
@[simp] theorem ag277 : aggT Tryd.prog 277 = some false := by kernel_rfl
@[simp] theorem ze277 : zeroT Tryd.prog 277 = some [.slice none 0 0] := by kernel_rfl
@[simp] theorem el277 : elemT Tryd.prog 277 = some (283, 3) := by kernel_rfl
attribute [simp] Tryd.underlying277
@[simp] theorem sz278 : szT Tryd.prog 278 = some 1 := by kernel_rfl
@[simp] theorem by278 : Tryd.prog.bytesOf 278 = 24 := by kernel_rfl
@[simp] theorem ag278 : aggT Tryd.prog 278 = some false := by kernel_rfl
@[simp] theorem ze278 : zeroT Tryd.prog 278 = some [.slice none 0 0] := by kernel_rfl
@[simp] theorem el278 : elemT Tryd.prog 278 = some (286, 3) := by kernel_rfl
attribute [simp] Tryd.underlying278
@[simp] theorem sz280 : szT Tryd.prog 280 = some 3 := by kernel_rfl
@[simp] theorem by280 : Tryd.prog.bytesOf 280 = 56 := by kernel_rfl
@[simp] theorem ag280 : aggT Tryd.prog 280 = some true := by kernel_rfl
@[simp] theorem ze280 : zeroT Tryd.prog 280 = some [.slice none 0 0, .slice none 0 0, .int .i64 0] := by kernel_rfl
attribute [simp] Tryd.underlying280
@[simp] theorem sz281 : szT Tryd.prog 281 = some 1 := by kernel_rfl
@[simp] theorem by281 : Tryd.prog.bytesOf 281 = 2 := by kernel_rfl
@[simp] theorem ag281 : aggT Tryd.prog 281 = some false := by kernel_rfl
@[simp] theorem ze281 : zeroT Tryd.prog 281 = some [.int .u16 0] := by kernel_rfl
attribute [simp] Tryd.underlying281
@[simp] theorem sz283 : szT Tryd.prog 283 = some 3 := by kernel_rfl
@[simp] theorem by283 : Tryd.prog.bytesOf 283 = 6 := by kernel_rfl
@[simp] theorem ag283 : aggT Tryd.prog 283 = some true := by kernel_rfl
@[simp] theorem ze283 : zeroT Tryd.prog 283 = some [.int .u16 0, .int .u16 0, .int .u16 0] := by kernel_rfl
attribute [simp] Tryd.underlying283
@[simp] theorem sz286 : szT Tryd.prog 286 = some 3 := by kernel_rfl
@[simp] theorem by286 : Tryd.prog.bytesOf 286 = 12 := by kernel_rfl
@[simp] theorem ag286 : aggT Tryd.prog 286 = some true := by kernel_rfl
@[simp] theorem ze286 : zeroT Tryd.prog 286 = some [.int .u32 0, .int .u32 0, .int .u32 0] := by kernel_rfl
attribute [simp] Tryd.underlying286
@[simp] theorem sz291 : szT Tryd.prog 291 = some 3 := by kernel_rfl
@[simp] theorem by291 : Tryd.prog.bytesOf 291 = 48 := by kernel_rfl
@[simp] theorem ag291 : aggT Tryd.prog 291 = some true := by kernel_rfl
@[simp] theorem ze291 : zeroT Tryd.prog 291 = some [.string ByteArray.empty, .string ByteArray.empty, .nilIface] := by kernel_rfl
attribute [simp] Tryd.underlying291
@[simp] theorem sz303 : szT Tryd.prog 303 = some 20 := by kernel_rfl
@[simp] theorem by303 : Tryd.prog.bytesOf 303 = 160 := by kernel_rfl
@[simp] theorem ag303 : aggT Tryd.prog 303 = some true := by kernel_rfl
@[simp] theorem ze303 : zeroT Tryd.prog 303 = some [.int .u64 0, .int .u64 0, .int .u64 0, .int .u64 0, .int .u64 0, .int .u64 0, .int .u64 0, .int .u64 0, .int .u64 0, .int .u64 0, .int .u64 0, .int .u64 0, .int .u64 0, .int .u64 0, .int .u64 0, .int .u64 0, .int .u64 0, .int .u64 0, .int .u64 0, .int .u64 0] := by kernel_rfl
attribute [simp] Tryd.underlying303
@[simp] theorem sz304 : szT Tryd.prog 304 = some 65 := by kernel_rfl
@[simp] theorem by304 : Tryd.prog.bytesOf 304 = 65 := by kernel_rfl
@[simp] theorem ag304 : aggT Tryd.prog 304 = some true := by kernel_rfl
attribute [simp] Tryd.underlying304
@[simp] theorem sz312 : szT Tryd.prog 312 = some 1 := by kernel_rfl
@[simp] theorem by312 : Tryd.prog.bytesOf 312 = 16 := by kernel_rfl
@[simp] theorem ag312 : aggT Tryd.prog 312 = some true := by kernel_rfl
@[simp] theorem ze312 : zeroT Tryd.prog 312 = some [.string ByteArray.empty] := by kernel_rfl
attribute [simp] Tryd.underlying312
@[simp] theorem sz314 : szT Tryd.prog 314 = some 2 := by kernel_rfl
@[simp] theorem by314 : Tryd.prog.bytesOf 314 = 2 := by kernel_rfl
@[simp] theorem ag314 : aggT Tryd.prog 314 = some true := by kernel_rfl
@[simp] theorem ze314 : zeroT Tryd.prog 314 = some [.int .u8 0, .int .u8 0] := by kernel_rfl
attribute [simp] Tryd.underlying314
@[simp] theorem sz315 : szT Tryd.prog 315 = some 32 := by kernel_rfl
@[simp] theorem by315 : Tryd.prog.bytesOf 315 = 32 := by kernel_rfl
@[simp] theorem ag315 : aggT Tryd.prog 315 = some true := by kernel_rfl
@[simp] theorem ze315 : zeroT Tryd.prog 315 = some [.int .u8 0, .int .u8 0, .int .u8 0, .int .u8 0, .int .u8 0, .int .u8 0, .int .u8 0, .int .u8 0, .int .u8 0, .int .u8 0, .int .u8 0, .int .u8 0, .int .u8 0, .int .u8 0, .int .u8 0, .int .u8 0, .int .u8 0, .int .u8 0, .int .u8 0, .int .u8 0, .int .u8 0, .int .u8 0, .int .u8 0, .int .u8 0, .int .u8 0, .int .u8 0, .int .u8 0, .int .u8 0, .int .u8 0, .int .u8 0, .int .u8 0, .int .u8 0] := by kernel_rfl
attribute [simp] Tryd.underlying315
@[simp] theorem sz320 : szT Tryd.prog 320 = some 32 := by kernel_rfl
@[simp] theorem by320 : Tryd.prog.bytesOf 320 = 32 := by kernel_rfl
@[simp] theorem ag320 : aggT Tryd.prog 320 = some true := by kernel_rfl
@[simp] theorem ze320 : zeroT Tryd.prog 320 = some [.int .u8 0, .int .u8 0, .int .u8 0, .int .u8 0, .int .u8 0, .int .u8 0, .int .u8 0, .int .u8 0, .int .u8 0, .int .u8 0, .int .u8 0, .int .u8 0, .int .u8 0, .int .u8 0, .int .u8 0, .int .u8 0, .int .u8 0, .int .u8 0, .int .u8 0, .int .u8 0, .int .u8 0, .int .u8 0, .int .u8 0, .int .u8 0, .int .u8 0, .int .u8 0, .int .u8 0, .int .u8 0, .int .u8 0, .int .u8 0, .int .u8 0, .int .u8 0] := by kernel_rfl
attribute [simp] Tryd.underlying320
@[simp] theorem sz321 : szT Tryd.prog 321 = some 64 := by kernel_rfl
@[simp] theorem by321 : Tryd.prog.bytesOf 321 = 64 := by kernel_rfl
@[simp] theorem ag321 : aggT Tryd.prog 321 = some true := by kernel_rfl
@[simp] theorem ze321 : zeroT Tryd.prog 321 = some [.int .u8 0, .int .u8 0, .int .u8 0, .int .u8 0, .int .u8 0, .int .u8 0, .int .u8 0, .int .u8 0, .int .u8 0, .int .u8 0, .int .u8 0, .int .u8 0, .int .u8 0, .int .u8 0, .int .u8 0, .int .u8 0, .int .u8 0, .int .u8 0, .int .u8 0, .int .u8 0, .int .u8 0, .int .u8 0, .int .u8 0, .int .u8 0, .int .u8 0, .int .u8 0, .int .u8 0, .int .u8 0, .int .u8 0, .int .u8 0, .int .u8 0, .int .u8 0, .int .u8 0, .int .u8 0, .int .u8 0, .int .u8 0, .int .u8 0, .int .u8 0, .int .u8 0, .int .u8 0, .int .u8 0, .int .u8 0, .int .u8 0, .int .u8 0, .int .u8 0, .int .u8 0, .int .u8 0, .int .u8 0, .int .u8 0, .int .u8 0, .int .u8 0, .int .u8 0, .int .u8 0, .int .u8 0, .int .u8 0, .int .u8 0, .int .u8 0, .int .u8 0, .int .u8 0, .int .u8 0, .int .u8 0, .int .u8 0, .int .u8 0, .int .u8 0] := by kernel_rfl
attribute [simp] Tryd.underlying321
theorem mixed : Tryd.prog.follows .mixedOrders = true := by kernel_rfl
end Go.Proofs.YtciieaidbiejmaaDoor.DM
