/-
  Own texts, joined by mkclaim.py: Facts.
-/
import Derived.Test.YtmaoicgfcngciaaDoorProg
import Derived.Test.YtmaoicgfcngciaaDoorY07
set_option linter.unusedSimpArgs false
set_option linter.unusedVariables false
set_option maxRecDepth 100000
set_option maxHeartbeats 4000000

section
namespace Go.Proofs.YtmaoicgfcngciaaDoor
open Go Go.Hm Go.Proofs
theorem tsz3 : tsz Tryd.prog 3 = 1 := by kernel_rfl
theorem inf3 : (Tryd.prog.info? 3).isSome = true := by kernel_rfl
theorem agg3 : aggO Tryd.prog 3 = some false := by kernel_rfl
theorem tce3 : tce Tryd.prog 3 = [0] := by kernel_rfl
theorem zvl3 : zvals Tryd.prog 3 = some [.sc (Value.int IntKind.i64 0)] := by kernel_rfl
theorem tsz4 : tsz Tryd.prog 4 = 1 := by kernel_rfl
theorem inf4 : (Tryd.prog.info? 4).isSome = true := by kernel_rfl
theorem agg4 : aggO Tryd.prog 4 = some false := by kernel_rfl
theorem tsz9 : tsz Tryd.prog 9 = 1 := by kernel_rfl
theorem agg9 : aggO Tryd.prog 9 = some false := by kernel_rfl
theorem tce9 : tce Tryd.prog 9 = [0] := by kernel_rfl
theorem tst9 : tstr Tryd.prog 9 = true := by kernel_rfl
theorem agg22 : aggO Tryd.prog 22 = some false := by kernel_rfl
theorem tel22 : tel Tryd.prog 22 = some 80 := by kernel_rfl
theorem tsl22 : tslice Tryd.prog 22 = true := by kernel_rfl
theorem tsz24 : tsz Tryd.prog 24 = 1 := by kernel_rfl
theorem agg24 : aggO Tryd.prog 24 = some true := by kernel_rfl
theorem tce24 : tce Tryd.prog 24 = [4] := by kernel_rfl
theorem tfo24_0 : tfo Tryd.prog 24 0 = some (0, 22) := by kernel_rfl
theorem tsz27 : tsz Tryd.prog 27 = 1 := by kernel_rfl
theorem inf27 : (Tryd.prog.info? 27).isSome = true := by kernel_rfl
theorem agg27 : aggO Tryd.prog 27 = some false := by kernel_rfl
theorem tel27 : tel Tryd.prog 27 = some 50 := by kernel_rfl
theorem tsl27 : tslice Tryd.prog 27 = true := by kernel_rfl
theorem tap27 : tapp Tryd.prog 27 = some 50 := by kernel_rfl
theorem tsz29 : tsz Tryd.prog 29 = 1 := by kernel_rfl
theorem inf29 : (Tryd.prog.info? 29).isSome = true := by kernel_rfl
theorem agg29 : aggO Tryd.prog 29 = some true := by kernel_rfl
theorem tce29 : tce Tryd.prog 29 = [4] := by kernel_rfl
theorem zvl29 : zvals Tryd.prog 29 = some [.sc (Value.slice none 0 0)] := by kernel_rfl
theorem tfo29_0 : tfo Tryd.prog 29 0 = some (0, 27) := by kernel_rfl
theorem tsz47 : tsz Tryd.prog 47 = 1 := by kernel_rfl
theorem inf47 : (Tryd.prog.info? 47).isSome = true := by kernel_rfl
theorem agg47 : aggO Tryd.prog 47 = some false := by kernel_rfl
theorem tel47 : tel Tryd.prog 47 = some 3 := by kernel_rfl
theorem tsl47 : tslice Tryd.prog 47 = true := by kernel_rfl
theorem tap47 : tapp Tryd.prog 47 = some 3 := by kernel_rfl
theorem tsz48 : tsz Tryd.prog 48 = 1 := by kernel_rfl
theorem inf48 : (Tryd.prog.info? 48).isSome = true := by kernel_rfl
theorem agg48 : aggO Tryd.prog 48 = some false := by kernel_rfl
theorem tel48 : tel Tryd.prog 48 = some 57 := by kernel_rfl
theorem tsl48 : tslice Tryd.prog 48 = true := by kernel_rfl
theorem tap48 : tapp Tryd.prog 48 = some 57 := by kernel_rfl
theorem tsz50 : tsz Tryd.prog 50 = 4 := by kernel_rfl
theorem inf50 : (Tryd.prog.info? 50).isSome = true := by kernel_rfl
theorem agg50 : aggO Tryd.prog 50 = some true := by kernel_rfl
theorem tce50 : tce Tryd.prog 50 = [0, 0, 1, 4] := by kernel_rfl
theorem zvl50 : zvals Tryd.prog 50 = some [.sc (Value.int IntKind.i64 0), .sc (Value.int IntKind.i64 0), .sc (Value.slice none 0 0), .sc (Value.slice none 0 0)] := by kernel_rfl
theorem tfo50_0 : tfo Tryd.prog 50 0 = some (0, 3) := by kernel_rfl
theorem tfo50_1 : tfo Tryd.prog 50 1 = some (1, 3) := by kernel_rfl
theorem tfo50_2 : tfo Tryd.prog 50 2 = some (2, 47) := by kernel_rfl
theorem tfo50_3 : tfo Tryd.prog 50 3 = some (3, 48) := by kernel_rfl
theorem tsz57 : tsz Tryd.prog 57 = 4 := by kernel_rfl
theorem inf57 : (Tryd.prog.info? 57).isSome = true := by kernel_rfl
theorem agg57 : aggO Tryd.prog 57 = some true := by kernel_rfl
theorem tce57 : tce Tryd.prog 57 = [0, 0, 0, 0] := by kernel_rfl
theorem zvl57 : zvals Tryd.prog 57 = some [.sc (Value.int IntKind.i64 0), .sc (Value.int IntKind.i64 0), .sc (Value.int IntKind.i64 0), .sc (Value.int IntKind.i64 0)] := by kernel_rfl
theorem tfo57_0 : tfo Tryd.prog 57 0 = some (0, 3) := by kernel_rfl
theorem tfo57_1 : tfo Tryd.prog 57 1 = some (1, 3) := by kernel_rfl
theorem tfo57_2 : tfo Tryd.prog 57 2 = some (2, 3) := by kernel_rfl
theorem tfo57_3 : tfo Tryd.prog 57 3 = some (3, 3) := by kernel_rfl
theorem tel59 : tel Tryd.prog 59 = none := by kernel_rfl
theorem tar59 : tarr Tryd.prog 59 = some (12, 9) := by kernel_rfl
theorem tel71 : tel Tryd.prog 71 = some 9 := by kernel_rfl
theorem tap71 : tapp Tryd.prog 71 = some 9 := by kernel_rfl
theorem agg78 : aggO Tryd.prog 78 = some false := by kernel_rfl
theorem tel78 : tel Tryd.prog 78 = some 145 := by kernel_rfl
theorem tsl78 : tslice Tryd.prog 78 = true := by kernel_rfl
theorem tsz80 : tsz Tryd.prog 80 = 4 := by kernel_rfl
theorem agg80 : aggO Tryd.prog 80 = some true := by kernel_rfl
theorem tce80 : tce Tryd.prog 80 = [0, 0, 1, 4] := by kernel_rfl
theorem tfo80_0 : tfo Tryd.prog 80 0 = some (0, 3) := by kernel_rfl
theorem tfo80_1 : tfo Tryd.prog 80 1 = some (1, 3) := by kernel_rfl
theorem tfo80_2 : tfo Tryd.prog 80 2 = some (2, 47) := by kernel_rfl
theorem tfo80_3 : tfo Tryd.prog 80 3 = some (3, 78) := by kernel_rfl
theorem tel86 : tel Tryd.prog 86 = some 88 := by kernel_rfl
theorem tsl86 : tslice Tryd.prog 86 = true := by kernel_rfl
theorem tap86 : tapp Tryd.prog 86 = some 88 := by kernel_rfl
theorem tsz88 : tsz Tryd.prog 88 = 1 := by kernel_rfl
theorem inf88 : (Tryd.prog.info? 88).isSome = true := by kernel_rfl
theorem agg88 : aggO Tryd.prog 88 = some false := by kernel_rfl
theorem zvl88 : zvals Tryd.prog 88 = some [.sc (Value.pointer none)] := by kernel_rfl
theorem tsz118 : tsz Tryd.prog 118 = 7 := by kernel_rfl
theorem tce118 : tce Tryd.prog 118 = [0, 0, 0, 0, 0, 0, 0] := by kernel_rfl
theorem zvl118 : zvals Tryd.prog 118 = some [.sc (Value.int IntKind.i64 0), .sc (Value.int IntKind.i64 0), .sc (Value.int IntKind.i64 0), .sc (Value.int IntKind.i64 0), .sc (Value.int IntKind.i64 0), .sc (Value.int IntKind.i64 0), .sc (Value.int IntKind.i64 0)] := by kernel_rfl
theorem tel118 : tel Tryd.prog 118 = none := by kernel_rfl
theorem tar118 : tarr Tryd.prog 118 = some (7, 3) := by kernel_rfl
theorem tsz120 : tsz Tryd.prog 120 = 2 := by kernel_rfl
theorem inf120 : (Tryd.prog.info? 120).isSome = true := by kernel_rfl
theorem ifc120 : isIface Tryd.prog 120 = some false := by kernel_rfl
theorem tce120 : tce Tryd.prog 120 = [0, 0] := by kernel_rfl
theorem zvl120 : zvals Tryd.prog 120 = some [.sc (Value.int IntKind.i64 0), .sc (Value.int IntKind.i64 0)] := by kernel_rfl
theorem zfl120 : zflat Tryd.prog 120 = some (.agg [.sc (Value.int IntKind.i64 0), .sc (Value.int IntKind.i64 0)]) := by kernel_rfl
theorem tfo120_0 : tfo Tryd.prog 120 0 = some (0, 3) := by kernel_rfl
theorem tfo120_1 : tfo Tryd.prog 120 1 = some (1, 3) := by kernel_rfl
theorem tfl120 : tflds Tryd.prog 120 = true := by kernel_rfl
theorem tze120 : tzero Tryd.prog 120 = some [Value.int IntKind.i64 0, Value.int IntKind.i64 0] := by kernel_rfl
theorem tsz126 : tsz Tryd.prog 126 = 8 := by kernel_rfl
theorem inf126 : (Tryd.prog.info? 126).isSome = true := by kernel_rfl
theorem agg126 : aggO Tryd.prog 126 = some true := by kernel_rfl
theorem tce126 : tce Tryd.prog 126 = [0, 0, 0, 0, 0, 0, 0, 0] := by kernel_rfl
theorem zvl126 : zvals Tryd.prog 126 = some [.sc (Value.bool false), .sc (Value.bool false), .sc (Value.bool false), .sc (Value.bool false), .sc (Value.bool false), .sc (Value.bool false), .sc (Value.bool false), .sc (Value.bool false)] := by kernel_rfl
theorem tel126 : tel Tryd.prog 126 = none := by kernel_rfl
theorem tar126 : tarr Tryd.prog 126 = some (8, 4) := by kernel_rfl
theorem tsz130 : tsz Tryd.prog 130 = 43 := by kernel_rfl
theorem tce130 : tce Tryd.prog 130 = [0, 0, 0, 0, 0, 0, 0, 0, 0, 0, 0, 0, 0, 0, 0, 0, 0, 0, 0, 0, 0, 0, 0, 0, 0, 0, 0, 0, 0, 0, 0, 0, 0, 0, 0, 0, 0, 0, 0, 0, 0, 0, 0] := by kernel_rfl
theorem tfo130_0 : tfo Tryd.prog 130 0 = some (0, 3) := by kernel_rfl
theorem tfo130_1 : tfo Tryd.prog 130 1 = some (1, 3) := by kernel_rfl
theorem tfo130_2 : tfo Tryd.prog 130 2 = some (2, 88) := by kernel_rfl
theorem tfo130_3 : tfo Tryd.prog 130 3 = some (3, 126) := by kernel_rfl
theorem tfo130_4 : tfo Tryd.prog 130 4 = some (11, 126) := by kernel_rfl
theorem tfo130_5 : tfo Tryd.prog 130 5 = some (19, 126) := by kernel_rfl
theorem tfo130_6 : tfo Tryd.prog 130 6 = some (27, 126) := by kernel_rfl
theorem tfo130_7 : tfo Tryd.prog 130 7 = some (35, 126) := by kernel_rfl
theorem tfl130 : tflds Tryd.prog 130 = true := by kernel_rfl
theorem tze130 : tzero Tryd.prog 130 = some [Value.int IntKind.i64 0, Value.int IntKind.i64 0, Value.pointer none, Value.bool false, Value.bool false, Value.bool false, Value.bool false, Value.bool false, Value.bool false, Value.bool false, Value.bool false, Value.bool false, Value.bool false, Value.bool false, Value.bool false, Value.bool false, Value.bool false, Value.bool false, Value.bool false, Value.bool false, Value.bool false, Value.bool false, Value.bool false, Value.bool false, Value.bool false, Value.bool false, Value.bool false, Value.bool false, Value.bool false, Value.bool false, Value.bool false, Value.bool false, Value.bool false, Value.bool false, Value.bool false, Value.bool false, Value.bool false, Value.bool false, Value.bool false, Value.bool false, Value.bool false, Value.bool false, Value.bool false] := by kernel_rfl
theorem tsz145 : tsz Tryd.prog 145 = 4 := by kernel_rfl
theorem agg145 : aggO Tryd.prog 145 = some true := by kernel_rfl
theorem tce145 : tce Tryd.prog 145 = [0, 0, 0, 0] := by kernel_rfl
theorem tfo145_0 : tfo Tryd.prog 145 0 = some (0, 3) := by kernel_rfl
theorem tfo145_1 : tfo Tryd.prog 145 1 = some (1, 3) := by kernel_rfl
theorem tfo145_2 : tfo Tryd.prog 145 2 = some (2, 3) := by kernel_rfl
theorem tfo145_3 : tfo Tryd.prog 145 3 = some (3, 3) := by kernel_rfl
theorem tsz147 : tsz Tryd.prog 147 = 1 := by kernel_rfl
theorem inf147 : (Tryd.prog.info? 147).isSome = true := by kernel_rfl
theorem ifc147 : isIface Tryd.prog 147 = some false := by kernel_rfl
theorem tce147 : tce Tryd.prog 147 = [0] := by kernel_rfl
theorem zvl147 : zvals Tryd.prog 147 = some [.sc (Value.int IntKind.i64 0)] := by kernel_rfl
theorem zfl147 : zflat Tryd.prog 147 = some (.agg [.sc (Value.int IntKind.i64 0)]) := by kernel_rfl
theorem tfo147_0 : tfo Tryd.prog 147 0 = some (0, 3) := by kernel_rfl
theorem tfl147 : tflds Tryd.prog 147 = true := by kernel_rfl
theorem tze147 : tzero Tryd.prog 147 = some [Value.int IntKind.i64 0] := by kernel_rfl
theorem tsz149 : tsz Tryd.prog 149 = 1 := by kernel_rfl
theorem inf149 : (Tryd.prog.info? 149).isSome = true := by kernel_rfl
theorem ifc149 : isIface Tryd.prog 149 = some false := by kernel_rfl
theorem tce149 : tce Tryd.prog 149 = [0] := by kernel_rfl
theorem zvl149 : zvals Tryd.prog 149 = some [.sc (Value.int IntKind.i64 0)] := by kernel_rfl
theorem zfl149 : zflat Tryd.prog 149 = some (.agg [.sc (Value.int IntKind.i64 0)]) := by kernel_rfl
theorem tfo149_0 : tfo Tryd.prog 149 0 = some (0, 3) := by kernel_rfl
theorem tfl149 : tflds Tryd.prog 149 = true := by kernel_rfl
theorem tze149 : tzero Tryd.prog 149 = some [Value.int IntKind.i64 0] := by kernel_rfl
theorem tsz151 : tsz Tryd.prog 151 = 2 := by kernel_rfl
theorem inf151 : (Tryd.prog.info? 151).isSome = true := by kernel_rfl
theorem ifc151 : isIface Tryd.prog 151 = some false := by kernel_rfl
theorem tce151 : tce Tryd.prog 151 = [0, 0] := by kernel_rfl
theorem zvl151 : zvals Tryd.prog 151 = some [.sc (Value.int IntKind.i64 0), .sc (Value.int IntKind.i64 0)] := by kernel_rfl
theorem zfl151 : zflat Tryd.prog 151 = some (.agg [.sc (Value.int IntKind.i64 0), .sc (Value.int IntKind.i64 0)]) := by kernel_rfl
theorem tfo151_0 : tfo Tryd.prog 151 0 = some (0, 3) := by kernel_rfl
theorem tfo151_1 : tfo Tryd.prog 151 1 = some (1, 3) := by kernel_rfl
theorem tfl151 : tflds Tryd.prog 151 = true := by kernel_rfl
theorem tze151 : tzero Tryd.prog 151 = some [Value.int IntKind.i64 0, Value.int IntKind.i64 0] := by kernel_rfl
theorem tsz153 : tsz Tryd.prog 153 = 2 := by kernel_rfl
theorem inf153 : (Tryd.prog.info? 153).isSome = true := by kernel_rfl
theorem ifc153 : isIface Tryd.prog 153 = some false := by kernel_rfl
theorem tce153 : tce Tryd.prog 153 = [0, 0] := by kernel_rfl
theorem zvl153 : zvals Tryd.prog 153 = some [.sc (Value.int IntKind.i64 0), .sc (Value.int IntKind.i64 0)] := by kernel_rfl
theorem zfl153 : zflat Tryd.prog 153 = some (.agg [.sc (Value.int IntKind.i64 0), .sc (Value.int IntKind.i64 0)]) := by kernel_rfl
theorem tfo153_0 : tfo Tryd.prog 153 0 = some (0, 3) := by kernel_rfl
theorem tfo153_1 : tfo Tryd.prog 153 1 = some (1, 3) := by kernel_rfl
theorem tfl153 : tflds Tryd.prog 153 = true := by kernel_rfl
theorem tze153 : tzero Tryd.prog 153 = some [Value.int IntKind.i64 0, Value.int IntKind.i64 0] := by kernel_rfl
theorem tsz155 : tsz Tryd.prog 155 = 2 := by kernel_rfl
theorem inf155 : (Tryd.prog.info? 155).isSome = true := by kernel_rfl
theorem ifc155 : isIface Tryd.prog 155 = some false := by kernel_rfl
theorem tce155 : tce Tryd.prog 155 = [0, 0] := by kernel_rfl
theorem zvl155 : zvals Tryd.prog 155 = some [.sc (Value.int IntKind.i64 0), .sc (Value.int IntKind.i64 0)] := by kernel_rfl
theorem zfl155 : zflat Tryd.prog 155 = some (.agg [.sc (Value.int IntKind.i64 0), .sc (Value.int IntKind.i64 0)]) := by kernel_rfl
theorem tfo155_0 : tfo Tryd.prog 155 0 = some (0, 3) := by kernel_rfl
theorem tfo155_1 : tfo Tryd.prog 155 1 = some (1, 3) := by kernel_rfl
theorem tfl155 : tflds Tryd.prog 155 = true := by kernel_rfl
theorem tze155 : tzero Tryd.prog 155 = some [Value.int IntKind.i64 0, Value.int IntKind.i64 0] := by kernel_rfl
theorem tsz157 : tsz Tryd.prog 157 = 1 := by kernel_rfl
theorem inf157 : (Tryd.prog.info? 157).isSome = true := by kernel_rfl
theorem ifc157 : isIface Tryd.prog 157 = some false := by kernel_rfl
theorem tce157 : tce Tryd.prog 157 = [0] := by kernel_rfl
theorem zvl157 : zvals Tryd.prog 157 = some [.sc (Value.int IntKind.i64 0)] := by kernel_rfl
theorem zfl157 : zflat Tryd.prog 157 = some (.agg [.sc (Value.int IntKind.i64 0)]) := by kernel_rfl
theorem tfo157_0 : tfo Tryd.prog 157 0 = some (0, 3) := by kernel_rfl
theorem tfl157 : tflds Tryd.prog 157 = true := by kernel_rfl
theorem tze157 : tzero Tryd.prog 157 = some [Value.int IntKind.i64 0] := by kernel_rfl
theorem tsz158 : tsz Tryd.prog 158 = 1 := by kernel_rfl
theorem inf158 : (Tryd.prog.info? 158).isSome = true := by kernel_rfl
theorem ifc158 : isIface Tryd.prog 158 = some false := by kernel_rfl
theorem tce158 : tce Tryd.prog 158 = [0] := by kernel_rfl
theorem zvl158 : zvals Tryd.prog 158 = some [.sc (Value.int IntKind.i64 0)] := by kernel_rfl
theorem zfl158 : zflat Tryd.prog 158 = some (.agg [.sc (Value.int IntKind.i64 0)]) := by kernel_rfl
theorem tfo158_0 : tfo Tryd.prog 158 0 = some (0, 3) := by kernel_rfl
theorem tfl158 : tflds Tryd.prog 158 = true := by kernel_rfl
theorem tze158 : tzero Tryd.prog 158 = some [Value.int IntKind.i64 0] := by kernel_rfl
theorem tsz159 : tsz Tryd.prog 159 = 0 := by kernel_rfl
theorem inf159 : (Tryd.prog.info? 159).isSome = true := by kernel_rfl
theorem ifc159 : isIface Tryd.prog 159 = some false := by kernel_rfl
theorem tce159 : tce Tryd.prog 159 = [] := by kernel_rfl
theorem zvl159 : zvals Tryd.prog 159 = some [] := by kernel_rfl
theorem zfl159 : zflat Tryd.prog 159 = some (.agg []) := by kernel_rfl
theorem tfl159 : tflds Tryd.prog 159 = true := by kernel_rfl
theorem tze159 : tzero Tryd.prog 159 = some [] := by kernel_rfl
theorem tsz160 : tsz Tryd.prog 160 = 0 := by kernel_rfl
theorem inf160 : (Tryd.prog.info? 160).isSome = true := by kernel_rfl
theorem ifc160 : isIface Tryd.prog 160 = some false := by kernel_rfl
theorem tce160 : tce Tryd.prog 160 = [] := by kernel_rfl
theorem zvl160 : zvals Tryd.prog 160 = some [] := by kernel_rfl
theorem zfl160 : zflat Tryd.prog 160 = some (.agg []) := by kernel_rfl
theorem tfl160 : tflds Tryd.prog 160 = true := by kernel_rfl
theorem tze160 : tzero Tryd.prog 160 = some [] := by kernel_rfl
attribute [simp] tsz3 inf3 agg3 tce3 zvl3 tsz4 inf4 agg4 tsz9 agg9 tce9 tst9 agg22 tel22 tsl22 tsz24 agg24 tce24 tfo24_0 tsz27 inf27 agg27 tel27 tsl27 tap27 tsz29 inf29 agg29 tce29 zvl29 tfo29_0 tsz47 inf47 agg47 tel47 tsl47 tap47 tsz48 inf48 agg48 tel48 tsl48 tap48 tsz50 inf50 agg50 tce50 zvl50 tfo50_0 tfo50_1 tfo50_2 tfo50_3 tsz57 inf57 agg57 tce57 zvl57 tfo57_0 tfo57_1 tfo57_2 tfo57_3 tel59 tar59 tel71 tap71 agg78 tel78 tsl78 tsz80 agg80 tce80 tfo80_0 tfo80_1 tfo80_2 tfo80_3 tel86 tsl86 tap86 tsz88 inf88 agg88 zvl88 tsz118 tce118 zvl118 tel118 tar118 tsz120 inf120 ifc120 tce120 zvl120 zfl120 tfo120_0 tfo120_1 tfl120 tze120 tsz126 inf126 agg126 tce126 zvl126 tel126 tar126 tsz130 tce130 tfo130_0 tfo130_1 tfo130_2 tfo130_3 tfo130_4 tfo130_5 tfo130_6 tfo130_7 tfl130 tze130 tsz145 agg145 tce145 tfo145_0 tfo145_1 tfo145_2 tfo145_3 tsz147 inf147 ifc147 tce147 zvl147 zfl147 tfo147_0 tfl147 tze147 tsz149 inf149 ifc149 tce149 zvl149 zfl149 tfo149_0 tfl149 tze149 tsz151 inf151 ifc151 tce151 zvl151 zfl151 tfo151_0 tfo151_1 tfl151 tze151 tsz153 inf153 ifc153 tce153 zvl153 zfl153 tfo153_0 tfo153_1 tfl153 tze153 tsz155 inf155 ifc155 tce155 zvl155 zfl155 tfo155_0 tfo155_1 tfl155 tze155 tsz157 inf157 ifc157 tce157 zvl157 zfl157 tfo157_0 tfl157 tze157 tsz158 inf158 ifc158 tce158 zvl158 zfl158 tfo158_0 tfl158 tze158 tsz159 inf159 ifc159 tce159 zvl159 zfl159 tfl159 tze159 tsz160 inf160 ifc160 tce160 zvl160 zfl160 tfl160 tze160
theorem mixed : Tryd.prog.follows .mixedOrders = true := by kernel_rfl
end Go.Proofs.YtmaoicgfcngciaaDoor
end
