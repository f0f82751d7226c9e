/-
  Own texts, joined by mkclaim.py: Facts.
-/
import Derived.Test.YtnnpbiamlalnmaaGreatDoorProg
import Derived.Test.YtnnpbiamlalnmaaGreatDoorJ07
set_option linter.unusedSimpArgs false
set_option linter.unusedVariables false
set_option maxRecDepth 100000
set_option maxHeartbeats 4000000

section
namespace Go.Proofs.YtnnpbiamlalnmaaGreatDoor
open Go Go.Hm Go.Proofs
theorem tsz3 : tsz Tryz.prog 3 = 1 := by kernel_rfl
theorem inf3 : (Tryz.prog.info? 3).isSome = true := by kernel_rfl
theorem agg3 : aggO Tryz.prog 3 = some false := by kernel_rfl
theorem tce3 : tce Tryz.prog 3 = [0] := by kernel_rfl
theorem zvl3 : zvals Tryz.prog 3 = some [.sc (Value.int IntKind.i64 0)] := by kernel_rfl
theorem tsz4 : tsz Tryz.prog 4 = 1 := by kernel_rfl
theorem inf4 : (Tryz.prog.info? 4).isSome = true := by kernel_rfl
theorem agg4 : aggO Tryz.prog 4 = some false := by kernel_rfl
theorem agg22 : aggO Tryz.prog 22 = some false := by kernel_rfl
theorem tel22 : tel Tryz.prog 22 = some 63 := by kernel_rfl
theorem tsl22 : tslice Tryz.prog 22 = true := by kernel_rfl
theorem tsz24 : tsz Tryz.prog 24 = 1 := by kernel_rfl
theorem agg24 : aggO Tryz.prog 24 = some true := by kernel_rfl
theorem tce24 : tce Tryz.prog 24 = [4] := by kernel_rfl
theorem tfo24_0 : tfo Tryz.prog 24 0 = some (0, 22) := by kernel_rfl
theorem tsz26 : tsz Tryz.prog 26 = 1 := by kernel_rfl
theorem inf26 : (Tryz.prog.info? 26).isSome = true := by kernel_rfl
theorem agg26 : aggO Tryz.prog 26 = some false := by kernel_rfl
theorem tel26 : tel Tryz.prog 26 = some 3 := by kernel_rfl
theorem tsl26 : tslice Tryz.prog 26 = true := by kernel_rfl
theorem tap26 : tapp Tryz.prog 26 = some 3 := by kernel_rfl
theorem tsz27 : tsz Tryz.prog 27 = 1 := by kernel_rfl
theorem inf27 : (Tryz.prog.info? 27).isSome = true := by kernel_rfl
theorem agg27 : aggO Tryz.prog 27 = some false := by kernel_rfl
theorem tel27 : tel Tryz.prog 27 = some 90 := by kernel_rfl
theorem tsl27 : tslice Tryz.prog 27 = true := by kernel_rfl
theorem tap27 : tapp Tryz.prog 27 = some 90 := by kernel_rfl
theorem tsz29 : tsz Tryz.prog 29 = 6 := by kernel_rfl
theorem inf29 : (Tryz.prog.info? 29).isSome = true := by kernel_rfl
theorem agg29 : aggO Tryz.prog 29 = some true := by kernel_rfl
theorem tce29 : tce Tryz.prog 29 = [0, 1, 1, 1, 1, 2] := by kernel_rfl
theorem zvl29 : zvals Tryz.prog 29 = some [.sc (Value.int IntKind.i64 0), .sc (Value.slice none 0 0), .sc (Value.slice none 0 0), .sc (Value.slice none 0 0), .sc (Value.slice none 0 0), .sc (Value.slice none 0 0)] := by kernel_rfl
theorem tfo29_0 : tfo Tryz.prog 29 0 = some (0, 3) := by kernel_rfl
theorem tfo29_1 : tfo Tryz.prog 29 1 = some (1, 26) := by kernel_rfl
theorem tfo29_2 : tfo Tryz.prog 29 2 = some (2, 26) := by kernel_rfl
theorem tfo29_3 : tfo Tryz.prog 29 3 = some (3, 26) := by kernel_rfl
theorem tfo29_4 : tfo Tryz.prog 29 4 = some (4, 26) := by kernel_rfl
theorem tfo29_5 : tfo Tryz.prog 29 5 = some (5, 27) := by kernel_rfl
theorem tfl29 : tflds Tryz.prog 29 = true := by kernel_rfl
theorem tze29 : tzero Tryz.prog 29 = some [Value.int IntKind.i64 0, Value.slice none 0 0, Value.slice none 0 0, Value.slice none 0 0, Value.slice none 0 0, Value.slice none 0 0] := by kernel_rfl
theorem tsz31 : tsz Tryz.prog 31 = 1 := by kernel_rfl
theorem inf31 : (Tryz.prog.info? 31).isSome = true := by kernel_rfl
theorem agg31 : aggO Tryz.prog 31 = some false := by kernel_rfl
theorem tel31 : tel Tryz.prog 31 = some 68 := by kernel_rfl
theorem tsl31 : tslice Tryz.prog 31 = true := by kernel_rfl
theorem tap31 : tapp Tryz.prog 31 = some 68 := by kernel_rfl
theorem tsz33 : tsz Tryz.prog 33 = 1 := by kernel_rfl
theorem inf33 : (Tryz.prog.info? 33).isSome = true := by kernel_rfl
theorem agg33 : aggO Tryz.prog 33 = some true := by kernel_rfl
theorem tce33 : tce Tryz.prog 33 = [4] := by kernel_rfl
theorem zvl33 : zvals Tryz.prog 33 = some [.sc (Value.slice none 0 0)] := by kernel_rfl
theorem tfo33_0 : tfo Tryz.prog 33 0 = some (0, 31) := by kernel_rfl
theorem tel40 : tel Tryz.prog 40 = some 29 := by kernel_rfl
theorem tsl40 : tslice Tryz.prog 40 = true := by kernel_rfl
theorem tap40 : tapp Tryz.prog 40 = some 29 := by kernel_rfl
theorem tel51 : tel Tryz.prog 51 = some 76 := by kernel_rfl
theorem tsl51 : tslice Tryz.prog 51 = true := by kernel_rfl
theorem tap51 : tapp Tryz.prog 51 = some 76 := by kernel_rfl
theorem agg61 : aggO Tryz.prog 61 = some false := by kernel_rfl
theorem tel61 : tel Tryz.prog 61 = some 115 := by kernel_rfl
theorem tsl61 : tslice Tryz.prog 61 = true := by kernel_rfl
theorem tsz63 : tsz Tryz.prog 63 = 4 := by kernel_rfl
theorem agg63 : aggO Tryz.prog 63 = some true := by kernel_rfl
theorem tce63 : tce Tryz.prog 63 = [0, 0, 1, 4] := by kernel_rfl
theorem tfo63_0 : tfo Tryz.prog 63 0 = some (0, 3) := by kernel_rfl
theorem tfo63_1 : tfo Tryz.prog 63 1 = some (1, 3) := by kernel_rfl
theorem tfo63_2 : tfo Tryz.prog 63 2 = some (2, 26) := by kernel_rfl
theorem tfo63_3 : tfo Tryz.prog 63 3 = some (3, 61) := by kernel_rfl
theorem tsz66 : tsz Tryz.prog 66 = 1 := by kernel_rfl
theorem inf66 : (Tryz.prog.info? 66).isSome = true := by kernel_rfl
theorem agg66 : aggO Tryz.prog 66 = some false := by kernel_rfl
theorem tel66 : tel Tryz.prog 66 = some 74 := by kernel_rfl
theorem tsl66 : tslice Tryz.prog 66 = true := by kernel_rfl
theorem tap66 : tapp Tryz.prog 66 = some 74 := by kernel_rfl
theorem tsz68 : tsz Tryz.prog 68 = 4 := by kernel_rfl
theorem inf68 : (Tryz.prog.info? 68).isSome = true := by kernel_rfl
theorem agg68 : aggO Tryz.prog 68 = some true := by kernel_rfl
theorem tce68 : tce Tryz.prog 68 = [0, 0, 1, 4] := by kernel_rfl
theorem zvl68 : zvals Tryz.prog 68 = some [.sc (Value.int IntKind.i64 0), .sc (Value.int IntKind.i64 0), .sc (Value.slice none 0 0), .sc (Value.slice none 0 0)] := by kernel_rfl
theorem tfo68_0 : tfo Tryz.prog 68 0 = some (0, 3) := by kernel_rfl
theorem tfo68_1 : tfo Tryz.prog 68 1 = some (1, 3) := by kernel_rfl
theorem tfo68_2 : tfo Tryz.prog 68 2 = some (2, 26) := by kernel_rfl
theorem tfo68_3 : tfo Tryz.prog 68 3 = some (3, 66) := by kernel_rfl
theorem tsz74 : tsz Tryz.prog 74 = 4 := by kernel_rfl
theorem inf74 : (Tryz.prog.info? 74).isSome = true := by kernel_rfl
theorem agg74 : aggO Tryz.prog 74 = some true := by kernel_rfl
theorem tce74 : tce Tryz.prog 74 = [0, 0, 0, 0] := by kernel_rfl
theorem zvl74 : zvals Tryz.prog 74 = some [.sc (Value.int IntKind.i64 0), .sc (Value.int IntKind.i64 0), .sc (Value.int IntKind.i64 0), .sc (Value.int IntKind.i64 0)] := by kernel_rfl
theorem tfo74_0 : tfo Tryz.prog 74 0 = some (0, 3) := by kernel_rfl
theorem tfo74_1 : tfo Tryz.prog 74 1 = some (1, 3) := by kernel_rfl
theorem tfo74_2 : tfo Tryz.prog 74 2 = some (2, 3) := by kernel_rfl
theorem tfo74_3 : tfo Tryz.prog 74 3 = some (3, 3) := by kernel_rfl
theorem tsz76 : tsz Tryz.prog 76 = 1 := by kernel_rfl
theorem inf76 : (Tryz.prog.info? 76).isSome = true := by kernel_rfl
theorem agg76 : aggO Tryz.prog 76 = some false := by kernel_rfl
theorem zvl76 : zvals Tryz.prog 76 = some [.sc (Value.pointer none)] := by kernel_rfl
theorem tpt76 : isPtr Tryz.prog 76 = true := by kernel_rfl
theorem tsz80 : tsz Tryz.prog 80 = 8 := by kernel_rfl
theorem inf80 : (Tryz.prog.info? 80).isSome = true := by kernel_rfl
theorem agg80 : aggO Tryz.prog 80 = some true := by kernel_rfl
theorem tce80 : tce Tryz.prog 80 = [0, 0, 0, 0, 0, 0, 0, 0] := by kernel_rfl
theorem zvl80 : zvals Tryz.prog 80 = some [.sc (Value.bool false), .sc (Value.bool false), .sc (Value.bool false), .sc (Value.bool false), .sc (Value.bool false), .sc (Value.bool false), .sc (Value.bool false), .sc (Value.bool false)] := by kernel_rfl
theorem tel80 : tel Tryz.prog 80 = none := by kernel_rfl
theorem tar80 : tarr Tryz.prog 80 = some (8, 4) := by kernel_rfl
theorem tsz87 : tsz Tryz.prog 87 = 43 := by kernel_rfl
theorem tce87 : tce Tryz.prog 87 = [0, 0, 0, 0, 0, 0, 0, 0, 0, 0, 0, 0, 0, 0, 0, 0, 0, 0, 0, 0, 0, 0, 0, 0, 0, 0, 0, 0, 0, 0, 0, 0, 0, 0, 0, 0, 0, 0, 0, 0, 0, 0, 0] := by kernel_rfl
theorem tfo87_0 : tfo Tryz.prog 87 0 = some (0, 3) := by kernel_rfl
theorem tfo87_1 : tfo Tryz.prog 87 1 = some (1, 3) := by kernel_rfl
theorem tfo87_2 : tfo Tryz.prog 87 2 = some (2, 76) := by kernel_rfl
theorem tfo87_3 : tfo Tryz.prog 87 3 = some (3, 80) := by kernel_rfl
theorem tfo87_4 : tfo Tryz.prog 87 4 = some (11, 80) := by kernel_rfl
theorem tfo87_5 : tfo Tryz.prog 87 5 = some (19, 80) := by kernel_rfl
theorem tfo87_6 : tfo Tryz.prog 87 6 = some (27, 80) := by kernel_rfl
theorem tfo87_7 : tfo Tryz.prog 87 7 = some (35, 80) := by kernel_rfl
theorem tfl87 : tflds Tryz.prog 87 = true := by kernel_rfl
theorem tze87 : tzero Tryz.prog 87 = some [Value.int IntKind.i64 0, Value.int IntKind.i64 0, Value.pointer none, Value.bool false, Value.bool false, Value.bool false, Value.bool false, Value.bool false, Value.bool false, Value.bool false, Value.bool false, Value.bool false, Value.bool false, Value.bool false, Value.bool false, Value.bool false, Value.bool false, Value.bool false, Value.bool false, Value.bool false, Value.bool false, Value.bool false, Value.bool false, Value.bool false, Value.bool false, Value.bool false, Value.bool false, Value.bool false, Value.bool false, Value.bool false, Value.bool false, Value.bool false, Value.bool false, Value.bool false, Value.bool false, Value.bool false, Value.bool false, Value.bool false, Value.bool false, Value.bool false, Value.bool false, Value.bool false, Value.bool false] := by kernel_rfl
theorem tsz90 : tsz Tryz.prog 90 = 2 := by kernel_rfl
theorem inf90 : (Tryz.prog.info? 90).isSome = true := by kernel_rfl
theorem agg90 : aggO Tryz.prog 90 = some true := by kernel_rfl
theorem tce90 : tce Tryz.prog 90 = [0, 0] := by kernel_rfl
theorem zvl90 : zvals Tryz.prog 90 = some [.sc (Value.int IntKind.i64 0), .sc (Value.int IntKind.i64 0)] := by kernel_rfl
theorem tfo90_0 : tfo Tryz.prog 90 0 = some (0, 3) := by kernel_rfl
theorem tfo90_1 : tfo Tryz.prog 90 1 = some (1, 3) := by kernel_rfl
theorem tfl90 : tflds Tryz.prog 90 = true := by kernel_rfl
theorem tze90 : tzero Tryz.prog 90 = some [Value.int IntKind.i64 0, Value.int IntKind.i64 0] := by kernel_rfl
theorem tsz100 : tsz Tryz.prog 100 = 7 := by kernel_rfl
theorem tce100 : tce Tryz.prog 100 = [0, 0, 0, 0, 0, 0, 0] := by kernel_rfl
theorem zvl100 : zvals Tryz.prog 100 = some [.sc (Value.int IntKind.i64 0), .sc (Value.int IntKind.i64 0), .sc (Value.int IntKind.i64 0), .sc (Value.int IntKind.i64 0), .sc (Value.int IntKind.i64 0), .sc (Value.int IntKind.i64 0), .sc (Value.int IntKind.i64 0)] := by kernel_rfl
theorem tel100 : tel Tryz.prog 100 = none := by kernel_rfl
theorem tar100 : tarr Tryz.prog 100 = some (7, 3) := by kernel_rfl
theorem tsz102 : tsz Tryz.prog 102 = 2 := by kernel_rfl
theorem inf102 : (Tryz.prog.info? 102).isSome = true := by kernel_rfl
theorem ifc102 : isIface Tryz.prog 102 = some false := by kernel_rfl
theorem tce102 : tce Tryz.prog 102 = [0, 0] := by kernel_rfl
theorem zvl102 : zvals Tryz.prog 102 = some [.sc (Value.int IntKind.i64 0), .sc (Value.int IntKind.i64 0)] := by kernel_rfl
theorem zfl102 : zflat Tryz.prog 102 = some (.agg [.sc (Value.int IntKind.i64 0), .sc (Value.int IntKind.i64 0)]) := by kernel_rfl
theorem tfo102_0 : tfo Tryz.prog 102 0 = some (0, 3) := by kernel_rfl
theorem tfo102_1 : tfo Tryz.prog 102 1 = some (1, 3) := by kernel_rfl
theorem tfl102 : tflds Tryz.prog 102 = true := by kernel_rfl
theorem tze102 : tzero Tryz.prog 102 = some [Value.int IntKind.i64 0, Value.int IntKind.i64 0] := by kernel_rfl
theorem tsz115 : tsz Tryz.prog 115 = 4 := by kernel_rfl
theorem agg115 : aggO Tryz.prog 115 = some true := by kernel_rfl
theorem tce115 : tce Tryz.prog 115 = [0, 0, 0, 0] := by kernel_rfl
theorem tfo115_0 : tfo Tryz.prog 115 0 = some (0, 3) := by kernel_rfl
theorem tfo115_1 : tfo Tryz.prog 115 1 = some (1, 3) := by kernel_rfl
theorem tfo115_2 : tfo Tryz.prog 115 2 = some (2, 3) := by kernel_rfl
theorem tfo115_3 : tfo Tryz.prog 115 3 = some (3, 3) := by kernel_rfl
theorem tsz117 : tsz Tryz.prog 117 = 1 := by kernel_rfl
theorem inf117 : (Tryz.prog.info? 117).isSome = true := by kernel_rfl
theorem ifc117 : isIface Tryz.prog 117 = some false := by kernel_rfl
theorem tce117 : tce Tryz.prog 117 = [0] := by kernel_rfl
theorem zvl117 : zvals Tryz.prog 117 = some [.sc (Value.int IntKind.i64 0)] := by kernel_rfl
theorem zfl117 : zflat Tryz.prog 117 = some (.agg [.sc (Value.int IntKind.i64 0)]) := by kernel_rfl
theorem tfo117_0 : tfo Tryz.prog 117 0 = some (0, 3) := by kernel_rfl
theorem tfl117 : tflds Tryz.prog 117 = true := by kernel_rfl
theorem tze117 : tzero Tryz.prog 117 = some [Value.int IntKind.i64 0] := by kernel_rfl
theorem tsz119 : tsz Tryz.prog 119 = 1 := by kernel_rfl
theorem inf119 : (Tryz.prog.info? 119).isSome = true := by kernel_rfl
theorem ifc119 : isIface Tryz.prog 119 = some false := by kernel_rfl
theorem tce119 : tce Tryz.prog 119 = [0] := by kernel_rfl
theorem zvl119 : zvals Tryz.prog 119 = some [.sc (Value.int IntKind.i64 0)] := by kernel_rfl
theorem zfl119 : zflat Tryz.prog 119 = some (.agg [.sc (Value.int IntKind.i64 0)]) := by kernel_rfl
theorem tfo119_0 : tfo Tryz.prog 119 0 = some (0, 3) := by kernel_rfl
theorem tfl119 : tflds Tryz.prog 119 = true := by kernel_rfl
theorem tze119 : tzero Tryz.prog 119 = some [Value.int IntKind.i64 0] := by kernel_rfl
theorem tsz121 : tsz Tryz.prog 121 = 2 := by kernel_rfl
theorem inf121 : (Tryz.prog.info? 121).isSome = true := by kernel_rfl
theorem ifc121 : isIface Tryz.prog 121 = some false := by kernel_rfl
theorem tce121 : tce Tryz.prog 121 = [0, 0] := by kernel_rfl
theorem zvl121 : zvals Tryz.prog 121 = some [.sc (Value.int IntKind.i64 0), .sc (Value.int IntKind.i64 0)] := by kernel_rfl
theorem zfl121 : zflat Tryz.prog 121 = some (.agg [.sc (Value.int IntKind.i64 0), .sc (Value.int IntKind.i64 0)]) := by kernel_rfl
theorem tfo121_0 : tfo Tryz.prog 121 0 = some (0, 3) := by kernel_rfl
theorem tfo121_1 : tfo Tryz.prog 121 1 = some (1, 3) := by kernel_rfl
theorem tfl121 : tflds Tryz.prog 121 = true := by kernel_rfl
theorem tze121 : tzero Tryz.prog 121 = some [Value.int IntKind.i64 0, Value.int IntKind.i64 0] := by kernel_rfl
theorem tsz123 : tsz Tryz.prog 123 = 2 := by kernel_rfl
theorem inf123 : (Tryz.prog.info? 123).isSome = true := by kernel_rfl
theorem agg123 : aggO Tryz.prog 123 = some true := by kernel_rfl
theorem ifc123 : isIface Tryz.prog 123 = some false := by kernel_rfl
theorem tce123 : tce Tryz.prog 123 = [0, 0] := by kernel_rfl
theorem zvl123 : zvals Tryz.prog 123 = some [.sc (Value.int IntKind.i64 0), .sc (Value.int IntKind.i64 0)] := by kernel_rfl
theorem zfl123 : zflat Tryz.prog 123 = some (.agg [.sc (Value.int IntKind.i64 0), .sc (Value.int IntKind.i64 0)]) := by kernel_rfl
theorem tfo123_0 : tfo Tryz.prog 123 0 = some (0, 3) := by kernel_rfl
theorem tfo123_1 : tfo Tryz.prog 123 1 = some (1, 3) := by kernel_rfl
theorem tfl123 : tflds Tryz.prog 123 = true := by kernel_rfl
theorem tze123 : tzero Tryz.prog 123 = some [Value.int IntKind.i64 0, Value.int IntKind.i64 0] := by kernel_rfl
theorem tsz125 : tsz Tryz.prog 125 = 2 := by kernel_rfl
theorem inf125 : (Tryz.prog.info? 125).isSome = true := by kernel_rfl
theorem ifc125 : isIface Tryz.prog 125 = some false := by kernel_rfl
theorem tce125 : tce Tryz.prog 125 = [0, 0] := by kernel_rfl
theorem zvl125 : zvals Tryz.prog 125 = some [.sc (Value.int IntKind.i64 0), .sc (Value.int IntKind.i64 0)] := by kernel_rfl
theorem zfl125 : zflat Tryz.prog 125 = some (.agg [.sc (Value.int IntKind.i64 0), .sc (Value.int IntKind.i64 0)]) := by kernel_rfl
theorem tfo125_0 : tfo Tryz.prog 125 0 = some (0, 3) := by kernel_rfl
theorem tfo125_1 : tfo Tryz.prog 125 1 = some (1, 3) := by kernel_rfl
theorem tfl125 : tflds Tryz.prog 125 = true := by kernel_rfl
theorem tze125 : tzero Tryz.prog 125 = some [Value.int IntKind.i64 0, Value.int IntKind.i64 0] := by kernel_rfl
theorem tsz127 : tsz Tryz.prog 127 = 1 := by kernel_rfl
theorem inf127 : (Tryz.prog.info? 127).isSome = true := by kernel_rfl
theorem ifc127 : isIface Tryz.prog 127 = some false := by kernel_rfl
theorem tce127 : tce Tryz.prog 127 = [0] := by kernel_rfl
theorem zvl127 : zvals Tryz.prog 127 = some [.sc (Value.int IntKind.i64 0)] := by kernel_rfl
theorem zfl127 : zflat Tryz.prog 127 = some (.agg [.sc (Value.int IntKind.i64 0)]) := by kernel_rfl
theorem tfo127_0 : tfo Tryz.prog 127 0 = some (0, 3) := by kernel_rfl
theorem tfl127 : tflds Tryz.prog 127 = true := by kernel_rfl
theorem tze127 : tzero Tryz.prog 127 = some [Value.int IntKind.i64 0] := by kernel_rfl
theorem tsz128 : tsz Tryz.prog 128 = 1 := by kernel_rfl
theorem inf128 : (Tryz.prog.info? 128).isSome = true := by kernel_rfl
theorem ifc128 : isIface Tryz.prog 128 = some false := by kernel_rfl
theorem tce128 : tce Tryz.prog 128 = [0] := by kernel_rfl
theorem zvl128 : zvals Tryz.prog 128 = some [.sc (Value.int IntKind.i64 0)] := by kernel_rfl
theorem zfl128 : zflat Tryz.prog 128 = some (.agg [.sc (Value.int IntKind.i64 0)]) := by kernel_rfl
theorem tfo128_0 : tfo Tryz.prog 128 0 = some (0, 3) := by kernel_rfl
theorem tfl128 : tflds Tryz.prog 128 = true := by kernel_rfl
theorem tze128 : tzero Tryz.prog 128 = some [Value.int IntKind.i64 0] := by kernel_rfl
theorem tsz130 : tsz Tryz.prog 130 = 0 := by kernel_rfl
theorem inf130 : (Tryz.prog.info? 130).isSome = true := by kernel_rfl
theorem ifc130 : isIface Tryz.prog 130 = some false := by kernel_rfl
theorem tce130 : tce Tryz.prog 130 = [] := by kernel_rfl
theorem zvl130 : zvals Tryz.prog 130 = some [] := by kernel_rfl
theorem zfl130 : zflat Tryz.prog 130 = some (.agg []) := by kernel_rfl
theorem tfl130 : tflds Tryz.prog 130 = true := by kernel_rfl
theorem tze130 : tzero Tryz.prog 130 = some [] := by kernel_rfl
theorem tsz131 : tsz Tryz.prog 131 = 0 := by kernel_rfl
theorem inf131 : (Tryz.prog.info? 131).isSome = true := by kernel_rfl
theorem ifc131 : isIface Tryz.prog 131 = some false := by kernel_rfl
theorem tce131 : tce Tryz.prog 131 = [] := by kernel_rfl
theorem zvl131 : zvals Tryz.prog 131 = some [] := by kernel_rfl
theorem zfl131 : zflat Tryz.prog 131 = some (.agg []) := by kernel_rfl
theorem tfl131 : tflds Tryz.prog 131 = true := by kernel_rfl
theorem tze131 : tzero Tryz.prog 131 = some [] := by kernel_rfl
theorem tel136 : tel Tryz.prog 136 = none := by kernel_rfl
theorem tar136 : tarr Tryz.prog 136 = some (5, 3) := by kernel_rfl
attribute [simp] tsz3 inf3 agg3 tce3 zvl3 tsz4 inf4 agg4 agg22 tel22 tsl22 tsz24 agg24 tce24 tfo24_0 tsz26 inf26 agg26 tel26 tsl26 tap26 tsz27 inf27 agg27 tel27 tsl27 tap27 tsz29 inf29 agg29 tce29 zvl29 tfo29_0 tfo29_1 tfo29_2 tfo29_3 tfo29_4 tfo29_5 tfl29 tze29 tsz31 inf31 agg31 tel31 tsl31 tap31 tsz33 inf33 agg33 tce33 zvl33 tfo33_0 tel40 tsl40 tap40 tel51 tsl51 tap51 agg61 tel61 tsl61 tsz63 agg63 tce63 tfo63_0 tfo63_1 tfo63_2 tfo63_3 tsz66 inf66 agg66 tel66 tsl66 tap66 tsz68 inf68 agg68 tce68 zvl68 tfo68_0 tfo68_1 tfo68_2 tfo68_3 tsz74 inf74 agg74 tce74 zvl74 tfo74_0 tfo74_1 tfo74_2 tfo74_3 tsz76 inf76 agg76 zvl76 tpt76 tsz80 inf80 agg80 tce80 zvl80 tel80 tar80 tsz87 tce87 tfo87_0 tfo87_1 tfo87_2 tfo87_3 tfo87_4 tfo87_5 tfo87_6 tfo87_7 tfl87 tze87 tsz90 inf90 agg90 tce90 zvl90 tfo90_0 tfo90_1 tfl90 tze90 tsz100 tce100 zvl100 tel100 tar100 tsz102 inf102 ifc102 tce102 zvl102 zfl102 tfo102_0 tfo102_1 tfl102 tze102 tsz115 agg115 tce115 tfo115_0 tfo115_1 tfo115_2 tfo115_3 tsz117 inf117 ifc117 tce117 zvl117 zfl117 tfo117_0 tfl117 tze117 tsz119 inf119 ifc119 tce119 zvl119 zfl119 tfo119_0 tfl119 tze119 tsz121 inf121 ifc121 tce121 zvl121 zfl121 tfo121_0 tfo121_1 tfl121 tze121 tsz123 inf123 agg123 ifc123 tce123 zvl123 zfl123 tfo123_0 tfo123_1 tfl123 tze123 tsz125 inf125 ifc125 tce125 zvl125 zfl125 tfo125_0 tfo125_1 tfl125 tze125 tsz127 inf127 ifc127 tce127 zvl127 zfl127 tfo127_0 tfl127 tze127 tsz128 inf128 ifc128 tce128 zvl128 zfl128 tfo128_0 tfl128 tze128 tsz130 inf130 ifc130 tce130 zvl130 zfl130 tfl130 tze130 tsz131 inf131 ifc131 tce131 zvl131 zfl131 tfl131 tze131 tel136 tar136
theorem mixed : Tryz.prog.follows .mixedOrders = true := by kernel_rfl
end Go.Proofs.YtnnpbiamlalnmaaGreatDoor
end
