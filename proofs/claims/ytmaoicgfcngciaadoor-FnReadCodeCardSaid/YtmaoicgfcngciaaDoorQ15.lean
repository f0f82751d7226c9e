/-
  Own texts, joined by mkclaim.py: Facts.
-/
import Derived.Test.YtmaoicgfcngciaaDoorProg
import Derived.Test.YtmaoicgfcngciaaDoorQ07
set_option linter.unusedSimpArgs false
set_option linter.unusedVariables false
set_option maxRecDepth 100000
set_option maxHeartbeats 4000000

section
namespace Go.Proofs.YtmaoicgfcngciaaDoor
open Go Go.Hm Go.Proofs
theorem tsz3 : tsz Tryd.prog 3 = 1 := by kernel_rfl
theorem inf3 : (Tryd.prog.info? 3).isSome = true := by kernel_rfl
theorem agg3 : aggO Tryd.prog 3 = some false := by kernel_rfl
theorem tce3 : tce Tryd.prog 3 = [0] := by kernel_rfl
theorem tit3 : tint Tryd.prog 3 = some .i64 := by kernel_rfl
theorem tsz4 : tsz Tryd.prog 4 = 1 := by kernel_rfl
theorem inf4 : (Tryd.prog.info? 4).isSome = true := by kernel_rfl
theorem agg4 : aggO Tryd.prog 4 = some false := by kernel_rfl
theorem tce4 : tce Tryd.prog 4 = [0] := by kernel_rfl
theorem zvl4 : zvals Tryd.prog 4 = some [.sc (Value.bool false)] := by kernel_rfl
theorem tbo4 : tbool Tryd.prog 4 = true := by kernel_rfl
theorem tsz5 : tsz Tryd.prog 5 = 1 := by kernel_rfl
theorem agg5 : aggO Tryd.prog 5 = some false := by kernel_rfl
theorem tsz9 : tsz Tryd.prog 9 = 1 := by kernel_rfl
theorem agg9 : aggO Tryd.prog 9 = some false := by kernel_rfl
theorem tce9 : tce Tryd.prog 9 = [0] := by kernel_rfl
theorem tst9 : tstr Tryd.prog 9 = true := by kernel_rfl
theorem tsz27 : tsz Tryd.prog 27 = 1 := by kernel_rfl
theorem inf27 : (Tryd.prog.info? 27).isSome = true := by kernel_rfl
theorem agg27 : aggO Tryd.prog 27 = some false := by kernel_rfl
theorem tel27 : tel Tryd.prog 27 = some 50 := by kernel_rfl
theorem tsl27 : tslice Tryd.prog 27 = true := by kernel_rfl
theorem tap27 : tapp Tryd.prog 27 = some 50 := by kernel_rfl
theorem tsz29 : tsz Tryd.prog 29 = 1 := by kernel_rfl
theorem inf29 : (Tryd.prog.info? 29).isSome = true := by kernel_rfl
theorem agg29 : aggO Tryd.prog 29 = some true := by kernel_rfl
theorem tce29 : tce Tryd.prog 29 = [4] := by kernel_rfl
theorem zvl29 : zvals Tryd.prog 29 = some [.sc (Value.slice none 0 0)] := by kernel_rfl
theorem tfo29_0 : tfo Tryd.prog 29 0 = some (0, 27) := by kernel_rfl
theorem tfl29 : tflds Tryd.prog 29 = true := by kernel_rfl
theorem tze29 : tzero Tryd.prog 29 = some [Value.slice none 0 0] := by kernel_rfl
theorem tsz33 : tsz Tryd.prog 33 = 1 := by kernel_rfl
theorem agg33 : aggO Tryd.prog 33 = some false := by kernel_rfl
theorem tel33 : tel Tryd.prog 33 = some 5 := by kernel_rfl
theorem tsl33 : tslice Tryd.prog 33 = true := by kernel_rfl
theorem tsz35 : tsz Tryd.prog 35 = 1 := by kernel_rfl
theorem inf35 : (Tryd.prog.info? 35).isSome = true := by kernel_rfl
theorem agg35 : aggO Tryd.prog 35 = some false := by kernel_rfl
theorem tce35 : tce Tryd.prog 35 = [2] := by kernel_rfl
theorem zvl35 : zvals Tryd.prog 35 = some [.sc (Value.slice none 0 0)] := by kernel_rfl
theorem tel35 : tel Tryd.prog 35 = some 74 := by kernel_rfl
theorem tsl35 : tslice Tryd.prog 35 = true := by kernel_rfl
theorem tap35 : tapp Tryd.prog 35 = some 74 := by kernel_rfl
theorem tsz47 : tsz Tryd.prog 47 = 1 := by kernel_rfl
theorem inf47 : (Tryd.prog.info? 47).isSome = true := by kernel_rfl
theorem agg47 : aggO Tryd.prog 47 = some false := by kernel_rfl
theorem tel47 : tel Tryd.prog 47 = some 3 := by kernel_rfl
theorem tsl47 : tslice Tryd.prog 47 = true := by kernel_rfl
theorem tap47 : tapp Tryd.prog 47 = some 3 := by kernel_rfl
theorem tsz48 : tsz Tryd.prog 48 = 1 := by kernel_rfl
theorem inf48 : (Tryd.prog.info? 48).isSome = true := by kernel_rfl
theorem agg48 : aggO Tryd.prog 48 = some false := by kernel_rfl
theorem tel48 : tel Tryd.prog 48 = some 57 := by kernel_rfl
theorem tsl48 : tslice Tryd.prog 48 = true := by kernel_rfl
theorem tap48 : tapp Tryd.prog 48 = some 57 := by kernel_rfl
theorem tsz50 : tsz Tryd.prog 50 = 4 := by kernel_rfl
theorem inf50 : (Tryd.prog.info? 50).isSome = true := by kernel_rfl
theorem agg50 : aggO Tryd.prog 50 = some true := by kernel_rfl
theorem tce50 : tce Tryd.prog 50 = [0, 0, 1, 4] := by kernel_rfl
theorem zvl50 : zvals Tryd.prog 50 = some [.sc (Value.int IntKind.i64 0), .sc (Value.int IntKind.i64 0), .sc (Value.slice none 0 0), .sc (Value.slice none 0 0)] := by kernel_rfl
theorem tfo50_0 : tfo Tryd.prog 50 0 = some (0, 3) := by kernel_rfl
theorem tfo50_1 : tfo Tryd.prog 50 1 = some (1, 3) := by kernel_rfl
theorem tfo50_2 : tfo Tryd.prog 50 2 = some (2, 47) := by kernel_rfl
theorem tfo50_3 : tfo Tryd.prog 50 3 = some (3, 48) := by kernel_rfl
theorem tfl50 : tflds Tryd.prog 50 = true := by kernel_rfl
theorem tze50 : tzero Tryd.prog 50 = some [Value.int IntKind.i64 0, Value.int IntKind.i64 0, Value.slice none 0 0, Value.slice none 0 0] := by kernel_rfl
theorem tsz57 : tsz Tryd.prog 57 = 4 := by kernel_rfl
theorem inf57 : (Tryd.prog.info? 57).isSome = true := by kernel_rfl
theorem agg57 : aggO Tryd.prog 57 = some true := by kernel_rfl
theorem tce57 : tce Tryd.prog 57 = [0, 0, 0, 0] := by kernel_rfl
theorem zvl57 : zvals Tryd.prog 57 = some [.sc (Value.int IntKind.i64 0), .sc (Value.int IntKind.i64 0), .sc (Value.int IntKind.i64 0), .sc (Value.int IntKind.i64 0)] := by kernel_rfl
theorem tfo57_0 : tfo Tryd.prog 57 0 = some (0, 3) := by kernel_rfl
theorem tfo57_1 : tfo Tryd.prog 57 1 = some (1, 3) := by kernel_rfl
theorem tfo57_2 : tfo Tryd.prog 57 2 = some (2, 3) := by kernel_rfl
theorem tfo57_3 : tfo Tryd.prog 57 3 = some (3, 3) := by kernel_rfl
theorem tfl57 : tflds Tryd.prog 57 = true := by kernel_rfl
theorem tze57 : tzero Tryd.prog 57 = some [Value.int IntKind.i64 0, Value.int IntKind.i64 0, Value.int IntKind.i64 0, Value.int IntKind.i64 0] := by kernel_rfl
theorem tsz71 : tsz Tryd.prog 71 = 1 := by kernel_rfl
theorem inf71 : (Tryd.prog.info? 71).isSome = true := by kernel_rfl
theorem agg71 : aggO Tryd.prog 71 = some false := by kernel_rfl
theorem tel71 : tel Tryd.prog 71 = some 9 := by kernel_rfl
theorem tsl71 : tslice Tryd.prog 71 = true := by kernel_rfl
theorem tap71 : tapp Tryd.prog 71 = some 9 := by kernel_rfl
theorem tsz74 : tsz Tryd.prog 74 = 2 := by kernel_rfl
theorem inf74 : (Tryd.prog.info? 74).isSome = true := by kernel_rfl
theorem agg74 : aggO Tryd.prog 74 = some true := by kernel_rfl
theorem tce74 : tce Tryd.prog 74 = [0, 0] := by kernel_rfl
theorem zvl74 : zvals Tryd.prog 74 = some [.sc (Value.int IntKind.i64 0), .sc (Value.int IntKind.i64 0)] := by kernel_rfl
theorem tfo74_0 : tfo Tryd.prog 74 0 = some (0, 3) := by kernel_rfl
theorem tfo74_1 : tfo Tryd.prog 74 1 = some (1, 3) := by kernel_rfl
theorem tfl74 : tflds Tryd.prog 74 = true := by kernel_rfl
theorem tze74 : tzero Tryd.prog 74 = some [Value.int IntKind.i64 0, Value.int IntKind.i64 0] := by kernel_rfl
theorem tin74 : tints Tryd.prog 74 = some 2 := by kernel_rfl
theorem tsz94 : tsz Tryd.prog 94 = 2 := by kernel_rfl
theorem tce94 : tce Tryd.prog 94 = [1, 0] := by kernel_rfl
theorem tfo94_0 : tfo Tryd.prog 94 0 = some (0, 33) := by kernel_rfl
theorem tfo94_1 : tfo Tryd.prog 94 1 = some (1, 3) := by kernel_rfl
theorem tfl94 : tflds Tryd.prog 94 = true := by kernel_rfl
theorem tze94 : tzero Tryd.prog 94 = some [Value.slice none 0 0, Value.int IntKind.i64 0] := by kernel_rfl
theorem tsz99 : tsz Tryd.prog 99 = 6 := by kernel_rfl
theorem inf99 : (Tryd.prog.info? 99).isSome = true := by kernel_rfl
theorem agg99 : aggO Tryd.prog 99 = some true := by kernel_rfl
theorem tce99 : tce Tryd.prog 99 = [0, 1, 1, 1, 1, 2] := by kernel_rfl
theorem zvl99 : zvals Tryd.prog 99 = some [.sc (Value.int IntKind.i64 0), .sc (Value.slice none 0 0), .sc (Value.slice none 0 0), .sc (Value.slice none 0 0), .sc (Value.slice none 0 0), .sc (Value.slice none 0 0)] := by kernel_rfl
theorem tfo99_0 : tfo Tryd.prog 99 0 = some (0, 3) := by kernel_rfl
theorem tfo99_1 : tfo Tryd.prog 99 1 = some (1, 47) := by kernel_rfl
theorem tfo99_2 : tfo Tryd.prog 99 2 = some (2, 47) := by kernel_rfl
theorem tfo99_3 : tfo Tryd.prog 99 3 = some (3, 47) := by kernel_rfl
theorem tfo99_4 : tfo Tryd.prog 99 4 = some (4, 47) := by kernel_rfl
theorem tfo99_5 : tfo Tryd.prog 99 5 = some (5, 35) := by kernel_rfl
theorem tfl99 : tflds Tryd.prog 99 = true := by kernel_rfl
theorem tze99 : tzero Tryd.prog 99 = some [Value.int IntKind.i64 0, Value.slice none 0 0, Value.slice none 0 0, Value.slice none 0 0, Value.slice none 0 0, Value.slice none 0 0] := by kernel_rfl
theorem ifc107 : isIface Tryd.prog 107 = some false := by kernel_rfl
theorem tfl107 : tflds Tryd.prog 107 = true := by kernel_rfl
theorem tze107 : tzero Tryd.prog 107 = some [] := by kernel_rfl
theorem tsz139 : tsz Tryd.prog 139 = 2 := by kernel_rfl
theorem tce139 : tce Tryd.prog 139 = [1, 1] := by kernel_rfl
theorem tfo139_0 : tfo Tryd.prog 139 0 = some (0, 71) := by kernel_rfl
theorem tfo139_1 : tfo Tryd.prog 139 1 = some (1, 71) := by kernel_rfl
theorem tfl139 : tflds Tryd.prog 139 = true := by kernel_rfl
theorem tze139 : tzero Tryd.prog 139 = some [Value.slice none 0 0, Value.slice none 0 0] := by kernel_rfl
theorem tsz140 : tsz Tryd.prog 140 = 21 := by kernel_rfl
theorem agg140 : aggO Tryd.prog 140 = some true := by kernel_rfl
theorem tar140 : tarr Tryd.prog 140 = some (21, 9) := by kernel_rfl
attribute [simp] tsz3 inf3 agg3 tce3 tit3 tsz4 inf4 agg4 tce4 zvl4 tbo4 tsz5 agg5 tsz9 agg9 tce9 tst9 tsz27 inf27 agg27 tel27 tsl27 tap27 tsz29 inf29 agg29 tce29 zvl29 tfo29_0 tfl29 tze29 tsz33 agg33 tel33 tsl33 tsz35 inf35 agg35 tce35 zvl35 tel35 tsl35 tap35 tsz47 inf47 agg47 tel47 tsl47 tap47 tsz48 inf48 agg48 tel48 tsl48 tap48 tsz50 inf50 agg50 tce50 zvl50 tfo50_0 tfo50_1 tfo50_2 tfo50_3 tfl50 tze50 tsz57 inf57 agg57 tce57 zvl57 tfo57_0 tfo57_1 tfo57_2 tfo57_3 tfl57 tze57 tsz71 inf71 agg71 tel71 tsl71 tap71 tsz74 inf74 agg74 tce74 zvl74 tfo74_0 tfo74_1 tfl74 tze74 tin74 tsz94 tce94 tfo94_0 tfo94_1 tfl94 tze94 tsz99 inf99 agg99 tce99 zvl99 tfo99_0 tfo99_1 tfo99_2 tfo99_3 tfo99_4 tfo99_5 tfl99 tze99 ifc107 tfl107 tze107 tsz139 tce139 tfo139_0 tfo139_1 tfl139 tze139 tsz140 agg140 tar140
theorem mixed : Tryd.prog.follows .mixedOrders = true := by kernel_rfl
end Go.Proofs.YtmaoicgfcngciaaDoor
end
