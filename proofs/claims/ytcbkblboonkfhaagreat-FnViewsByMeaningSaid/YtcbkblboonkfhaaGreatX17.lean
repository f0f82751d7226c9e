/-
  Own texts, joined by mkclaim.py: Facts.
-/
import Derived.Test.YtcbkblboonkfhaaGreatProg
import Derived.Test.YtcbkblboonkfhaaGreatX08
set_option linter.unusedSimpArgs false
set_option linter.unusedVariables false
set_option maxRecDepth 100000
set_option maxHeartbeats 4000000

section
namespace Go.Proofs.YtcbkblboonkfhaaGreat
open Go Go.Hm Go.Proofs
theorem tsz3 : tsz Tryz.prog 3 = 1 := by kernel_rfl
theorem inf3 : (Tryz.prog.info? 3).isSome = true := by kernel_rfl
theorem agg3 : aggO Tryz.prog 3 = some false := by kernel_rfl
theorem tce3 : tce Tryz.prog 3 = [0] := by kernel_rfl
theorem zvl3 : zvals Tryz.prog 3 = some [.sc (Value.int IntKind.i64 0)] := by kernel_rfl
theorem tit3 : tint Tryz.prog 3 = some .i64 := by kernel_rfl
theorem tsz4 : tsz Tryz.prog 4 = 1 := by kernel_rfl
theorem inf4 : (Tryz.prog.info? 4).isSome = true := by kernel_rfl
theorem agg4 : aggO Tryz.prog 4 = some false := by kernel_rfl
theorem tbo4 : tbool Tryz.prog 4 = true := by kernel_rfl
theorem tsz5 : tsz Tryz.prog 5 = 1 := by kernel_rfl
theorem agg5 : aggO Tryz.prog 5 = some false := by kernel_rfl
theorem tsz27 : tsz Tryz.prog 27 = 1 := by kernel_rfl
theorem inf27 : (Tryz.prog.info? 27).isSome = true := by kernel_rfl
theorem agg27 : aggO Tryz.prog 27 = some false := by kernel_rfl
theorem tel27 : tel Tryz.prog 27 = some 46 := by kernel_rfl
theorem tsl27 : tslice Tryz.prog 27 = true := by kernel_rfl
theorem tap27 : tapp Tryz.prog 27 = some 46 := by kernel_rfl
theorem tsz29 : tsz Tryz.prog 29 = 1 := by kernel_rfl
theorem inf29 : (Tryz.prog.info? 29).isSome = true := by kernel_rfl
theorem agg29 : aggO Tryz.prog 29 = some true := by kernel_rfl
theorem tce29 : tce Tryz.prog 29 = [4] := by kernel_rfl
theorem zvl29 : zvals Tryz.prog 29 = some [.sc (Value.slice none 0 0)] := by kernel_rfl
theorem tfo29_0 : tfo Tryz.prog 29 0 = some (0, 27) := by kernel_rfl
theorem tfl29 : tflds Tryz.prog 29 = true := by kernel_rfl
theorem tze29 : tzero Tryz.prog 29 = some [Value.slice none 0 0] := by kernel_rfl
theorem tsz33 : tsz Tryz.prog 33 = 1 := by kernel_rfl
theorem agg33 : aggO Tryz.prog 33 = some false := by kernel_rfl
theorem tel33 : tel Tryz.prog 33 = some 5 := by kernel_rfl
theorem tsl33 : tslice Tryz.prog 33 = true := by kernel_rfl
theorem tsz41 : tsz Tryz.prog 41 = 1 := by kernel_rfl
theorem inf41 : (Tryz.prog.info? 41).isSome = true := by kernel_rfl
theorem agg41 : aggO Tryz.prog 41 = some false := by kernel_rfl
theorem tce41 : tce Tryz.prog 41 = [1] := by kernel_rfl
theorem zvl41 : zvals Tryz.prog 41 = some [.sc (Value.slice none 0 0)] := by kernel_rfl
theorem tel41 : tel Tryz.prog 41 = some 3 := by kernel_rfl
theorem tsl41 : tslice Tryz.prog 41 = true := by kernel_rfl
theorem tap41 : tapp Tryz.prog 41 = some 3 := by kernel_rfl
theorem tsz43 : tsz Tryz.prog 43 = 4 := by kernel_rfl
theorem inf43 : (Tryz.prog.info? 43).isSome = true := by kernel_rfl
theorem agg43 : aggO Tryz.prog 43 = some true := by kernel_rfl
theorem tce43 : tce Tryz.prog 43 = [0, 0, 0, 0] := by kernel_rfl
theorem zvl43 : zvals Tryz.prog 43 = some [.sc (Value.int IntKind.i64 0), .sc (Value.int IntKind.i64 0), .sc (Value.int IntKind.i64 0), .sc (Value.int IntKind.i64 0)] := by kernel_rfl
theorem tfo43_0 : tfo Tryz.prog 43 0 = some (0, 3) := by kernel_rfl
theorem tfo43_1 : tfo Tryz.prog 43 1 = some (1, 3) := by kernel_rfl
theorem tfo43_2 : tfo Tryz.prog 43 2 = some (2, 3) := by kernel_rfl
theorem tfo43_3 : tfo Tryz.prog 43 3 = some (3, 3) := by kernel_rfl
theorem tfl43 : tflds Tryz.prog 43 = true := by kernel_rfl
theorem tze43 : tzero Tryz.prog 43 = some [Value.int IntKind.i64 0, Value.int IntKind.i64 0, Value.int IntKind.i64 0, Value.int IntKind.i64 0] := by kernel_rfl
theorem tsz44 : tsz Tryz.prog 44 = 1 := by kernel_rfl
theorem inf44 : (Tryz.prog.info? 44).isSome = true := by kernel_rfl
theorem agg44 : aggO Tryz.prog 44 = some false := by kernel_rfl
theorem tel44 : tel Tryz.prog 44 = some 43 := by kernel_rfl
theorem tsl44 : tslice Tryz.prog 44 = true := by kernel_rfl
theorem tap44 : tapp Tryz.prog 44 = some 43 := by kernel_rfl
theorem tsz46 : tsz Tryz.prog 46 = 4 := by kernel_rfl
theorem inf46 : (Tryz.prog.info? 46).isSome = true := by kernel_rfl
theorem agg46 : aggO Tryz.prog 46 = some true := by kernel_rfl
theorem tce46 : tce Tryz.prog 46 = [0, 0, 1, 4] := by kernel_rfl
theorem zvl46 : zvals Tryz.prog 46 = some [.sc (Value.int IntKind.i64 0), .sc (Value.int IntKind.i64 0), .sc (Value.slice none 0 0), .sc (Value.slice none 0 0)] := by kernel_rfl
theorem tfo46_0 : tfo Tryz.prog 46 0 = some (0, 3) := by kernel_rfl
theorem tfo46_1 : tfo Tryz.prog 46 1 = some (1, 3) := by kernel_rfl
theorem tfo46_2 : tfo Tryz.prog 46 2 = some (2, 41) := by kernel_rfl
theorem tfo46_3 : tfo Tryz.prog 46 3 = some (3, 44) := by kernel_rfl
theorem tfl46 : tflds Tryz.prog 46 = true := by kernel_rfl
theorem tze46 : tzero Tryz.prog 46 = some [Value.int IntKind.i64 0, Value.int IntKind.i64 0, Value.slice none 0 0, Value.slice none 0 0] := by kernel_rfl
theorem tel55 : tel Tryz.prog 55 = some 66 := by kernel_rfl
theorem tsl55 : tslice Tryz.prog 55 = true := by kernel_rfl
theorem tap55 : tapp Tryz.prog 55 = some 66 := by kernel_rfl
theorem tsz62 : tsz Tryz.prog 62 = 4 := by kernel_rfl
theorem inf62 : (Tryz.prog.info? 62).isSome = true := by kernel_rfl
theorem agg62 : aggO Tryz.prog 62 = some true := by kernel_rfl
theorem tce62 : tce Tryz.prog 62 = [1, 0, 0, 1] := by kernel_rfl
theorem zvl62 : zvals Tryz.prog 62 = some [.sc (Value.slice none 0 0), .sc (Value.int IntKind.i64 0), .sc (Value.int IntKind.i64 0), .sc (Value.slice none 0 0)] := by kernel_rfl
theorem tfo62_0 : tfo Tryz.prog 62 0 = some (0, 41) := by kernel_rfl
theorem tfo62_1 : tfo Tryz.prog 62 1 = some (1, 3) := by kernel_rfl
theorem tfo62_2 : tfo Tryz.prog 62 2 = some (2, 3) := by kernel_rfl
theorem tfo62_3 : tfo Tryz.prog 62 3 = some (3, 41) := by kernel_rfl
theorem tfl62 : tflds Tryz.prog 62 = true := by kernel_rfl
theorem tze62 : tzero Tryz.prog 62 = some [Value.slice none 0 0, Value.int IntKind.i64 0, Value.int IntKind.i64 0, Value.slice none 0 0] := by kernel_rfl
theorem tsz66 : tsz Tryz.prog 66 = 3 := by kernel_rfl
theorem inf66 : (Tryz.prog.info? 66).isSome = true := by kernel_rfl
theorem agg66 : aggO Tryz.prog 66 = some true := by kernel_rfl
theorem tce66 : tce Tryz.prog 66 = [0, 1, 1] := by kernel_rfl
theorem zvl66 : zvals Tryz.prog 66 = some [.sc (Value.int IntKind.i64 0), .sc (Value.slice none 0 0), .sc (Value.slice none 0 0)] := by kernel_rfl
theorem tfo66_0 : tfo Tryz.prog 66 0 = some (0, 3) := by kernel_rfl
theorem tfo66_1 : tfo Tryz.prog 66 1 = some (1, 41) := by kernel_rfl
theorem tfo66_2 : tfo Tryz.prog 66 2 = some (2, 41) := by kernel_rfl
theorem tfl66 : tflds Tryz.prog 66 = true := by kernel_rfl
theorem tze66 : tzero Tryz.prog 66 = some [Value.int IntKind.i64 0, Value.slice none 0 0, Value.slice none 0 0] := by kernel_rfl
theorem tsz71 : tsz Tryz.prog 71 = 1 := by kernel_rfl
theorem inf71 : (Tryz.prog.info? 71).isSome = true := by kernel_rfl
theorem agg71 : aggO Tryz.prog 71 = some false := by kernel_rfl
theorem tel71 : tel Tryz.prog 71 = some 115 := by kernel_rfl
theorem tsl71 : tslice Tryz.prog 71 = true := by kernel_rfl
theorem tap71 : tapp Tryz.prog 71 = some 115 := by kernel_rfl
theorem tsz72 : tsz Tryz.prog 72 = 1 := by kernel_rfl
theorem agg72 : aggO Tryz.prog 72 = some false := by kernel_rfl
theorem tce72 : tce Tryz.prog 72 = [3] := by kernel_rfl
theorem tel72 : tel Tryz.prog 72 = some 119 := by kernel_rfl
theorem tap72 : tapp Tryz.prog 72 = some 119 := by kernel_rfl
theorem tsz73 : tsz Tryz.prog 73 = 1 := by kernel_rfl
theorem inf73 : (Tryz.prog.info? 73).isSome = true := by kernel_rfl
theorem agg73 : aggO Tryz.prog 73 = some false := by kernel_rfl
theorem tel73 : tel Tryz.prog 73 = some 72 := by kernel_rfl
theorem tsl73 : tslice Tryz.prog 73 = true := by kernel_rfl
theorem tap73 : tapp Tryz.prog 73 = some 72 := by kernel_rfl
theorem tsz74 : tsz Tryz.prog 74 = 1 := by kernel_rfl
theorem inf74 : (Tryz.prog.info? 74).isSome = true := by kernel_rfl
theorem agg74 : aggO Tryz.prog 74 = some false := by kernel_rfl
theorem tap74 : tapp Tryz.prog 74 = some 169 := by kernel_rfl
theorem tsz76 : tsz Tryz.prog 76 = 10 := by kernel_rfl
theorem tce76 : tce Tryz.prog 76 = [4, 3, 1, 3, 3, 1, 1, 2, 0, 0] := by kernel_rfl
theorem tfo76_0 : tfo Tryz.prog 76 0 = some (0, 29) := by kernel_rfl
theorem tfo76_1 : tfo Tryz.prog 76 1 = some (1, 71) := by kernel_rfl
theorem tfo76_2 : tfo Tryz.prog 76 2 = some (2, 41) := by kernel_rfl
theorem tfo76_3 : tfo Tryz.prog 76 3 = some (3, 72) := by kernel_rfl
theorem tfo76_4 : tfo Tryz.prog 76 4 = some (4, 71) := by kernel_rfl
theorem tfo76_5 : tfo Tryz.prog 76 5 = some (5, 73) := by kernel_rfl
theorem tfo76_6 : tfo Tryz.prog 76 6 = some (6, 41) := by kernel_rfl
theorem tfo76_7 : tfo Tryz.prog 76 7 = some (7, 74) := by kernel_rfl
theorem tfo76_8 : tfo Tryz.prog 76 8 = some (8, 3) := by kernel_rfl
theorem tfo76_9 : tfo Tryz.prog 76 9 = some (9, 3) := by kernel_rfl
theorem tfl76 : tflds Tryz.prog 76 = true := by kernel_rfl
theorem tze76 : tzero Tryz.prog 76 = some [Value.slice none 0 0, Value.slice none 0 0, Value.slice none 0 0, Value.slice none 0 0, Value.slice none 0 0, Value.slice none 0 0, Value.slice none 0 0, Value.slice none 0 0, Value.int IntKind.i64 0, Value.int IntKind.i64 0] := by kernel_rfl
theorem tsz82 : tsz Tryz.prog 82 = 1 := by kernel_rfl
theorem agg82 : aggO Tryz.prog 82 = some false := by kernel_rfl
theorem tel82 : tel Tryz.prog 82 = some 106 := by kernel_rfl
theorem tsl82 : tslice Tryz.prog 82 = true := by kernel_rfl
theorem tap82 : tapp Tryz.prog 82 = some 106 := by kernel_rfl
theorem tsz83 : tsz Tryz.prog 83 = 1 := by kernel_rfl
theorem inf83 : (Tryz.prog.info? 83).isSome = true := by kernel_rfl
theorem agg83 : aggO Tryz.prog 83 = some false := by kernel_rfl
theorem tce83 : tce Tryz.prog 83 = [0] := by kernel_rfl
theorem tsz84 : tsz Tryz.prog 84 = 1 := by kernel_rfl
theorem inf84 : (Tryz.prog.info? 84).isSome = true := by kernel_rfl
theorem agg84 : aggO Tryz.prog 84 = some false := by kernel_rfl
theorem tel84 : tel Tryz.prog 84 = some 83 := by kernel_rfl
theorem tsl84 : tslice Tryz.prog 84 = true := by kernel_rfl
theorem tap84 : tapp Tryz.prog 84 = some 83 := by kernel_rfl
theorem tsz85 : tsz Tryz.prog 85 = 1 := by kernel_rfl
theorem inf85 : (Tryz.prog.info? 85).isSome = true := by kernel_rfl
theorem agg85 : aggO Tryz.prog 85 = some false := by kernel_rfl
theorem tel85 : tel Tryz.prog 85 = some 243 := by kernel_rfl
theorem tsl85 : tslice Tryz.prog 85 = true := by kernel_rfl
theorem tap85 : tapp Tryz.prog 85 = some 243 := by kernel_rfl
theorem tsz86 : tsz Tryz.prog 86 = 1 := by kernel_rfl
theorem inf86 : (Tryz.prog.info? 86).isSome = true := by kernel_rfl
theorem agg86 : aggO Tryz.prog 86 = some false := by kernel_rfl
theorem tel86 : tel Tryz.prog 86 = some 137 := by kernel_rfl
theorem tsl86 : tslice Tryz.prog 86 = true := by kernel_rfl
theorem tap86 : tapp Tryz.prog 86 = some 137 := by kernel_rfl
theorem tsz88 : tsz Tryz.prog 88 = 10 := by kernel_rfl
theorem tce88 : tce Tryz.prog 88 = [4, 1, 0, 0, 1, 2, 0, 1, 2, 1] := by kernel_rfl
theorem tfo88_0 : tfo Tryz.prog 88 0 = some (0, 29) := by kernel_rfl
theorem tfo88_1 : tfo Tryz.prog 88 1 = some (1, 82) := by kernel_rfl
theorem tfo88_2 : tfo Tryz.prog 88 2 = some (2, 3) := by kernel_rfl
theorem tfo88_3 : tfo Tryz.prog 88 3 = some (3, 3) := by kernel_rfl
theorem tfo88_4 : tfo Tryz.prog 88 4 = some (4, 41) := by kernel_rfl
theorem tfo88_5 : tfo Tryz.prog 88 5 = some (5, 74) := by kernel_rfl
theorem tfo88_6 : tfo Tryz.prog 88 6 = some (6, 83) := by kernel_rfl
theorem tfo88_7 : tfo Tryz.prog 88 7 = some (7, 84) := by kernel_rfl
theorem tfo88_8 : tfo Tryz.prog 88 8 = some (8, 85) := by kernel_rfl
theorem tfo88_9 : tfo Tryz.prog 88 9 = some (9, 86) := by kernel_rfl
theorem tfl88 : tflds Tryz.prog 88 = true := by kernel_rfl
theorem tze88 : tzero Tryz.prog 88 = some [Value.slice none 0 0, Value.slice none 0 0, Value.int IntKind.i64 0, Value.int IntKind.i64 0, Value.slice none 0 0, Value.slice none 0 0, Value.pointer none, Value.slice none 0 0, Value.slice none 0 0, Value.slice none 0 0] := by kernel_rfl
theorem tsz89 : tsz Tryz.prog 89 = 1 := by kernel_rfl
theorem agg89 : aggO Tryz.prog 89 = some false := by kernel_rfl
theorem tce89 : tce Tryz.prog 89 = [0] := by kernel_rfl
theorem tsz106 : tsz Tryz.prog 106 = 1 := by kernel_rfl
theorem inf106 : (Tryz.prog.info? 106).isSome = true := by kernel_rfl
theorem agg106 : aggO Tryz.prog 106 = some false := by kernel_rfl
theorem zvl106 : zvals Tryz.prog 106 = some [.sc (Value.pointer none)] := by kernel_rfl
theorem tpt106 : isPtr Tryz.prog 106 = true := by kernel_rfl
theorem tsz110 : tsz Tryz.prog 110 = 8 := by kernel_rfl
theorem inf110 : (Tryz.prog.info? 110).isSome = true := by kernel_rfl
theorem agg110 : aggO Tryz.prog 110 = some true := by kernel_rfl
theorem tce110 : tce Tryz.prog 110 = [0, 0, 0, 0, 0, 0, 0, 0] := by kernel_rfl
theorem zvl110 : zvals Tryz.prog 110 = some [.sc (Value.bool false), .sc (Value.bool false), .sc (Value.bool false), .sc (Value.bool false), .sc (Value.bool false), .sc (Value.bool false), .sc (Value.bool false), .sc (Value.bool false)] := by kernel_rfl
theorem tel110 : tel Tryz.prog 110 = none := by kernel_rfl
theorem tar110 : tarr Tryz.prog 110 = some (8, 4) := by kernel_rfl
theorem tsz115 : tsz Tryz.prog 115 = 3 := by kernel_rfl
theorem inf115 : (Tryz.prog.info? 115).isSome = true := by kernel_rfl
theorem agg115 : aggO Tryz.prog 115 = some true := by kernel_rfl
theorem tce115 : tce Tryz.prog 115 = [0, 0, 3] := by kernel_rfl
theorem zvl115 : zvals Tryz.prog 115 = some [.sc (Value.int IntKind.i64 0), .sc (Value.int IntKind.i64 0), .sc (Value.slice none 0 0)] := by kernel_rfl
theorem tfo115_0 : tfo Tryz.prog 115 0 = some (0, 3) := by kernel_rfl
theorem tfo115_1 : tfo Tryz.prog 115 1 = some (1, 3) := by kernel_rfl
theorem tfo115_2 : tfo Tryz.prog 115 2 = some (2, 72) := by kernel_rfl
theorem tfl115 : tflds Tryz.prog 115 = true := by kernel_rfl
theorem tze115 : tzero Tryz.prog 115 = some [Value.int IntKind.i64 0, Value.int IntKind.i64 0, Value.slice none 0 0] := by kernel_rfl
theorem tsz117 : tsz Tryz.prog 117 = 2 := by kernel_rfl
theorem inf117 : (Tryz.prog.info? 117).isSome = true := by kernel_rfl
theorem agg117 : aggO Tryz.prog 117 = some true := by kernel_rfl
theorem tce117 : tce Tryz.prog 117 = [0, 0] := by kernel_rfl
theorem zvl117 : zvals Tryz.prog 117 = some [.sc (Value.int IntKind.i64 0), .sc (Value.int IntKind.i64 0)] := by kernel_rfl
theorem zfl117 : zflat Tryz.prog 117 = some (.agg [.sc (Value.int IntKind.i64 0), .sc (Value.int IntKind.i64 0)]) := by kernel_rfl
theorem tfo117_0 : tfo Tryz.prog 117 0 = some (0, 3) := by kernel_rfl
theorem tfo117_1 : tfo Tryz.prog 117 1 = some (1, 3) := by kernel_rfl
theorem tfl117 : tflds Tryz.prog 117 = true := by kernel_rfl
theorem tze117 : tzero Tryz.prog 117 = some [Value.int IntKind.i64 0, Value.int IntKind.i64 0] := by kernel_rfl
theorem tsz119 : tsz Tryz.prog 119 = 3 := by kernel_rfl
theorem inf119 : (Tryz.prog.info? 119).isSome = true := by kernel_rfl
theorem agg119 : aggO Tryz.prog 119 = some true := by kernel_rfl
theorem tce119 : tce Tryz.prog 119 = [0, 0, 0] := by kernel_rfl
theorem zvl119 : zvals Tryz.prog 119 = some [.sc (Value.bool false), .sc (Value.int IntKind.i64 0), .sc (Value.int IntKind.i64 0)] := by kernel_rfl
theorem zfl119 : zflat Tryz.prog 119 = some (.agg [.sc (Value.bool false), .sc (Value.int IntKind.i64 0), .sc (Value.int IntKind.i64 0)]) := by kernel_rfl
theorem tfo119_0 : tfo Tryz.prog 119 0 = some (0, 4) := by kernel_rfl
theorem tfo119_1 : tfo Tryz.prog 119 1 = some (1, 117) := by kernel_rfl
theorem tfl119 : tflds Tryz.prog 119 = true := by kernel_rfl
theorem tze119 : tzero Tryz.prog 119 = some [Value.bool false, Value.int IntKind.i64 0, Value.int IntKind.i64 0] := by kernel_rfl
theorem tsz137 : tsz Tryz.prog 137 = 1 := by kernel_rfl
theorem agg137 : aggO Tryz.prog 137 = some false := by kernel_rfl
theorem tce137 : tce Tryz.prog 137 = [0] := by kernel_rfl
theorem tmi137 : tmapI Tryz.prog 137 = some (.i64, 117) := by kernel_rfl
theorem tsz139 : tsz Tryz.prog 139 = 3 := by kernel_rfl
theorem tce139 : tce Tryz.prog 139 = [0, 0, 0] := by kernel_rfl
theorem tfo139_0 : tfo Tryz.prog 139 0 = some (0, 3) := by kernel_rfl
theorem tfo139_1 : tfo Tryz.prog 139 1 = some (1, 137) := by kernel_rfl
theorem tfo139_2 : tfo Tryz.prog 139 2 = some (2, 83) := by kernel_rfl
theorem tfl139 : tflds Tryz.prog 139 = true := by kernel_rfl
theorem tze139 : tzero Tryz.prog 139 = some [Value.int IntKind.i64 0, Value.map none, Value.pointer none] := by kernel_rfl
theorem tsz144 : tsz Tryz.prog 144 = 2 := by kernel_rfl
theorem tce144 : tce Tryz.prog 144 = [1, 0] := by kernel_rfl
theorem tfo144_0 : tfo Tryz.prog 144 0 = some (0, 33) := by kernel_rfl
theorem tfo144_1 : tfo Tryz.prog 144 1 = some (1, 3) := by kernel_rfl
theorem tfl144 : tflds Tryz.prog 144 = true := by kernel_rfl
theorem tze144 : tzero Tryz.prog 144 = some [Value.slice none 0 0, Value.int IntKind.i64 0] := by kernel_rfl
theorem tsz150 : tsz Tryz.prog 150 = 43 := by kernel_rfl
theorem tce150 : tce Tryz.prog 150 = [0, 0, 0, 0, 0, 0, 0, 0, 0, 0, 0, 0, 0, 0, 0, 0, 0, 0, 0, 0, 0, 0, 0, 0, 0, 0, 0, 0, 0, 0, 0, 0, 0, 0, 0, 0, 0, 0, 0, 0, 0, 0, 0] := by kernel_rfl
theorem tfo150_0 : tfo Tryz.prog 150 0 = some (0, 3) := by kernel_rfl
theorem tfo150_1 : tfo Tryz.prog 150 1 = some (1, 3) := by kernel_rfl
theorem tfo150_2 : tfo Tryz.prog 150 2 = some (2, 106) := by kernel_rfl
theorem tfo150_3 : tfo Tryz.prog 150 3 = some (3, 110) := by kernel_rfl
theorem tfo150_4 : tfo Tryz.prog 150 4 = some (11, 110) := by kernel_rfl
theorem tfo150_5 : tfo Tryz.prog 150 5 = some (19, 110) := by kernel_rfl
theorem tfo150_6 : tfo Tryz.prog 150 6 = some (27, 110) := by kernel_rfl
theorem tfo150_7 : tfo Tryz.prog 150 7 = some (35, 110) := by kernel_rfl
theorem tfl150 : tflds Tryz.prog 150 = true := by kernel_rfl
theorem tze150 : tzero Tryz.prog 150 = some [Value.int IntKind.i64 0, Value.int IntKind.i64 0, Value.pointer none, Value.bool false, Value.bool false, Value.bool false, Value.bool false, Value.bool false, Value.bool false, Value.bool false, Value.bool false, Value.bool false, Value.bool false, Value.bool false, Value.bool false, Value.bool false, Value.bool false, Value.bool false, Value.bool false, Value.bool false, Value.bool false, Value.bool false, Value.bool false, Value.bool false, Value.bool false, Value.bool false, Value.bool false, Value.bool false, Value.bool false, Value.bool false, Value.bool false, Value.bool false, Value.bool false, Value.bool false, Value.bool false, Value.bool false, Value.bool false, Value.bool false, Value.bool false, Value.bool false, Value.bool false, Value.bool false, Value.bool false] := by kernel_rfl
theorem tsz154 : tsz Tryz.prog 154 = 7 := by kernel_rfl
theorem tce154 : tce Tryz.prog 154 = [0, 0, 0, 0, 0, 0, 0] := by kernel_rfl
theorem zvl154 : zvals Tryz.prog 154 = some [.sc (Value.int IntKind.i64 0), .sc (Value.int IntKind.i64 0), .sc (Value.int IntKind.i64 0), .sc (Value.int IntKind.i64 0), .sc (Value.int IntKind.i64 0), .sc (Value.int IntKind.i64 0), .sc (Value.int IntKind.i64 0)] := by kernel_rfl
theorem tel154 : tel Tryz.prog 154 = none := by kernel_rfl
theorem tar154 : tarr Tryz.prog 154 = some (7, 3) := by kernel_rfl
theorem tsz157 : tsz Tryz.prog 157 = 2 := by kernel_rfl
theorem inf157 : (Tryz.prog.info? 157).isSome = true := by kernel_rfl
theorem ifc157 : isIface Tryz.prog 157 = some false := by kernel_rfl
theorem tce157 : tce Tryz.prog 157 = [0, 0] := by kernel_rfl
theorem zvl157 : zvals Tryz.prog 157 = some [.sc (Value.int IntKind.i64 0), .sc (Value.int IntKind.i64 0)] := by kernel_rfl
theorem zfl157 : zflat Tryz.prog 157 = some (.agg [.sc (Value.int IntKind.i64 0), .sc (Value.int IntKind.i64 0)]) := by kernel_rfl
theorem tfo157_0 : tfo Tryz.prog 157 0 = some (0, 3) := by kernel_rfl
theorem tfo157_1 : tfo Tryz.prog 157 1 = some (1, 3) := by kernel_rfl
theorem tfl157 : tflds Tryz.prog 157 = true := by kernel_rfl
theorem tze157 : tzero Tryz.prog 157 = some [Value.int IntKind.i64 0, Value.int IntKind.i64 0] := by kernel_rfl
theorem tsz163 : tsz Tryz.prog 163 = 1 := by kernel_rfl
theorem tce163 : tce Tryz.prog 163 = [0] := by kernel_rfl
theorem tmi163 : tmapI Tryz.prog 163 = some (.i64, 119) := by kernel_rfl
theorem tsz169 : tsz Tryz.prog 169 = 2 := by kernel_rfl
theorem tce169 : tce Tryz.prog 169 = [0, 0] := by kernel_rfl
theorem tfo169_0 : tfo Tryz.prog 169 0 = some (0, 3) := by kernel_rfl
theorem tfo169_1 : tfo Tryz.prog 169 1 = some (1, 3) := by kernel_rfl
theorem tfl169 : tflds Tryz.prog 169 = true := by kernel_rfl
theorem tze169 : tzero Tryz.prog 169 = some [Value.int IntKind.i64 0, Value.int IntKind.i64 0] := by kernel_rfl
theorem tel173 : tel Tryz.prog 173 = some 117 := by kernel_rfl
theorem tsl173 : tslice Tryz.prog 173 = true := by kernel_rfl
theorem tap173 : tapp Tryz.prog 173 = some 117 := by kernel_rfl
theorem tsz182 : tsz Tryz.prog 182 = 1 := by kernel_rfl
theorem inf182 : (Tryz.prog.info? 182).isSome = true := by kernel_rfl
theorem ifc182 : isIface Tryz.prog 182 = some false := by kernel_rfl
theorem tce182 : tce Tryz.prog 182 = [0] := by kernel_rfl
theorem zvl182 : zvals Tryz.prog 182 = some [.sc (Value.int IntKind.i64 0)] := by kernel_rfl
theorem zfl182 : zflat Tryz.prog 182 = some (.agg [.sc (Value.int IntKind.i64 0)]) := by kernel_rfl
theorem tfo182_0 : tfo Tryz.prog 182 0 = some (0, 3) := by kernel_rfl
theorem tfl182 : tflds Tryz.prog 182 = true := by kernel_rfl
theorem tze182 : tzero Tryz.prog 182 = some [Value.int IntKind.i64 0] := by kernel_rfl
theorem tsz184 : tsz Tryz.prog 184 = 1 := by kernel_rfl
theorem inf184 : (Tryz.prog.info? 184).isSome = true := by kernel_rfl
theorem ifc184 : isIface Tryz.prog 184 = some false := by kernel_rfl
theorem tce184 : tce Tryz.prog 184 = [0] := by kernel_rfl
theorem zvl184 : zvals Tryz.prog 184 = some [.sc (Value.int IntKind.i64 0)] := by kernel_rfl
theorem zfl184 : zflat Tryz.prog 184 = some (.agg [.sc (Value.int IntKind.i64 0)]) := by kernel_rfl
theorem tfo184_0 : tfo Tryz.prog 184 0 = some (0, 3) := by kernel_rfl
theorem tfl184 : tflds Tryz.prog 184 = true := by kernel_rfl
theorem tze184 : tzero Tryz.prog 184 = some [Value.int IntKind.i64 0] := by kernel_rfl
theorem tsz186 : tsz Tryz.prog 186 = 2 := by kernel_rfl
theorem inf186 : (Tryz.prog.info? 186).isSome = true := by kernel_rfl
theorem ifc186 : isIface Tryz.prog 186 = some false := by kernel_rfl
theorem tce186 : tce Tryz.prog 186 = [0, 0] := by kernel_rfl
theorem zvl186 : zvals Tryz.prog 186 = some [.sc (Value.int IntKind.i64 0), .sc (Value.int IntKind.i64 0)] := by kernel_rfl
theorem zfl186 : zflat Tryz.prog 186 = some (.agg [.sc (Value.int IntKind.i64 0), .sc (Value.int IntKind.i64 0)]) := by kernel_rfl
theorem tfo186_0 : tfo Tryz.prog 186 0 = some (0, 3) := by kernel_rfl
theorem tfo186_1 : tfo Tryz.prog 186 1 = some (1, 3) := by kernel_rfl
theorem tfl186 : tflds Tryz.prog 186 = true := by kernel_rfl
theorem tze186 : tzero Tryz.prog 186 = some [Value.int IntKind.i64 0, Value.int IntKind.i64 0] := by kernel_rfl
theorem tsz188 : tsz Tryz.prog 188 = 2 := by kernel_rfl
theorem inf188 : (Tryz.prog.info? 188).isSome = true := by kernel_rfl
theorem ifc188 : isIface Tryz.prog 188 = some false := by kernel_rfl
theorem tce188 : tce Tryz.prog 188 = [0, 0] := by kernel_rfl
theorem zvl188 : zvals Tryz.prog 188 = some [.sc (Value.int IntKind.i64 0), .sc (Value.int IntKind.i64 0)] := by kernel_rfl
theorem zfl188 : zflat Tryz.prog 188 = some (.agg [.sc (Value.int IntKind.i64 0), .sc (Value.int IntKind.i64 0)]) := by kernel_rfl
theorem tfo188_0 : tfo Tryz.prog 188 0 = some (0, 3) := by kernel_rfl
theorem tfo188_1 : tfo Tryz.prog 188 1 = some (1, 3) := by kernel_rfl
theorem tfl188 : tflds Tryz.prog 188 = true := by kernel_rfl
theorem tze188 : tzero Tryz.prog 188 = some [Value.int IntKind.i64 0, Value.int IntKind.i64 0] := by kernel_rfl
theorem tsz190 : tsz Tryz.prog 190 = 2 := by kernel_rfl
theorem inf190 : (Tryz.prog.info? 190).isSome = true := by kernel_rfl
theorem ifc190 : isIface Tryz.prog 190 = some false := by kernel_rfl
theorem tce190 : tce Tryz.prog 190 = [0, 0] := by kernel_rfl
theorem zvl190 : zvals Tryz.prog 190 = some [.sc (Value.int IntKind.i64 0), .sc (Value.int IntKind.i64 0)] := by kernel_rfl
theorem zfl190 : zflat Tryz.prog 190 = some (.agg [.sc (Value.int IntKind.i64 0), .sc (Value.int IntKind.i64 0)]) := by kernel_rfl
theorem tfo190_0 : tfo Tryz.prog 190 0 = some (0, 3) := by kernel_rfl
theorem tfo190_1 : tfo Tryz.prog 190 1 = some (1, 3) := by kernel_rfl
theorem tfl190 : tflds Tryz.prog 190 = true := by kernel_rfl
theorem tze190 : tzero Tryz.prog 190 = some [Value.int IntKind.i64 0, Value.int IntKind.i64 0] := by kernel_rfl
theorem tsz192 : tsz Tryz.prog 192 = 1 := by kernel_rfl
theorem inf192 : (Tryz.prog.info? 192).isSome = true := by kernel_rfl
theorem ifc192 : isIface Tryz.prog 192 = some false := by kernel_rfl
theorem tce192 : tce Tryz.prog 192 = [0] := by kernel_rfl
theorem zvl192 : zvals Tryz.prog 192 = some [.sc (Value.int IntKind.i64 0)] := by kernel_rfl
theorem zfl192 : zflat Tryz.prog 192 = some (.agg [.sc (Value.int IntKind.i64 0)]) := by kernel_rfl
theorem tfo192_0 : tfo Tryz.prog 192 0 = some (0, 3) := by kernel_rfl
theorem tfl192 : tflds Tryz.prog 192 = true := by kernel_rfl
theorem tze192 : tzero Tryz.prog 192 = some [Value.int IntKind.i64 0] := by kernel_rfl
theorem tsz193 : tsz Tryz.prog 193 = 1 := by kernel_rfl
theorem inf193 : (Tryz.prog.info? 193).isSome = true := by kernel_rfl
theorem ifc193 : isIface Tryz.prog 193 = some false := by kernel_rfl
theorem tce193 : tce Tryz.prog 193 = [0] := by kernel_rfl
theorem zvl193 : zvals Tryz.prog 193 = some [.sc (Value.int IntKind.i64 0)] := by kernel_rfl
theorem zfl193 : zflat Tryz.prog 193 = some (.agg [.sc (Value.int IntKind.i64 0)]) := by kernel_rfl
theorem tfo193_0 : tfo Tryz.prog 193 0 = some (0, 3) := by kernel_rfl
theorem tfl193 : tflds Tryz.prog 193 = true := by kernel_rfl
theorem tze193 : tzero Tryz.prog 193 = some [Value.int IntKind.i64 0] := by kernel_rfl
theorem tsz195 : tsz Tryz.prog 195 = 0 := by kernel_rfl
theorem inf195 : (Tryz.prog.info? 195).isSome = true := by kernel_rfl
theorem ifc195 : isIface Tryz.prog 195 = some false := by kernel_rfl
theorem tce195 : tce Tryz.prog 195 = [] := by kernel_rfl
theorem zvl195 : zvals Tryz.prog 195 = some [] := by kernel_rfl
theorem zfl195 : zflat Tryz.prog 195 = some (.agg []) := by kernel_rfl
theorem tfl195 : tflds Tryz.prog 195 = true := by kernel_rfl
theorem tze195 : tzero Tryz.prog 195 = some [] := by kernel_rfl
theorem tsz196 : tsz Tryz.prog 196 = 0 := by kernel_rfl
theorem inf196 : (Tryz.prog.info? 196).isSome = true := by kernel_rfl
theorem ifc196 : isIface Tryz.prog 196 = some false := by kernel_rfl
theorem tce196 : tce Tryz.prog 196 = [] := by kernel_rfl
theorem zvl196 : zvals Tryz.prog 196 = some [] := by kernel_rfl
theorem zfl196 : zflat Tryz.prog 196 = some (.agg []) := by kernel_rfl
theorem tfl196 : tflds Tryz.prog 196 = true := by kernel_rfl
theorem tze196 : tzero Tryz.prog 196 = some [] := by kernel_rfl
theorem tsz243 : tsz Tryz.prog 243 = 2 := by kernel_rfl
theorem inf243 : (Tryz.prog.info? 243).isSome = true := by kernel_rfl
theorem agg243 : aggO Tryz.prog 243 = some true := by kernel_rfl
theorem tce243 : tce Tryz.prog 243 = [0, 0] := by kernel_rfl
theorem zvl243 : zvals Tryz.prog 243 = some [.sc (Value.int IntKind.i64 0), .sc (Value.nilFunc)] := by kernel_rfl
theorem tfo243_0 : tfo Tryz.prog 243 0 = some (0, 3) := by kernel_rfl
theorem tfo243_1 : tfo Tryz.prog 243 1 = some (1, 241) := by kernel_rfl
theorem tfl243 : tflds Tryz.prog 243 = true := by kernel_rfl
theorem tze243 : tzero Tryz.prog 243 = some [Value.int IntKind.i64 0, Value.nilFunc] := by kernel_rfl
attribute [simp] tsz3 inf3 agg3 tce3 zvl3 tit3 tsz4 inf4 agg4 tbo4 tsz5 agg5 tsz27 inf27 agg27 tel27 tsl27 tap27 tsz29 inf29 agg29 tce29 zvl29 tfo29_0 tfl29 tze29 tsz33 agg33 tel33 tsl33 tsz41 inf41 agg41 tce41 zvl41 tel41 tsl41 tap41 tsz43 inf43 agg43 tce43 zvl43 tfo43_0 tfo43_1 tfo43_2 tfo43_3 tfl43 tze43 tsz44 inf44 agg44 tel44 tsl44 tap44 tsz46 inf46 agg46 tce46 zvl46 tfo46_0 tfo46_1 tfo46_2 tfo46_3 tfl46 tze46 tel55 tsl55 tap55 tsz62 inf62 agg62 tce62 zvl62 tfo62_0 tfo62_1 tfo62_2 tfo62_3 tfl62 tze62 tsz66 inf66 agg66 tce66 zvl66 tfo66_0 tfo66_1 tfo66_2 tfl66 tze66 tsz71 inf71 agg71 tel71 tsl71 tap71 tsz72 agg72 tce72 tel72 tap72 tsz73 inf73 agg73 tel73 tsl73 tap73 tsz74 inf74 agg74 tap74 tsz76 tce76 tfo76_0 tfo76_1 tfo76_2 tfo76_3 tfo76_4 tfo76_5 tfo76_6 tfo76_7 tfo76_8 tfo76_9 tfl76 tze76 tsz82 agg82 tel82 tsl82 tap82 tsz83 inf83 agg83 tce83 tsz84 inf84 agg84 tel84 tsl84 tap84 tsz85 inf85 agg85 tel85 tsl85 tap85 tsz86 inf86 agg86 tel86 tsl86 tap86 tsz88 tce88 tfo88_0 tfo88_1 tfo88_2 tfo88_3 tfo88_4 tfo88_5 tfo88_6 tfo88_7 tfo88_8 tfo88_9 tfl88 tze88 tsz89 agg89 tce89 tsz106 inf106 agg106 zvl106 tpt106 tsz110 inf110 agg110 tce110 zvl110 tel110 tar110 tsz115 inf115 agg115 tce115 zvl115 tfo115_0 tfo115_1 tfo115_2 tfl115 tze115 tsz117 inf117 agg117 tce117 zvl117 zfl117 tfo117_0 tfo117_1 tfl117 tze117 tsz119 inf119 agg119 tce119 zvl119 zfl119 tfo119_0 tfo119_1 tfl119 tze119 tsz137 agg137 tce137 tmi137 tsz139 tce139 tfo139_0 tfo139_1 tfo139_2 tfl139 tze139 tsz144 tce144 tfo144_0 tfo144_1 tfl144 tze144 tsz150 tce150 tfo150_0 tfo150_1 tfo150_2 tfo150_3 tfo150_4 tfo150_5 tfo150_6 tfo150_7 tfl150 tze150 tsz154 tce154 zvl154 tel154 tar154 tsz157 inf157 ifc157 tce157 zvl157 zfl157 tfo157_0 tfo157_1 tfl157 tze157 tsz163 tce163 tmi163 tsz169 tce169 tfo169_0 tfo169_1 tfl169 tze169 tel173 tsl173 tap173 tsz182 inf182 ifc182 tce182 zvl182 zfl182 tfo182_0 tfl182 tze182 tsz184 inf184 ifc184 tce184 zvl184 zfl184 tfo184_0 tfl184 tze184 tsz186 inf186 ifc186 tce186 zvl186 zfl186 tfo186_0 tfo186_1 tfl186 tze186 tsz188 inf188 ifc188 tce188 zvl188 zfl188 tfo188_0 tfo188_1 tfl188 tze188 tsz190 inf190 ifc190 tce190 zvl190 zfl190 tfo190_0 tfo190_1 tfl190 tze190 tsz192 inf192 ifc192 tce192 zvl192 zfl192 tfo192_0 tfl192 tze192 tsz193 inf193 ifc193 tce193 zvl193 zfl193 tfo193_0 tfl193 tze193 tsz195 inf195 ifc195 tce195 zvl195 zfl195 tfl195 tze195 tsz196 inf196 ifc196 tce196 zvl196 zfl196 tfl196 tze196 tsz243 inf243 agg243 tce243 zvl243 tfo243_0 tfo243_1 tfl243 tze243
theorem mixed : Tryz.prog.follows .mixedOrders = true := by kernel_rfl
end Go.Proofs.YtcbkblboonkfhaaGreat
end
