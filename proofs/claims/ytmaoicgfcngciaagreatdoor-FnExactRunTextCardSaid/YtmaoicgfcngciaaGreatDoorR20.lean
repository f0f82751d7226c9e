/-
  Own texts, joined by mkclaim.py: Facts.
-/
import Derived.Test.YtmaoicgfcngciaaGreatDoorProg
import Derived.Test.YtmaoicgfcngciaaGreatDoorR08
set_option linter.unusedSimpArgs false
set_option linter.unusedVariables false
set_option maxRecDepth 100000
set_option maxHeartbeats 4000000

section
namespace Go.Proofs.YtmaoicgfcngciaaGreatDoor
open Go Go.Hm Go.Proofs
theorem tsz3 : tsz Tryz.prog 3 = 1 := by kernel_rfl
theorem inf3 : (Tryz.prog.info? 3).isSome = true := by kernel_rfl
theorem agg3 : aggO Tryz.prog 3 = some false := by kernel_rfl
theorem tce3 : tce Tryz.prog 3 = [0] := by kernel_rfl
theorem zvl3 : zvals Tryz.prog 3 = some [.sc (Value.int IntKind.i64 0)] := by kernel_rfl
theorem tit3 : tint Tryz.prog 3 = some .i64 := by kernel_rfl
theorem tsz4 : tsz Tryz.prog 4 = 1 := by kernel_rfl
theorem inf4 : (Tryz.prog.info? 4).isSome = true := by kernel_rfl
theorem agg4 : aggO Tryz.prog 4 = some false := by kernel_rfl
theorem tce4 : tce Tryz.prog 4 = [0] := by kernel_rfl
theorem zvl4 : zvals Tryz.prog 4 = some [.sc (Value.bool false)] := by kernel_rfl
theorem tbo4 : tbool Tryz.prog 4 = true := by kernel_rfl
theorem tsz9 : tsz Tryz.prog 9 = 1 := by kernel_rfl
theorem agg9 : aggO Tryz.prog 9 = some false := by kernel_rfl
theorem tce9 : tce Tryz.prog 9 = [0] := by kernel_rfl
theorem tst9 : tstr Tryz.prog 9 = true := by kernel_rfl
theorem tsz22 : tsz Tryz.prog 22 = 1 := by kernel_rfl
theorem inf22 : (Tryz.prog.info? 22).isSome = true := by kernel_rfl
theorem agg22 : aggO Tryz.prog 22 = some false := by kernel_rfl
theorem tce22 : tce Tryz.prog 22 = [4] := by kernel_rfl
theorem tel22 : tel Tryz.prog 22 = some 44 := by kernel_rfl
theorem tsl22 : tslice Tryz.prog 22 = true := by kernel_rfl
theorem tap22 : tapp Tryz.prog 22 = some 44 := by kernel_rfl
theorem tsz24 : tsz Tryz.prog 24 = 1 := by kernel_rfl
theorem inf24 : (Tryz.prog.info? 24).isSome = true := by kernel_rfl
theorem agg24 : aggO Tryz.prog 24 = some true := by kernel_rfl
theorem tce24 : tce Tryz.prog 24 = [4] := by kernel_rfl
theorem zvl24 : zvals Tryz.prog 24 = some [.sc (Value.slice none 0 0)] := by kernel_rfl
theorem tfo24_0 : tfo Tryz.prog 24 0 = some (0, 22) := by kernel_rfl
theorem tfl24 : tflds Tryz.prog 24 = true := by kernel_rfl
theorem tze24 : tzero Tryz.prog 24 = some [Value.slice none 0 0] := by kernel_rfl
theorem tsz41 : tsz Tryz.prog 41 = 1 := by kernel_rfl
theorem inf41 : (Tryz.prog.info? 41).isSome = true := by kernel_rfl
theorem agg41 : aggO Tryz.prog 41 = some false := by kernel_rfl
theorem tce41 : tce Tryz.prog 41 = [1] := by kernel_rfl
theorem zvl41 : zvals Tryz.prog 41 = some [.sc (Value.slice none 0 0)] := by kernel_rfl
theorem tel41 : tel Tryz.prog 41 = some 3 := by kernel_rfl
theorem tsl41 : tslice Tryz.prog 41 = true := by kernel_rfl
theorem tap41 : tapp Tryz.prog 41 = some 3 := by kernel_rfl
theorem tsz42 : tsz Tryz.prog 42 = 1 := by kernel_rfl
theorem inf42 : (Tryz.prog.info? 42).isSome = true := by kernel_rfl
theorem agg42 : aggO Tryz.prog 42 = some false := by kernel_rfl
theorem tel42 : tel Tryz.prog 42 = some 86 := by kernel_rfl
theorem tsl42 : tslice Tryz.prog 42 = true := by kernel_rfl
theorem tap42 : tapp Tryz.prog 42 = some 86 := by kernel_rfl
theorem tsz44 : tsz Tryz.prog 44 = 4 := by kernel_rfl
theorem inf44 : (Tryz.prog.info? 44).isSome = true := by kernel_rfl
theorem agg44 : aggO Tryz.prog 44 = some true := by kernel_rfl
theorem tce44 : tce Tryz.prog 44 = [0, 0, 1, 4] := by kernel_rfl
theorem zvl44 : zvals Tryz.prog 44 = some [.sc (Value.int IntKind.i64 0), .sc (Value.int IntKind.i64 0), .sc (Value.slice none 0 0), .sc (Value.slice none 0 0)] := by kernel_rfl
theorem tfo44_0 : tfo Tryz.prog 44 0 = some (0, 3) := by kernel_rfl
theorem tfo44_1 : tfo Tryz.prog 44 1 = some (1, 3) := by kernel_rfl
theorem tfo44_2 : tfo Tryz.prog 44 2 = some (2, 41) := by kernel_rfl
theorem tfo44_3 : tfo Tryz.prog 44 3 = some (3, 42) := by kernel_rfl
theorem tfl44 : tflds Tryz.prog 44 = true := by kernel_rfl
theorem tze44 : tzero Tryz.prog 44 = some [Value.int IntKind.i64 0, Value.int IntKind.i64 0, Value.slice none 0 0, Value.slice none 0 0] := by kernel_rfl
theorem tsz64 : tsz Tryz.prog 64 = 1 := by kernel_rfl
theorem inf64 : (Tryz.prog.info? 64).isSome = true := by kernel_rfl
theorem agg64 : aggO Tryz.prog 64 = some false := by kernel_rfl
theorem tel64 : tel Tryz.prog 64 = some 9 := by kernel_rfl
theorem tsl64 : tslice Tryz.prog 64 = true := by kernel_rfl
theorem tap64 : tapp Tryz.prog 64 = some 9 := by kernel_rfl
theorem tsz86 : tsz Tryz.prog 86 = 4 := by kernel_rfl
theorem inf86 : (Tryz.prog.info? 86).isSome = true := by kernel_rfl
theorem agg86 : aggO Tryz.prog 86 = some true := by kernel_rfl
theorem tce86 : tce Tryz.prog 86 = [0, 0, 0, 0] := by kernel_rfl
theorem zvl86 : zvals Tryz.prog 86 = some [.sc (Value.int IntKind.i64 0), .sc (Value.int IntKind.i64 0), .sc (Value.int IntKind.i64 0), .sc (Value.int IntKind.i64 0)] := by kernel_rfl
theorem tfo86_0 : tfo Tryz.prog 86 0 = some (0, 3) := by kernel_rfl
theorem tfo86_1 : tfo Tryz.prog 86 1 = some (1, 3) := by kernel_rfl
theorem tfo86_2 : tfo Tryz.prog 86 2 = some (2, 3) := by kernel_rfl
theorem tfo86_3 : tfo Tryz.prog 86 3 = some (3, 3) := by kernel_rfl
theorem tfl86 : tflds Tryz.prog 86 = true := by kernel_rfl
theorem tze86 : tzero Tryz.prog 86 = some [Value.int IntKind.i64 0, Value.int IntKind.i64 0, Value.int IntKind.i64 0, Value.int IntKind.i64 0] := by kernel_rfl
theorem tsz87 : tsz Tryz.prog 87 = 12 := by kernel_rfl
theorem agg87 : aggO Tryz.prog 87 = some true := by kernel_rfl
theorem tar87 : tarr Tryz.prog 87 = some (12, 9) := by kernel_rfl
theorem tsz89 : tsz Tryz.prog 89 = 1 := by kernel_rfl
theorem agg89 : aggO Tryz.prog 89 = some false := by kernel_rfl
theorem tel89 : tel Tryz.prog 89 = some 91 := by kernel_rfl
theorem tsl89 : tslice Tryz.prog 89 = true := by kernel_rfl
theorem tap89 : tapp Tryz.prog 89 = some 91 := by kernel_rfl
theorem tsz91 : tsz Tryz.prog 91 = 1 := by kernel_rfl
theorem inf91 : (Tryz.prog.info? 91).isSome = true := by kernel_rfl
theorem agg91 : aggO Tryz.prog 91 = some false := by kernel_rfl
theorem zvl91 : zvals Tryz.prog 91 = some [.sc (Value.pointer none)] := by kernel_rfl
theorem tsz102 : tsz Tryz.prog 102 = 1 := by kernel_rfl
theorem inf102 : (Tryz.prog.info? 102).isSome = true := by kernel_rfl
theorem agg102 : aggO Tryz.prog 102 = some false := by kernel_rfl
theorem tel102 : tel Tryz.prog 102 = some 169 := by kernel_rfl
theorem tsl102 : tslice Tryz.prog 102 = true := by kernel_rfl
theorem tap102 : tapp Tryz.prog 102 = some 169 := by kernel_rfl
theorem tsz103 : tsz Tryz.prog 103 = 1 := by kernel_rfl
theorem agg103 : aggO Tryz.prog 103 = some false := by kernel_rfl
theorem tce103 : tce Tryz.prog 103 = [3] := by kernel_rfl
theorem tel103 : tel Tryz.prog 103 = some 247 := by kernel_rfl
theorem tap103 : tapp Tryz.prog 103 = some 247 := by kernel_rfl
theorem tsz104 : tsz Tryz.prog 104 = 1 := by kernel_rfl
theorem inf104 : (Tryz.prog.info? 104).isSome = true := by kernel_rfl
theorem agg104 : aggO Tryz.prog 104 = some false := by kernel_rfl
theorem tel104 : tel Tryz.prog 104 = some 103 := by kernel_rfl
theorem tsl104 : tslice Tryz.prog 104 = true := by kernel_rfl
theorem tap104 : tapp Tryz.prog 104 = some 103 := by kernel_rfl
theorem tsz105 : tsz Tryz.prog 105 = 1 := by kernel_rfl
theorem inf105 : (Tryz.prog.info? 105).isSome = true := by kernel_rfl
theorem agg105 : aggO Tryz.prog 105 = some false := by kernel_rfl
theorem tap105 : tapp Tryz.prog 105 = some 225 := by kernel_rfl
theorem tsz107 : tsz Tryz.prog 107 = 10 := by kernel_rfl
theorem tce107 : tce Tryz.prog 107 = [4, 3, 1, 3, 3, 1, 1, 2, 0, 0] := by kernel_rfl
theorem tfo107_0 : tfo Tryz.prog 107 0 = some (0, 24) := by kernel_rfl
theorem tfo107_1 : tfo Tryz.prog 107 1 = some (1, 102) := by kernel_rfl
theorem tfo107_2 : tfo Tryz.prog 107 2 = some (2, 41) := by kernel_rfl
theorem tfo107_3 : tfo Tryz.prog 107 3 = some (3, 103) := by kernel_rfl
theorem tfo107_4 : tfo Tryz.prog 107 4 = some (4, 102) := by kernel_rfl
theorem tfo107_5 : tfo Tryz.prog 107 5 = some (5, 104) := by kernel_rfl
theorem tfo107_6 : tfo Tryz.prog 107 6 = some (6, 41) := by kernel_rfl
theorem tfo107_7 : tfo Tryz.prog 107 7 = some (7, 105) := by kernel_rfl
theorem tfo107_8 : tfo Tryz.prog 107 8 = some (8, 3) := by kernel_rfl
theorem tfo107_9 : tfo Tryz.prog 107 9 = some (9, 3) := by kernel_rfl
theorem tfl107 : tflds Tryz.prog 107 = true := by kernel_rfl
theorem tze107 : tzero Tryz.prog 107 = some [Value.slice none 0 0, Value.slice none 0 0, Value.slice none 0 0, Value.slice none 0 0, Value.slice none 0 0, Value.slice none 0 0, Value.slice none 0 0, Value.slice none 0 0, Value.int IntKind.i64 0, Value.int IntKind.i64 0] := by kernel_rfl
theorem tsz109 : tsz Tryz.prog 109 = 4 := by kernel_rfl
theorem inf109 : (Tryz.prog.info? 109).isSome = true := by kernel_rfl
theorem agg109 : aggO Tryz.prog 109 = some true := by kernel_rfl
theorem tce109 : tce Tryz.prog 109 = [1, 0, 0, 1] := by kernel_rfl
theorem zvl109 : zvals Tryz.prog 109 = some [.sc (Value.slice none 0 0), .sc (Value.int IntKind.i64 0), .sc (Value.int IntKind.i64 0), .sc (Value.slice none 0 0)] := by kernel_rfl
theorem tfo109_0 : tfo Tryz.prog 109 0 = some (0, 41) := by kernel_rfl
theorem tfo109_1 : tfo Tryz.prog 109 1 = some (1, 3) := by kernel_rfl
theorem tfo109_2 : tfo Tryz.prog 109 2 = some (2, 3) := by kernel_rfl
theorem tfo109_3 : tfo Tryz.prog 109 3 = some (3, 41) := by kernel_rfl
theorem tfl109 : tflds Tryz.prog 109 = true := by kernel_rfl
theorem tze109 : tzero Tryz.prog 109 = some [Value.slice none 0 0, Value.int IntKind.i64 0, Value.int IntKind.i64 0, Value.slice none 0 0] := by kernel_rfl
theorem tsz110 : tsz Tryz.prog 110 = 1 := by kernel_rfl
theorem agg110 : aggO Tryz.prog 110 = some false := by kernel_rfl
theorem tce110 : tce Tryz.prog 110 = [0] := by kernel_rfl
theorem tel113 : tel Tryz.prog 113 = none := by kernel_rfl
theorem tar113 : tarr Tryz.prog 113 = some (8, 9) := by kernel_rfl
theorem tsz145 : tsz Tryz.prog 145 = 7 := by kernel_rfl
theorem tce145 : tce Tryz.prog 145 = [0, 0, 0, 0, 0, 0, 0] := by kernel_rfl
theorem zvl145 : zvals Tryz.prog 145 = some [.sc (Value.int IntKind.i64 0), .sc (Value.int IntKind.i64 0), .sc (Value.int IntKind.i64 0), .sc (Value.int IntKind.i64 0), .sc (Value.int IntKind.i64 0), .sc (Value.int IntKind.i64 0), .sc (Value.int IntKind.i64 0)] := by kernel_rfl
theorem tel145 : tel Tryz.prog 145 = none := by kernel_rfl
theorem tar145 : tarr Tryz.prog 145 = some (7, 3) := by kernel_rfl
theorem tsz148 : tsz Tryz.prog 148 = 2 := by kernel_rfl
theorem inf148 : (Tryz.prog.info? 148).isSome = true := by kernel_rfl
theorem ifc148 : isIface Tryz.prog 148 = some false := by kernel_rfl
theorem tce148 : tce Tryz.prog 148 = [0, 0] := by kernel_rfl
theorem zvl148 : zvals Tryz.prog 148 = some [.sc (Value.int IntKind.i64 0), .sc (Value.int IntKind.i64 0)] := by kernel_rfl
theorem zfl148 : zflat Tryz.prog 148 = some (.agg [.sc (Value.int IntKind.i64 0), .sc (Value.int IntKind.i64 0)]) := by kernel_rfl
theorem tfo148_0 : tfo Tryz.prog 148 0 = some (0, 3) := by kernel_rfl
theorem tfo148_1 : tfo Tryz.prog 148 1 = some (1, 3) := by kernel_rfl
theorem tfl148 : tflds Tryz.prog 148 = true := by kernel_rfl
theorem tze148 : tzero Tryz.prog 148 = some [Value.int IntKind.i64 0, Value.int IntKind.i64 0] := by kernel_rfl
theorem tsz154 : tsz Tryz.prog 154 = 8 := by kernel_rfl
theorem inf154 : (Tryz.prog.info? 154).isSome = true := by kernel_rfl
theorem agg154 : aggO Tryz.prog 154 = some true := by kernel_rfl
theorem tce154 : tce Tryz.prog 154 = [0, 0, 0, 0, 0, 0, 0, 0] := by kernel_rfl
theorem zvl154 : zvals Tryz.prog 154 = some [.sc (Value.bool false), .sc (Value.bool false), .sc (Value.bool false), .sc (Value.bool false), .sc (Value.bool false), .sc (Value.bool false), .sc (Value.bool false), .sc (Value.bool false)] := by kernel_rfl
theorem tel154 : tel Tryz.prog 154 = none := by kernel_rfl
theorem tar154 : tarr Tryz.prog 154 = some (8, 4) := by kernel_rfl
theorem tsz158 : tsz Tryz.prog 158 = 43 := by kernel_rfl
theorem tce158 : tce Tryz.prog 158 = [0, 0, 0, 0, 0, 0, 0, 0, 0, 0, 0, 0, 0, 0, 0, 0, 0, 0, 0, 0, 0, 0, 0, 0, 0, 0, 0, 0, 0, 0, 0, 0, 0, 0, 0, 0, 0, 0, 0, 0, 0, 0, 0] := by kernel_rfl
theorem tfo158_0 : tfo Tryz.prog 158 0 = some (0, 3) := by kernel_rfl
theorem tfo158_1 : tfo Tryz.prog 158 1 = some (1, 3) := by kernel_rfl
theorem tfo158_2 : tfo Tryz.prog 158 2 = some (2, 91) := by kernel_rfl
theorem tfo158_3 : tfo Tryz.prog 158 3 = some (3, 154) := by kernel_rfl
theorem tfo158_4 : tfo Tryz.prog 158 4 = some (11, 154) := by kernel_rfl
theorem tfo158_5 : tfo Tryz.prog 158 5 = some (19, 154) := by kernel_rfl
theorem tfo158_6 : tfo Tryz.prog 158 6 = some (27, 154) := by kernel_rfl
theorem tfo158_7 : tfo Tryz.prog 158 7 = some (35, 154) := by kernel_rfl
theorem tfl158 : tflds Tryz.prog 158 = true := by kernel_rfl
theorem tze158 : tzero Tryz.prog 158 = some [Value.int IntKind.i64 0, Value.int IntKind.i64 0, Value.pointer none, Value.bool false, Value.bool false, Value.bool false, Value.bool false, Value.bool false, Value.bool false, Value.bool false, Value.bool false, Value.bool false, Value.bool false, Value.bool false, Value.bool false, Value.bool false, Value.bool false, Value.bool false, Value.bool false, Value.bool false, Value.bool false, Value.bool false, Value.bool false, Value.bool false, Value.bool false, Value.bool false, Value.bool false, Value.bool false, Value.bool false, Value.bool false, Value.bool false, Value.bool false, Value.bool false, Value.bool false, Value.bool false, Value.bool false, Value.bool false, Value.bool false, Value.bool false, Value.bool false, Value.bool false, Value.bool false, Value.bool false] := by kernel_rfl
theorem ifc161 : isIface Tryz.prog 161 = some false := by kernel_rfl
theorem tfl161 : tflds Tryz.prog 161 = true := by kernel_rfl
theorem tze161 : tzero Tryz.prog 161 = some [] := by kernel_rfl
theorem tsz169 : tsz Tryz.prog 169 = 3 := by kernel_rfl
theorem inf169 : (Tryz.prog.info? 169).isSome = true := by kernel_rfl
theorem agg169 : aggO Tryz.prog 169 = some true := by kernel_rfl
theorem tce169 : tce Tryz.prog 169 = [0, 0, 3] := by kernel_rfl
theorem zvl169 : zvals Tryz.prog 169 = some [.sc (Value.int IntKind.i64 0), .sc (Value.int IntKind.i64 0), .sc (Value.slice none 0 0)] := by kernel_rfl
theorem tfo169_0 : tfo Tryz.prog 169 0 = some (0, 3) := by kernel_rfl
theorem tfo169_1 : tfo Tryz.prog 169 1 = some (1, 3) := by kernel_rfl
theorem tfo169_2 : tfo Tryz.prog 169 2 = some (2, 103) := by kernel_rfl
theorem tfl169 : tflds Tryz.prog 169 = true := by kernel_rfl
theorem tze169 : tzero Tryz.prog 169 = some [Value.int IntKind.i64 0, Value.int IntKind.i64 0, Value.slice none 0 0] := by kernel_rfl
theorem tsz171 : tsz Tryz.prog 171 = 2 := by kernel_rfl
theorem inf171 : (Tryz.prog.info? 171).isSome = true := by kernel_rfl
theorem agg171 : aggO Tryz.prog 171 = some true := by kernel_rfl
theorem tce171 : tce Tryz.prog 171 = [0, 0] := by kernel_rfl
theorem zvl171 : zvals Tryz.prog 171 = some [.sc (Value.int IntKind.i64 0), .sc (Value.int IntKind.i64 0)] := by kernel_rfl
theorem zfl171 : zflat Tryz.prog 171 = some (.agg [.sc (Value.int IntKind.i64 0), .sc (Value.int IntKind.i64 0)]) := by kernel_rfl
theorem tfo171_0 : tfo Tryz.prog 171 0 = some (0, 3) := by kernel_rfl
theorem tfo171_1 : tfo Tryz.prog 171 1 = some (1, 3) := by kernel_rfl
theorem tfl171 : tflds Tryz.prog 171 = true := by kernel_rfl
theorem tze171 : tzero Tryz.prog 171 = some [Value.int IntKind.i64 0, Value.int IntKind.i64 0] := by kernel_rfl
theorem tsz173 : tsz Tryz.prog 173 = 1 := by kernel_rfl
theorem inf173 : (Tryz.prog.info? 173).isSome = true := by kernel_rfl
theorem agg173 : aggO Tryz.prog 173 = some false := by kernel_rfl
theorem tce173 : tce Tryz.prog 173 = [0] := by kernel_rfl
theorem tsz174 : tsz Tryz.prog 174 = 1 := by kernel_rfl
theorem inf174 : (Tryz.prog.info? 174).isSome = true := by kernel_rfl
theorem agg174 : aggO Tryz.prog 174 = some false := by kernel_rfl
theorem tel174 : tel Tryz.prog 174 = some 173 := by kernel_rfl
theorem tsl174 : tslice Tryz.prog 174 = true := by kernel_rfl
theorem tap174 : tapp Tryz.prog 174 = some 173 := by kernel_rfl
theorem tsz175 : tsz Tryz.prog 175 = 1 := by kernel_rfl
theorem inf175 : (Tryz.prog.info? 175).isSome = true := by kernel_rfl
theorem agg175 : aggO Tryz.prog 175 = some false := by kernel_rfl
theorem tel175 : tel Tryz.prog 175 = some 288 := by kernel_rfl
theorem tsl175 : tslice Tryz.prog 175 = true := by kernel_rfl
theorem tap175 : tapp Tryz.prog 175 = some 288 := by kernel_rfl
theorem tsz176 : tsz Tryz.prog 176 = 1 := by kernel_rfl
theorem inf176 : (Tryz.prog.info? 176).isSome = true := by kernel_rfl
theorem agg176 : aggO Tryz.prog 176 = some false := by kernel_rfl
theorem tel176 : tel Tryz.prog 176 = some 179 := by kernel_rfl
theorem tsl176 : tslice Tryz.prog 176 = true := by kernel_rfl
theorem tap176 : tapp Tryz.prog 176 = some 179 := by kernel_rfl
theorem tsz178 : tsz Tryz.prog 178 = 10 := by kernel_rfl
theorem tce178 : tce Tryz.prog 178 = [4, 1, 0, 0, 1, 2, 0, 1, 2, 1] := by kernel_rfl
theorem tfo178_0 : tfo Tryz.prog 178 0 = some (0, 24) := by kernel_rfl
theorem tfo178_1 : tfo Tryz.prog 178 1 = some (1, 89) := by kernel_rfl
theorem tfo178_2 : tfo Tryz.prog 178 2 = some (2, 3) := by kernel_rfl
theorem tfo178_3 : tfo Tryz.prog 178 3 = some (3, 3) := by kernel_rfl
theorem tfo178_4 : tfo Tryz.prog 178 4 = some (4, 41) := by kernel_rfl
theorem tfo178_5 : tfo Tryz.prog 178 5 = some (5, 105) := by kernel_rfl
theorem tfo178_6 : tfo Tryz.prog 178 6 = some (6, 173) := by kernel_rfl
theorem tfo178_7 : tfo Tryz.prog 178 7 = some (7, 174) := by kernel_rfl
theorem tfo178_8 : tfo Tryz.prog 178 8 = some (8, 175) := by kernel_rfl
theorem tfo178_9 : tfo Tryz.prog 178 9 = some (9, 176) := by kernel_rfl
theorem tfl178 : tflds Tryz.prog 178 = true := by kernel_rfl
theorem tze178 : tzero Tryz.prog 178 = some [Value.slice none 0 0, Value.slice none 0 0, Value.int IntKind.i64 0, Value.int IntKind.i64 0, Value.slice none 0 0, Value.slice none 0 0, Value.pointer none, Value.slice none 0 0, Value.slice none 0 0, Value.slice none 0 0] := by kernel_rfl
theorem tsz179 : tsz Tryz.prog 179 = 1 := by kernel_rfl
theorem agg179 : aggO Tryz.prog 179 = some false := by kernel_rfl
theorem tce179 : tce Tryz.prog 179 = [0] := by kernel_rfl
theorem tmi179 : tmapI Tryz.prog 179 = some (.i64, 171) := by kernel_rfl
theorem tsz181 : tsz Tryz.prog 181 = 3 := by kernel_rfl
theorem tce181 : tce Tryz.prog 181 = [0, 0, 0] := by kernel_rfl
theorem tfo181_0 : tfo Tryz.prog 181 0 = some (0, 3) := by kernel_rfl
theorem tfo181_1 : tfo Tryz.prog 181 1 = some (1, 179) := by kernel_rfl
theorem tfo181_2 : tfo Tryz.prog 181 2 = some (2, 173) := by kernel_rfl
theorem tfl181 : tflds Tryz.prog 181 = true := by kernel_rfl
theorem tze181 : tzero Tryz.prog 181 = some [Value.int IntKind.i64 0, Value.map none, Value.pointer none] := by kernel_rfl
theorem tsz190 : tsz Tryz.prog 190 = 2 := by kernel_rfl
theorem tce190 : tce Tryz.prog 190 = [1, 1] := by kernel_rfl
theorem tfo190_0 : tfo Tryz.prog 190 0 = some (0, 64) := by kernel_rfl
theorem tfo190_1 : tfo Tryz.prog 190 1 = some (1, 64) := by kernel_rfl
theorem tfl190 : tflds Tryz.prog 190 = true := by kernel_rfl
theorem tze190 : tzero Tryz.prog 190 = some [Value.slice none 0 0, Value.slice none 0 0] := by kernel_rfl
theorem tsz201 : tsz Tryz.prog 201 = 1 := by kernel_rfl
theorem inf201 : (Tryz.prog.info? 201).isSome = true := by kernel_rfl
theorem ifc201 : isIface Tryz.prog 201 = some false := by kernel_rfl
theorem tce201 : tce Tryz.prog 201 = [0] := by kernel_rfl
theorem zvl201 : zvals Tryz.prog 201 = some [.sc (Value.int IntKind.i64 0)] := by kernel_rfl
theorem zfl201 : zflat Tryz.prog 201 = some (.agg [.sc (Value.int IntKind.i64 0)]) := by kernel_rfl
theorem tfo201_0 : tfo Tryz.prog 201 0 = some (0, 3) := by kernel_rfl
theorem tfl201 : tflds Tryz.prog 201 = true := by kernel_rfl
theorem tze201 : tzero Tryz.prog 201 = some [Value.int IntKind.i64 0] := by kernel_rfl
theorem tsz203 : tsz Tryz.prog 203 = 1 := by kernel_rfl
theorem inf203 : (Tryz.prog.info? 203).isSome = true := by kernel_rfl
theorem ifc203 : isIface Tryz.prog 203 = some false := by kernel_rfl
theorem tce203 : tce Tryz.prog 203 = [0] := by kernel_rfl
theorem zvl203 : zvals Tryz.prog 203 = some [.sc (Value.int IntKind.i64 0)] := by kernel_rfl
theorem zfl203 : zflat Tryz.prog 203 = some (.agg [.sc (Value.int IntKind.i64 0)]) := by kernel_rfl
theorem tfo203_0 : tfo Tryz.prog 203 0 = some (0, 3) := by kernel_rfl
theorem tfl203 : tflds Tryz.prog 203 = true := by kernel_rfl
theorem tze203 : tzero Tryz.prog 203 = some [Value.int IntKind.i64 0] := by kernel_rfl
theorem tsz205 : tsz Tryz.prog 205 = 2 := by kernel_rfl
theorem inf205 : (Tryz.prog.info? 205).isSome = true := by kernel_rfl
theorem ifc205 : isIface Tryz.prog 205 = some false := by kernel_rfl
theorem tce205 : tce Tryz.prog 205 = [0, 0] := by kernel_rfl
theorem zvl205 : zvals Tryz.prog 205 = some [.sc (Value.int IntKind.i64 0), .sc (Value.int IntKind.i64 0)] := by kernel_rfl
theorem zfl205 : zflat Tryz.prog 205 = some (.agg [.sc (Value.int IntKind.i64 0), .sc (Value.int IntKind.i64 0)]) := by kernel_rfl
theorem tfo205_0 : tfo Tryz.prog 205 0 = some (0, 3) := by kernel_rfl
theorem tfo205_1 : tfo Tryz.prog 205 1 = some (1, 3) := by kernel_rfl
theorem tfl205 : tflds Tryz.prog 205 = true := by kernel_rfl
theorem tze205 : tzero Tryz.prog 205 = some [Value.int IntKind.i64 0, Value.int IntKind.i64 0] := by kernel_rfl
theorem tsz207 : tsz Tryz.prog 207 = 2 := by kernel_rfl
theorem inf207 : (Tryz.prog.info? 207).isSome = true := by kernel_rfl
theorem ifc207 : isIface Tryz.prog 207 = some false := by kernel_rfl
theorem tce207 : tce Tryz.prog 207 = [0, 0] := by kernel_rfl
theorem zvl207 : zvals Tryz.prog 207 = some [.sc (Value.int IntKind.i64 0), .sc (Value.int IntKind.i64 0)] := by kernel_rfl
theorem zfl207 : zflat Tryz.prog 207 = some (.agg [.sc (Value.int IntKind.i64 0), .sc (Value.int IntKind.i64 0)]) := by kernel_rfl
theorem tfo207_0 : tfo Tryz.prog 207 0 = some (0, 3) := by kernel_rfl
theorem tfo207_1 : tfo Tryz.prog 207 1 = some (1, 3) := by kernel_rfl
theorem tfl207 : tflds Tryz.prog 207 = true := by kernel_rfl
theorem tze207 : tzero Tryz.prog 207 = some [Value.int IntKind.i64 0, Value.int IntKind.i64 0] := by kernel_rfl
theorem tsz209 : tsz Tryz.prog 209 = 2 := by kernel_rfl
theorem inf209 : (Tryz.prog.info? 209).isSome = true := by kernel_rfl
theorem ifc209 : isIface Tryz.prog 209 = some false := by kernel_rfl
theorem tce209 : tce Tryz.prog 209 = [0, 0] := by kernel_rfl
theorem zvl209 : zvals Tryz.prog 209 = some [.sc (Value.int IntKind.i64 0), .sc (Value.int IntKind.i64 0)] := by kernel_rfl
theorem zfl209 : zflat Tryz.prog 209 = some (.agg [.sc (Value.int IntKind.i64 0), .sc (Value.int IntKind.i64 0)]) := by kernel_rfl
theorem tfo209_0 : tfo Tryz.prog 209 0 = some (0, 3) := by kernel_rfl
theorem tfo209_1 : tfo Tryz.prog 209 1 = some (1, 3) := by kernel_rfl
theorem tfl209 : tflds Tryz.prog 209 = true := by kernel_rfl
theorem tze209 : tzero Tryz.prog 209 = some [Value.int IntKind.i64 0, Value.int IntKind.i64 0] := by kernel_rfl
theorem tsz211 : tsz Tryz.prog 211 = 1 := by kernel_rfl
theorem inf211 : (Tryz.prog.info? 211).isSome = true := by kernel_rfl
theorem ifc211 : isIface Tryz.prog 211 = some false := by kernel_rfl
theorem tce211 : tce Tryz.prog 211 = [0] := by kernel_rfl
theorem zvl211 : zvals Tryz.prog 211 = some [.sc (Value.int IntKind.i64 0)] := by kernel_rfl
theorem zfl211 : zflat Tryz.prog 211 = some (.agg [.sc (Value.int IntKind.i64 0)]) := by kernel_rfl
theorem tfo211_0 : tfo Tryz.prog 211 0 = some (0, 3) := by kernel_rfl
theorem tfl211 : tflds Tryz.prog 211 = true := by kernel_rfl
theorem tze211 : tzero Tryz.prog 211 = some [Value.int IntKind.i64 0] := by kernel_rfl
theorem tsz212 : tsz Tryz.prog 212 = 1 := by kernel_rfl
theorem inf212 : (Tryz.prog.info? 212).isSome = true := by kernel_rfl
theorem ifc212 : isIface Tryz.prog 212 = some false := by kernel_rfl
theorem tce212 : tce Tryz.prog 212 = [0] := by kernel_rfl
theorem zvl212 : zvals Tryz.prog 212 = some [.sc (Value.int IntKind.i64 0)] := by kernel_rfl
theorem zfl212 : zflat Tryz.prog 212 = some (.agg [.sc (Value.int IntKind.i64 0)]) := by kernel_rfl
theorem tfo212_0 : tfo Tryz.prog 212 0 = some (0, 3) := by kernel_rfl
theorem tfl212 : tflds Tryz.prog 212 = true := by kernel_rfl
theorem tze212 : tzero Tryz.prog 212 = some [Value.int IntKind.i64 0] := by kernel_rfl
theorem tsz213 : tsz Tryz.prog 213 = 0 := by kernel_rfl
theorem inf213 : (Tryz.prog.info? 213).isSome = true := by kernel_rfl
theorem ifc213 : isIface Tryz.prog 213 = some false := by kernel_rfl
theorem tce213 : tce Tryz.prog 213 = [] := by kernel_rfl
theorem zvl213 : zvals Tryz.prog 213 = some [] := by kernel_rfl
theorem zfl213 : zflat Tryz.prog 213 = some (.agg []) := by kernel_rfl
theorem tfl213 : tflds Tryz.prog 213 = true := by kernel_rfl
theorem tze213 : tzero Tryz.prog 213 = some [] := by kernel_rfl
theorem tsz214 : tsz Tryz.prog 214 = 0 := by kernel_rfl
theorem inf214 : (Tryz.prog.info? 214).isSome = true := by kernel_rfl
theorem ifc214 : isIface Tryz.prog 214 = some false := by kernel_rfl
theorem tce214 : tce Tryz.prog 214 = [] := by kernel_rfl
theorem zvl214 : zvals Tryz.prog 214 = some [] := by kernel_rfl
theorem zfl214 : zflat Tryz.prog 214 = some (.agg []) := by kernel_rfl
theorem tfl214 : tflds Tryz.prog 214 = true := by kernel_rfl
theorem tze214 : tzero Tryz.prog 214 = some [] := by kernel_rfl
theorem tsz225 : tsz Tryz.prog 225 = 2 := by kernel_rfl
theorem tce225 : tce Tryz.prog 225 = [0, 0] := by kernel_rfl
theorem tfo225_0 : tfo Tryz.prog 225 0 = some (0, 3) := by kernel_rfl
theorem tfo225_1 : tfo Tryz.prog 225 1 = some (1, 3) := by kernel_rfl
theorem tfl225 : tflds Tryz.prog 225 = true := by kernel_rfl
theorem tze225 : tzero Tryz.prog 225 = some [Value.int IntKind.i64 0, Value.int IntKind.i64 0] := by kernel_rfl
theorem tel228 : tel Tryz.prog 228 = some 171 := by kernel_rfl
theorem tsl228 : tslice Tryz.prog 228 = true := by kernel_rfl
theorem tap228 : tapp Tryz.prog 228 = some 171 := by kernel_rfl
theorem tsz247 : tsz Tryz.prog 247 = 3 := by kernel_rfl
theorem inf247 : (Tryz.prog.info? 247).isSome = true := by kernel_rfl
theorem agg247 : aggO Tryz.prog 247 = some true := by kernel_rfl
theorem tce247 : tce Tryz.prog 247 = [0, 0, 0] := by kernel_rfl
theorem zvl247 : zvals Tryz.prog 247 = some [.sc (Value.bool false), .sc (Value.int IntKind.i64 0), .sc (Value.int IntKind.i64 0)] := by kernel_rfl
theorem tfo247_0 : tfo Tryz.prog 247 0 = some (0, 4) := by kernel_rfl
theorem tfo247_1 : tfo Tryz.prog 247 1 = some (1, 171) := by kernel_rfl
theorem tfl247 : tflds Tryz.prog 247 = true := by kernel_rfl
theorem tze247 : tzero Tryz.prog 247 = some [Value.bool false, Value.int IntKind.i64 0, Value.int IntKind.i64 0] := by kernel_rfl
theorem tsz288 : tsz Tryz.prog 288 = 2 := by kernel_rfl
theorem inf288 : (Tryz.prog.info? 288).isSome = true := by kernel_rfl
theorem agg288 : aggO Tryz.prog 288 = some true := by kernel_rfl
theorem tce288 : tce Tryz.prog 288 = [0, 0] := by kernel_rfl
theorem zvl288 : zvals Tryz.prog 288 = some [.sc (Value.int IntKind.i64 0), .sc (Value.nilFunc)] := by kernel_rfl
theorem tfo288_0 : tfo Tryz.prog 288 0 = some (0, 3) := by kernel_rfl
theorem tfo288_1 : tfo Tryz.prog 288 1 = some (1, 286) := by kernel_rfl
theorem tfl288 : tflds Tryz.prog 288 = true := by kernel_rfl
theorem tze288 : tzero Tryz.prog 288 = some [Value.int IntKind.i64 0, Value.nilFunc] := by kernel_rfl
attribute [simp] tsz3 inf3 agg3 tce3 zvl3 tit3 tsz4 inf4 agg4 tce4 zvl4 tbo4 tsz9 agg9 tce9 tst9 tsz22 inf22 agg22 tce22 tel22 tsl22 tap22 tsz24 inf24 agg24 tce24 zvl24 tfo24_0 tfl24 tze24 tsz41 inf41 agg41 tce41 zvl41 tel41 tsl41 tap41 tsz42 inf42 agg42 tel42 tsl42 tap42 tsz44 inf44 agg44 tce44 zvl44 tfo44_0 tfo44_1 tfo44_2 tfo44_3 tfl44 tze44 tsz64 inf64 agg64 tel64 tsl64 tap64 tsz86 inf86 agg86 tce86 zvl86 tfo86_0 tfo86_1 tfo86_2 tfo86_3 tfl86 tze86 tsz87 agg87 tar87 tsz89 agg89 tel89 tsl89 tap89 tsz91 inf91 agg91 zvl91 tsz102 inf102 agg102 tel102 tsl102 tap102 tsz103 agg103 tce103 tel103 tap103 tsz104 inf104 agg104 tel104 tsl104 tap104 tsz105 inf105 agg105 tap105 tsz107 tce107 tfo107_0 tfo107_1 tfo107_2 tfo107_3 tfo107_4 tfo107_5 tfo107_6 tfo107_7 tfo107_8 tfo107_9 tfl107 tze107 tsz109 inf109 agg109 tce109 zvl109 tfo109_0 tfo109_1 tfo109_2 tfo109_3 tfl109 tze109 tsz110 agg110 tce110 tel113 tar113 tsz145 tce145 zvl145 tel145 tar145 tsz148 inf148 ifc148 tce148 zvl148 zfl148 tfo148_0 tfo148_1 tfl148 tze148 tsz154 inf154 agg154 tce154 zvl154 tel154 tar154 tsz158 tce158 tfo158_0 tfo158_1 tfo158_2 tfo158_3 tfo158_4 tfo158_5 tfo158_6 tfo158_7 tfl158 tze158 ifc161 tfl161 tze161 tsz169 inf169 agg169 tce169 zvl169 tfo169_0 tfo169_1 tfo169_2 tfl169 tze169 tsz171 inf171 agg171 tce171 zvl171 zfl171 tfo171_0 tfo171_1 tfl171 tze171 tsz173 inf173 agg173 tce173 tsz174 inf174 agg174 tel174 tsl174 tap174 tsz175 inf175 agg175 tel175 tsl175 tap175 tsz176 inf176 agg176 tel176 tsl176 tap176 tsz178 tce178 tfo178_0 tfo178_1 tfo178_2 tfo178_3 tfo178_4 tfo178_5 tfo178_6 tfo178_7 tfo178_8 tfo178_9 tfl178 tze178 tsz179 agg179 tce179 tmi179 tsz181 tce181 tfo181_0 tfo181_1 tfo181_2 tfl181 tze181 tsz190 tce190 tfo190_0 tfo190_1 tfl190 tze190 tsz201 inf201 ifc201 tce201 zvl201 zfl201 tfo201_0 tfl201 tze201 tsz203 inf203 ifc203 tce203 zvl203 zfl203 tfo203_0 tfl203 tze203 tsz205 inf205 ifc205 tce205 zvl205 zfl205 tfo205_0 tfo205_1 tfl205 tze205 tsz207 inf207 ifc207 tce207 zvl207 zfl207 tfo207_0 tfo207_1 tfl207 tze207 tsz209 inf209 ifc209 tce209 zvl209 zfl209 tfo209_0 tfo209_1 tfl209 tze209 tsz211 inf211 ifc211 tce211 zvl211 zfl211 tfo211_0 tfl211 tze211 tsz212 inf212 ifc212 tce212 zvl212 zfl212 tfo212_0 tfl212 tze212 tsz213 inf213 ifc213 tce213 zvl213 zfl213 tfl213 tze213 tsz214 inf214 ifc214 tce214 zvl214 zfl214 tfl214 tze214 tsz225 tce225 tfo225_0 tfo225_1 tfl225 tze225 tel228 tsl228 tap228 tsz247 inf247 agg247 tce247 zvl247 tfo247_0 tfo247_1 tfl247 tze247 tsz288 inf288 agg288 tce288 zvl288 tfo288_0 tfo288_1 tfl288 tze288
theorem mixed : Tryz.prog.follows .mixedOrders = true := by kernel_rfl
end Go.Proofs.YtmaoicgfcngciaaGreatDoor
end
