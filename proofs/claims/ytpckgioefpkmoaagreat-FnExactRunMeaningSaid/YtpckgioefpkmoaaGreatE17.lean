/-
  Own texts, joined by mkclaim.py: Facts.
-/
import Derived.Test.YtpckgioefpkmoaaGreatProg
import Derived.Test.YtpckgioefpkmoaaGreatE08
set_option linter.unusedSimpArgs false
set_option linter.unusedVariables false

section
namespace Go.Proofs.YtpckgioefpkmoaaGreat
open Go Go.Hm Go.Proofs
theorem tsz3 : tsz Tryz.prog 3 = 1 := by kernel_rfl
theorem inf3 : (Tryz.prog.info? 3).isSome = true := by kernel_rfl
theorem agg3 : aggO Tryz.prog 3 = some false := by kernel_rfl
theorem tce3 : tce Tryz.prog 3 = [0] := by kernel_rfl
theorem zvl3 : zvals Tryz.prog 3 = some [.sc (Value.int IntKind.i64 0)] := by kernel_rfl
theorem tsz4 : tsz Tryz.prog 4 = 1 := by kernel_rfl
theorem inf4 : (Tryz.prog.info? 4).isSome = true := by kernel_rfl
theorem agg4 : aggO Tryz.prog 4 = some false := by kernel_rfl
theorem agg22 : aggO Tryz.prog 22 = some false := by kernel_rfl
theorem tel22 : tel Tryz.prog 22 = some 105 := by kernel_rfl
theorem tsl22 : tslice Tryz.prog 22 = true := by kernel_rfl
theorem tsz24 : tsz Tryz.prog 24 = 1 := by kernel_rfl
theorem agg24 : aggO Tryz.prog 24 = some true := by kernel_rfl
theorem tce24 : tce Tryz.prog 24 = [4] := by kernel_rfl
theorem tfo24_0 : tfo Tryz.prog 24 0 = some (0, 22) := by kernel_rfl
theorem tsz27 : tsz Tryz.prog 27 = 1 := by kernel_rfl
theorem inf27 : (Tryz.prog.info? 27).isSome = true := by kernel_rfl
theorem agg27 : aggO Tryz.prog 27 = some false := by kernel_rfl
theorem tel27 : tel Tryz.prog 27 = some 57 := by kernel_rfl
theorem tsl27 : tslice Tryz.prog 27 = true := by kernel_rfl
theorem tap27 : tapp Tryz.prog 27 = some 57 := by kernel_rfl
theorem tsz29 : tsz Tryz.prog 29 = 1 := by kernel_rfl
theorem inf29 : (Tryz.prog.info? 29).isSome = true := by kernel_rfl
theorem agg29 : aggO Tryz.prog 29 = some true := by kernel_rfl
theorem tce29 : tce Tryz.prog 29 = [4] := by kernel_rfl
theorem zvl29 : zvals Tryz.prog 29 = some [.sc (Value.slice none 0 0)] := by kernel_rfl
theorem tfo29_0 : tfo Tryz.prog 29 0 = some (0, 27) := by kernel_rfl
theorem tsz36 : tsz Tryz.prog 36 = 1 := by kernel_rfl
theorem inf36 : (Tryz.prog.info? 36).isSome = true := by kernel_rfl
theorem agg36 : aggO Tryz.prog 36 = some false := by kernel_rfl
theorem tce36 : tce Tryz.prog 36 = [1] := by kernel_rfl
theorem zvl36 : zvals Tryz.prog 36 = some [.sc (Value.slice none 0 0)] := by kernel_rfl
theorem tel36 : tel Tryz.prog 36 = some 3 := by kernel_rfl
theorem tsl36 : tslice Tryz.prog 36 = true := by kernel_rfl
theorem tap36 : tapp Tryz.prog 36 = some 3 := by kernel_rfl
theorem tsz41 : tsz Tryz.prog 41 = 1 := by kernel_rfl
theorem inf41 : (Tryz.prog.info? 41).isSome = true := by kernel_rfl
theorem agg41 : aggO Tryz.prog 41 = some false := by kernel_rfl
theorem tel41 : tel Tryz.prog 41 = some 59 := by kernel_rfl
theorem tsl41 : tslice Tryz.prog 41 = true := by kernel_rfl
theorem tap41 : tapp Tryz.prog 41 = some 59 := by kernel_rfl
theorem tsz46 : tsz Tryz.prog 46 = 4 := by kernel_rfl
theorem inf46 : (Tryz.prog.info? 46).isSome = true := by kernel_rfl
theorem agg46 : aggO Tryz.prog 46 = some true := by kernel_rfl
theorem tce46 : tce Tryz.prog 46 = [1, 0, 0, 1] := by kernel_rfl
theorem zvl46 : zvals Tryz.prog 46 = some [.sc (Value.slice none 0 0), .sc (Value.int IntKind.i64 0), .sc (Value.int IntKind.i64 0), .sc (Value.slice none 0 0)] := by kernel_rfl
theorem tfo46_0 : tfo Tryz.prog 46 0 = some (0, 36) := by kernel_rfl
theorem tfo46_1 : tfo Tryz.prog 46 1 = some (1, 3) := by kernel_rfl
theorem tfo46_2 : tfo Tryz.prog 46 2 = some (2, 3) := by kernel_rfl
theorem tfo46_3 : tfo Tryz.prog 46 3 = some (3, 36) := by kernel_rfl
theorem tfl46 : tflds Tryz.prog 46 = true := by kernel_rfl
theorem tze46 : tzero Tryz.prog 46 = some [Value.slice none 0 0, Value.int IntKind.i64 0, Value.int IntKind.i64 0, Value.slice none 0 0] := by kernel_rfl
theorem tsz54 : tsz Tryz.prog 54 = 4 := by kernel_rfl
theorem inf54 : (Tryz.prog.info? 54).isSome = true := by kernel_rfl
theorem agg54 : aggO Tryz.prog 54 = some true := by kernel_rfl
theorem tce54 : tce Tryz.prog 54 = [0, 0, 0, 0] := by kernel_rfl
theorem zvl54 : zvals Tryz.prog 54 = some [.sc (Value.int IntKind.i64 0), .sc (Value.int IntKind.i64 0), .sc (Value.int IntKind.i64 0), .sc (Value.int IntKind.i64 0)] := by kernel_rfl
theorem tfo54_0 : tfo Tryz.prog 54 0 = some (0, 3) := by kernel_rfl
theorem tfo54_1 : tfo Tryz.prog 54 1 = some (1, 3) := by kernel_rfl
theorem tfo54_2 : tfo Tryz.prog 54 2 = some (2, 3) := by kernel_rfl
theorem tfo54_3 : tfo Tryz.prog 54 3 = some (3, 3) := by kernel_rfl
theorem tsz55 : tsz Tryz.prog 55 = 1 := by kernel_rfl
theorem inf55 : (Tryz.prog.info? 55).isSome = true := by kernel_rfl
theorem agg55 : aggO Tryz.prog 55 = some false := by kernel_rfl
theorem tel55 : tel Tryz.prog 55 = some 54 := by kernel_rfl
theorem tsl55 : tslice Tryz.prog 55 = true := by kernel_rfl
theorem tap55 : tapp Tryz.prog 55 = some 54 := by kernel_rfl
theorem tsz57 : tsz Tryz.prog 57 = 4 := by kernel_rfl
theorem inf57 : (Tryz.prog.info? 57).isSome = true := by kernel_rfl
theorem agg57 : aggO Tryz.prog 57 = some true := by kernel_rfl
theorem tce57 : tce Tryz.prog 57 = [0, 0, 1, 4] := by kernel_rfl
theorem zvl57 : zvals Tryz.prog 57 = some [.sc (Value.int IntKind.i64 0), .sc (Value.int IntKind.i64 0), .sc (Value.slice none 0 0), .sc (Value.slice none 0 0)] := by kernel_rfl
theorem tfo57_0 : tfo Tryz.prog 57 0 = some (0, 3) := by kernel_rfl
theorem tfo57_1 : tfo Tryz.prog 57 1 = some (1, 3) := by kernel_rfl
theorem tfo57_2 : tfo Tryz.prog 57 2 = some (2, 36) := by kernel_rfl
theorem tfo57_3 : tfo Tryz.prog 57 3 = some (3, 55) := by kernel_rfl
theorem tsz59 : tsz Tryz.prog 59 = 2 := by kernel_rfl
theorem agg59 : aggO Tryz.prog 59 = some true := by kernel_rfl
theorem tce59 : tce Tryz.prog 59 = [0, 0] := by kernel_rfl
theorem tfo59_0 : tfo Tryz.prog 59 0 = some (0, 3) := by kernel_rfl
theorem tfo59_1 : tfo Tryz.prog 59 1 = some (1, 3) := by kernel_rfl
theorem tfl59 : tflds Tryz.prog 59 = true := by kernel_rfl
theorem tze59 : tzero Tryz.prog 59 = some [Value.int IntKind.i64 0, Value.int IntKind.i64 0] := by kernel_rfl
theorem tsz66 : tsz Tryz.prog 66 = 1 := by kernel_rfl
theorem inf66 : (Tryz.prog.info? 66).isSome = true := by kernel_rfl
theorem agg66 : aggO Tryz.prog 66 = some false := by kernel_rfl
theorem tel66 : tel Tryz.prog 66 = some 109 := by kernel_rfl
theorem tsl66 : tslice Tryz.prog 66 = true := by kernel_rfl
theorem tap66 : tapp Tryz.prog 66 = some 109 := by kernel_rfl
theorem tsz67 : tsz Tryz.prog 67 = 1 := by kernel_rfl
theorem agg67 : aggO Tryz.prog 67 = some false := by kernel_rfl
theorem tce67 : tce Tryz.prog 67 = [3] := by kernel_rfl
theorem tel67 : tel Tryz.prog 67 = some 123 := by kernel_rfl
theorem tsl67 : tslice Tryz.prog 67 = true := by kernel_rfl
theorem tap67 : tapp Tryz.prog 67 = some 123 := by kernel_rfl
theorem tsz68 : tsz Tryz.prog 68 = 1 := by kernel_rfl
theorem inf68 : (Tryz.prog.info? 68).isSome = true := by kernel_rfl
theorem agg68 : aggO Tryz.prog 68 = some false := by kernel_rfl
theorem tel68 : tel Tryz.prog 68 = some 67 := by kernel_rfl
theorem tsl68 : tslice Tryz.prog 68 = true := by kernel_rfl
theorem tap68 : tapp Tryz.prog 68 = some 67 := by kernel_rfl
theorem tsz70 : tsz Tryz.prog 70 = 10 := by kernel_rfl
theorem tce70 : tce Tryz.prog 70 = [4, 3, 1, 3, 3, 1, 1, 2, 0, 0] := by kernel_rfl
theorem tfo70_0 : tfo Tryz.prog 70 0 = some (0, 29) := by kernel_rfl
theorem tfo70_1 : tfo Tryz.prog 70 1 = some (1, 66) := by kernel_rfl
theorem tfo70_2 : tfo Tryz.prog 70 2 = some (2, 36) := by kernel_rfl
theorem tfo70_3 : tfo Tryz.prog 70 3 = some (3, 67) := by kernel_rfl
theorem tfo70_4 : tfo Tryz.prog 70 4 = some (4, 66) := by kernel_rfl
theorem tfo70_5 : tfo Tryz.prog 70 5 = some (5, 68) := by kernel_rfl
theorem tfo70_6 : tfo Tryz.prog 70 6 = some (6, 36) := by kernel_rfl
theorem tfo70_7 : tfo Tryz.prog 70 7 = some (7, 41) := by kernel_rfl
theorem tfo70_8 : tfo Tryz.prog 70 8 = some (8, 3) := by kernel_rfl
theorem tfo70_9 : tfo Tryz.prog 70 9 = some (9, 3) := by kernel_rfl
theorem tfl70 : tflds Tryz.prog 70 = true := by kernel_rfl
theorem tze70 : tzero Tryz.prog 70 = some [Value.slice none 0 0, Value.slice none 0 0, Value.slice none 0 0, Value.slice none 0 0, Value.slice none 0 0, Value.slice none 0 0, Value.slice none 0 0, Value.slice none 0 0, Value.int IntKind.i64 0, Value.int IntKind.i64 0] := by kernel_rfl
theorem tsz74 : tsz Tryz.prog 74 = 1 := by kernel_rfl
theorem agg74 : aggO Tryz.prog 74 = some false := by kernel_rfl
theorem tel74 : tel Tryz.prog 74 = some 95 := by kernel_rfl
theorem tsl74 : tslice Tryz.prog 74 = true := by kernel_rfl
theorem tap74 : tapp Tryz.prog 74 = some 95 := by kernel_rfl
theorem tsz75 : tsz Tryz.prog 75 = 1 := by kernel_rfl
theorem inf75 : (Tryz.prog.info? 75).isSome = true := by kernel_rfl
theorem agg75 : aggO Tryz.prog 75 = some false := by kernel_rfl
theorem tce75 : tce Tryz.prog 75 = [0] := by kernel_rfl
theorem tsz76 : tsz Tryz.prog 76 = 1 := by kernel_rfl
theorem inf76 : (Tryz.prog.info? 76).isSome = true := by kernel_rfl
theorem agg76 : aggO Tryz.prog 76 = some false := by kernel_rfl
theorem tel76 : tel Tryz.prog 76 = some 75 := by kernel_rfl
theorem tsl76 : tslice Tryz.prog 76 = true := by kernel_rfl
theorem tap76 : tapp Tryz.prog 76 = some 75 := by kernel_rfl
theorem tsz77 : tsz Tryz.prog 77 = 1 := by kernel_rfl
theorem inf77 : (Tryz.prog.info? 77).isSome = true := by kernel_rfl
theorem agg77 : aggO Tryz.prog 77 = some false := by kernel_rfl
theorem tel77 : tel Tryz.prog 77 = some 208 := by kernel_rfl
theorem tsl77 : tslice Tryz.prog 77 = true := by kernel_rfl
theorem tap77 : tapp Tryz.prog 77 = some 208 := by kernel_rfl
theorem tsz78 : tsz Tryz.prog 78 = 1 := by kernel_rfl
theorem inf78 : (Tryz.prog.info? 78).isSome = true := by kernel_rfl
theorem agg78 : aggO Tryz.prog 78 = some false := by kernel_rfl
theorem tel78 : tel Tryz.prog 78 = some 114 := by kernel_rfl
theorem tsl78 : tslice Tryz.prog 78 = true := by kernel_rfl
theorem tap78 : tapp Tryz.prog 78 = some 114 := by kernel_rfl
theorem tsz80 : tsz Tryz.prog 80 = 10 := by kernel_rfl
theorem tce80 : tce Tryz.prog 80 = [4, 1, 0, 0, 1, 2, 0, 1, 2, 1] := by kernel_rfl
theorem tfo80_0 : tfo Tryz.prog 80 0 = some (0, 29) := by kernel_rfl
theorem tfo80_1 : tfo Tryz.prog 80 1 = some (1, 74) := by kernel_rfl
theorem tfo80_2 : tfo Tryz.prog 80 2 = some (2, 3) := by kernel_rfl
theorem tfo80_3 : tfo Tryz.prog 80 3 = some (3, 3) := by kernel_rfl
theorem tfo80_4 : tfo Tryz.prog 80 4 = some (4, 36) := by kernel_rfl
theorem tfo80_5 : tfo Tryz.prog 80 5 = some (5, 41) := by kernel_rfl
theorem tfo80_6 : tfo Tryz.prog 80 6 = some (6, 75) := by kernel_rfl
theorem tfo80_7 : tfo Tryz.prog 80 7 = some (7, 76) := by kernel_rfl
theorem tfo80_8 : tfo Tryz.prog 80 8 = some (8, 77) := by kernel_rfl
theorem tfo80_9 : tfo Tryz.prog 80 9 = some (9, 78) := by kernel_rfl
theorem tfl80 : tflds Tryz.prog 80 = true := by kernel_rfl
theorem tze80 : tzero Tryz.prog 80 = some [Value.slice none 0 0, Value.slice none 0 0, Value.int IntKind.i64 0, Value.int IntKind.i64 0, Value.slice none 0 0, Value.slice none 0 0, Value.pointer none, Value.slice none 0 0, Value.slice none 0 0, Value.slice none 0 0] := by kernel_rfl
theorem tsz81 : tsz Tryz.prog 81 = 1 := by kernel_rfl
theorem agg81 : aggO Tryz.prog 81 = some false := by kernel_rfl
theorem tce81 : tce Tryz.prog 81 = [0] := by kernel_rfl
theorem tsz95 : tsz Tryz.prog 95 = 1 := by kernel_rfl
theorem inf95 : (Tryz.prog.info? 95).isSome = true := by kernel_rfl
theorem agg95 : aggO Tryz.prog 95 = some false := by kernel_rfl
theorem zvl95 : zvals Tryz.prog 95 = some [.sc (Value.pointer none)] := by kernel_rfl
theorem tsz98 : tsz Tryz.prog 98 = 8 := by kernel_rfl
theorem inf98 : (Tryz.prog.info? 98).isSome = true := by kernel_rfl
theorem agg98 : aggO Tryz.prog 98 = some true := by kernel_rfl
theorem tce98 : tce Tryz.prog 98 = [0, 0, 0, 0, 0, 0, 0, 0] := by kernel_rfl
theorem zvl98 : zvals Tryz.prog 98 = some [.sc (Value.bool false), .sc (Value.bool false), .sc (Value.bool false), .sc (Value.bool false), .sc (Value.bool false), .sc (Value.bool false), .sc (Value.bool false), .sc (Value.bool false)] := by kernel_rfl
theorem tel98 : tel Tryz.prog 98 = none := by kernel_rfl
theorem tar98 : tarr Tryz.prog 98 = some (8, 4) := by kernel_rfl
theorem agg103 : aggO Tryz.prog 103 = some false := by kernel_rfl
theorem tel103 : tel Tryz.prog 103 = some 185 := by kernel_rfl
theorem tsl103 : tslice Tryz.prog 103 = true := by kernel_rfl
theorem tsz105 : tsz Tryz.prog 105 = 4 := by kernel_rfl
theorem agg105 : aggO Tryz.prog 105 = some true := by kernel_rfl
theorem tce105 : tce Tryz.prog 105 = [0, 0, 1, 4] := by kernel_rfl
theorem tfo105_0 : tfo Tryz.prog 105 0 = some (0, 3) := by kernel_rfl
theorem tfo105_1 : tfo Tryz.prog 105 1 = some (1, 3) := by kernel_rfl
theorem tfo105_2 : tfo Tryz.prog 105 2 = some (2, 36) := by kernel_rfl
theorem tfo105_3 : tfo Tryz.prog 105 3 = some (3, 103) := by kernel_rfl
theorem tsz109 : tsz Tryz.prog 109 = 3 := by kernel_rfl
theorem inf109 : (Tryz.prog.info? 109).isSome = true := by kernel_rfl
theorem agg109 : aggO Tryz.prog 109 = some true := by kernel_rfl
theorem tce109 : tce Tryz.prog 109 = [0, 0, 3] := by kernel_rfl
theorem zvl109 : zvals Tryz.prog 109 = some [.sc (Value.int IntKind.i64 0), .sc (Value.int IntKind.i64 0), .sc (Value.slice none 0 0)] := by kernel_rfl
theorem tfo109_0 : tfo Tryz.prog 109 0 = some (0, 3) := by kernel_rfl
theorem tfo109_1 : tfo Tryz.prog 109 1 = some (1, 3) := by kernel_rfl
theorem tfo109_2 : tfo Tryz.prog 109 2 = some (2, 67) := by kernel_rfl
theorem tfl109 : tflds Tryz.prog 109 = true := by kernel_rfl
theorem tze109 : tzero Tryz.prog 109 = some [Value.int IntKind.i64 0, Value.int IntKind.i64 0, Value.slice none 0 0] := by kernel_rfl
theorem tsz111 : tsz Tryz.prog 111 = 2 := by kernel_rfl
theorem inf111 : (Tryz.prog.info? 111).isSome = true := by kernel_rfl
theorem agg111 : aggO Tryz.prog 111 = some true := by kernel_rfl
theorem tce111 : tce Tryz.prog 111 = [0, 0] := by kernel_rfl
theorem zvl111 : zvals Tryz.prog 111 = some [.sc (Value.int IntKind.i64 0), .sc (Value.int IntKind.i64 0)] := by kernel_rfl
theorem zfl111 : zflat Tryz.prog 111 = some (.agg [.sc (Value.int IntKind.i64 0), .sc (Value.int IntKind.i64 0)]) := by kernel_rfl
theorem tfo111_0 : tfo Tryz.prog 111 0 = some (0, 3) := by kernel_rfl
theorem tfo111_1 : tfo Tryz.prog 111 1 = some (1, 3) := by kernel_rfl
theorem tfl111 : tflds Tryz.prog 111 = true := by kernel_rfl
theorem tze111 : tzero Tryz.prog 111 = some [Value.int IntKind.i64 0, Value.int IntKind.i64 0] := by kernel_rfl
theorem tsz114 : tsz Tryz.prog 114 = 1 := by kernel_rfl
theorem agg114 : aggO Tryz.prog 114 = some false := by kernel_rfl
theorem tce114 : tce Tryz.prog 114 = [0] := by kernel_rfl
theorem tmi114 : tmapI Tryz.prog 114 = some (.i64, 111) := by kernel_rfl
theorem tsz116 : tsz Tryz.prog 116 = 3 := by kernel_rfl
theorem tce116 : tce Tryz.prog 116 = [0, 0, 0] := by kernel_rfl
theorem tfo116_0 : tfo Tryz.prog 116 0 = some (0, 3) := by kernel_rfl
theorem tfo116_1 : tfo Tryz.prog 116 1 = some (1, 114) := by kernel_rfl
theorem tfo116_2 : tfo Tryz.prog 116 2 = some (2, 75) := by kernel_rfl
theorem tfl116 : tflds Tryz.prog 116 = true := by kernel_rfl
theorem tze116 : tzero Tryz.prog 116 = some [Value.int IntKind.i64 0, Value.map none, Value.pointer none] := by kernel_rfl
theorem tsz123 : tsz Tryz.prog 123 = 3 := by kernel_rfl
theorem inf123 : (Tryz.prog.info? 123).isSome = true := by kernel_rfl
theorem agg123 : aggO Tryz.prog 123 = some true := by kernel_rfl
theorem tce123 : tce Tryz.prog 123 = [0, 0, 0] := by kernel_rfl
theorem zvl123 : zvals Tryz.prog 123 = some [.sc (Value.bool false), .sc (Value.int IntKind.i64 0), .sc (Value.int IntKind.i64 0)] := by kernel_rfl
theorem tfo123_0 : tfo Tryz.prog 123 0 = some (0, 4) := by kernel_rfl
theorem tfo123_1 : tfo Tryz.prog 123 1 = some (1, 111) := by kernel_rfl
theorem tfl123 : tflds Tryz.prog 123 = true := by kernel_rfl
theorem tze123 : tzero Tryz.prog 123 = some [Value.bool false, Value.int IntKind.i64 0, Value.int IntKind.i64 0] := by kernel_rfl
theorem tsz129 : tsz Tryz.prog 129 = 7 := by kernel_rfl
theorem tce129 : tce Tryz.prog 129 = [0, 0, 0, 0, 0, 0, 0] := by kernel_rfl
theorem zvl129 : zvals Tryz.prog 129 = some [.sc (Value.int IntKind.i64 0), .sc (Value.int IntKind.i64 0), .sc (Value.int IntKind.i64 0), .sc (Value.int IntKind.i64 0), .sc (Value.int IntKind.i64 0), .sc (Value.int IntKind.i64 0), .sc (Value.int IntKind.i64 0)] := by kernel_rfl
theorem tel129 : tel Tryz.prog 129 = none := by kernel_rfl
theorem tar129 : tarr Tryz.prog 129 = some (7, 3) := by kernel_rfl
theorem tsz132 : tsz Tryz.prog 132 = 2 := by kernel_rfl
theorem inf132 : (Tryz.prog.info? 132).isSome = true := by kernel_rfl
theorem ifc132 : isIface Tryz.prog 132 = some false := by kernel_rfl
theorem tce132 : tce Tryz.prog 132 = [0, 0] := by kernel_rfl
theorem zvl132 : zvals Tryz.prog 132 = some [.sc (Value.int IntKind.i64 0), .sc (Value.int IntKind.i64 0)] := by kernel_rfl
theorem zfl132 : zflat Tryz.prog 132 = some (.agg [.sc (Value.int IntKind.i64 0), .sc (Value.int IntKind.i64 0)]) := by kernel_rfl
theorem tfo132_0 : tfo Tryz.prog 132 0 = some (0, 3) := by kernel_rfl
theorem tfo132_1 : tfo Tryz.prog 132 1 = some (1, 3) := by kernel_rfl
theorem tfl132 : tflds Tryz.prog 132 = true := by kernel_rfl
theorem tze132 : tzero Tryz.prog 132 = some [Value.int IntKind.i64 0, Value.int IntKind.i64 0] := by kernel_rfl
theorem tsz139 : tsz Tryz.prog 139 = 43 := by kernel_rfl
theorem tce139 : tce Tryz.prog 139 = [0, 0, 0, 0, 0, 0, 0, 0, 0, 0, 0, 0, 0, 0, 0, 0, 0, 0, 0, 0, 0, 0, 0, 0, 0, 0, 0, 0, 0, 0, 0, 0, 0, 0, 0, 0, 0, 0, 0, 0, 0, 0, 0] := by kernel_rfl
theorem tfo139_0 : tfo Tryz.prog 139 0 = some (0, 3) := by kernel_rfl
theorem tfo139_1 : tfo Tryz.prog 139 1 = some (1, 3) := by kernel_rfl
theorem tfo139_2 : tfo Tryz.prog 139 2 = some (2, 95) := by kernel_rfl
theorem tfo139_3 : tfo Tryz.prog 139 3 = some (3, 98) := by kernel_rfl
theorem tfo139_4 : tfo Tryz.prog 139 4 = some (11, 98) := by kernel_rfl
theorem tfo139_5 : tfo Tryz.prog 139 5 = some (19, 98) := by kernel_rfl
theorem tfo139_6 : tfo Tryz.prog 139 6 = some (27, 98) := by kernel_rfl
theorem tfo139_7 : tfo Tryz.prog 139 7 = some (35, 98) := by kernel_rfl
theorem tfl139 : tflds Tryz.prog 139 = true := by kernel_rfl
theorem tze139 : tzero Tryz.prog 139 = some [Value.int IntKind.i64 0, Value.int IntKind.i64 0, Value.pointer none, Value.bool false, Value.bool false, Value.bool false, Value.bool false, Value.bool false, Value.bool false, Value.bool false, Value.bool false, Value.bool false, Value.bool false, Value.bool false, Value.bool false, Value.bool false, Value.bool false, Value.bool false, Value.bool false, Value.bool false, Value.bool false, Value.bool false, Value.bool false, Value.bool false, Value.bool false, Value.bool false, Value.bool false, Value.bool false, Value.bool false, Value.bool false, Value.bool false, Value.bool false, Value.bool false, Value.bool false, Value.bool false, Value.bool false, Value.bool false, Value.bool false, Value.bool false, Value.bool false, Value.bool false, Value.bool false, Value.bool false] := by kernel_rfl
theorem tel147 : tel Tryz.prog 147 = some 111 := by kernel_rfl
theorem tsl147 : tslice Tryz.prog 147 = true := by kernel_rfl
theorem tap147 : tapp Tryz.prog 147 = some 111 := by kernel_rfl
theorem tsz156 : tsz Tryz.prog 156 = 1 := by kernel_rfl
theorem inf156 : (Tryz.prog.info? 156).isSome = true := by kernel_rfl
theorem ifc156 : isIface Tryz.prog 156 = some false := by kernel_rfl
theorem tce156 : tce Tryz.prog 156 = [0] := by kernel_rfl
theorem zvl156 : zvals Tryz.prog 156 = some [.sc (Value.int IntKind.i64 0)] := by kernel_rfl
theorem zfl156 : zflat Tryz.prog 156 = some (.agg [.sc (Value.int IntKind.i64 0)]) := by kernel_rfl
theorem tfo156_0 : tfo Tryz.prog 156 0 = some (0, 3) := by kernel_rfl
theorem tfl156 : tflds Tryz.prog 156 = true := by kernel_rfl
theorem tze156 : tzero Tryz.prog 156 = some [Value.int IntKind.i64 0] := by kernel_rfl
theorem tsz158 : tsz Tryz.prog 158 = 1 := by kernel_rfl
theorem inf158 : (Tryz.prog.info? 158).isSome = true := by kernel_rfl
theorem ifc158 : isIface Tryz.prog 158 = some false := by kernel_rfl
theorem tce158 : tce Tryz.prog 158 = [0] := by kernel_rfl
theorem zvl158 : zvals Tryz.prog 158 = some [.sc (Value.int IntKind.i64 0)] := by kernel_rfl
theorem zfl158 : zflat Tryz.prog 158 = some (.agg [.sc (Value.int IntKind.i64 0)]) := by kernel_rfl
theorem tfo158_0 : tfo Tryz.prog 158 0 = some (0, 3) := by kernel_rfl
theorem tfl158 : tflds Tryz.prog 158 = true := by kernel_rfl
theorem tze158 : tzero Tryz.prog 158 = some [Value.int IntKind.i64 0] := by kernel_rfl
theorem tsz160 : tsz Tryz.prog 160 = 2 := by kernel_rfl
theorem inf160 : (Tryz.prog.info? 160).isSome = true := by kernel_rfl
theorem ifc160 : isIface Tryz.prog 160 = some false := by kernel_rfl
theorem tce160 : tce Tryz.prog 160 = [0, 0] := by kernel_rfl
theorem zvl160 : zvals Tryz.prog 160 = some [.sc (Value.int IntKind.i64 0), .sc (Value.int IntKind.i64 0)] := by kernel_rfl
theorem zfl160 : zflat Tryz.prog 160 = some (.agg [.sc (Value.int IntKind.i64 0), .sc (Value.int IntKind.i64 0)]) := by kernel_rfl
theorem tfo160_0 : tfo Tryz.prog 160 0 = some (0, 3) := by kernel_rfl
theorem tfo160_1 : tfo Tryz.prog 160 1 = some (1, 3) := by kernel_rfl
theorem tfl160 : tflds Tryz.prog 160 = true := by kernel_rfl
theorem tze160 : tzero Tryz.prog 160 = some [Value.int IntKind.i64 0, Value.int IntKind.i64 0] := by kernel_rfl
theorem tsz162 : tsz Tryz.prog 162 = 2 := by kernel_rfl
theorem inf162 : (Tryz.prog.info? 162).isSome = true := by kernel_rfl
theorem ifc162 : isIface Tryz.prog 162 = some false := by kernel_rfl
theorem tce162 : tce Tryz.prog 162 = [0, 0] := by kernel_rfl
theorem zvl162 : zvals Tryz.prog 162 = some [.sc (Value.int IntKind.i64 0), .sc (Value.int IntKind.i64 0)] := by kernel_rfl
theorem zfl162 : zflat Tryz.prog 162 = some (.agg [.sc (Value.int IntKind.i64 0), .sc (Value.int IntKind.i64 0)]) := by kernel_rfl
theorem tfo162_0 : tfo Tryz.prog 162 0 = some (0, 3) := by kernel_rfl
theorem tfo162_1 : tfo Tryz.prog 162 1 = some (1, 3) := by kernel_rfl
theorem tfl162 : tflds Tryz.prog 162 = true := by kernel_rfl
theorem tze162 : tzero Tryz.prog 162 = some [Value.int IntKind.i64 0, Value.int IntKind.i64 0] := by kernel_rfl
theorem tsz164 : tsz Tryz.prog 164 = 2 := by kernel_rfl
theorem inf164 : (Tryz.prog.info? 164).isSome = true := by kernel_rfl
theorem ifc164 : isIface Tryz.prog 164 = some false := by kernel_rfl
theorem tce164 : tce Tryz.prog 164 = [0, 0] := by kernel_rfl
theorem zvl164 : zvals Tryz.prog 164 = some [.sc (Value.int IntKind.i64 0), .sc (Value.int IntKind.i64 0)] := by kernel_rfl
theorem zfl164 : zflat Tryz.prog 164 = some (.agg [.sc (Value.int IntKind.i64 0), .sc (Value.int IntKind.i64 0)]) := by kernel_rfl
theorem tfo164_0 : tfo Tryz.prog 164 0 = some (0, 3) := by kernel_rfl
theorem tfo164_1 : tfo Tryz.prog 164 1 = some (1, 3) := by kernel_rfl
theorem tfl164 : tflds Tryz.prog 164 = true := by kernel_rfl
theorem tze164 : tzero Tryz.prog 164 = some [Value.int IntKind.i64 0, Value.int IntKind.i64 0] := by kernel_rfl
theorem tsz166 : tsz Tryz.prog 166 = 1 := by kernel_rfl
theorem inf166 : (Tryz.prog.info? 166).isSome = true := by kernel_rfl
theorem ifc166 : isIface Tryz.prog 166 = some false := by kernel_rfl
theorem tce166 : tce Tryz.prog 166 = [0] := by kernel_rfl
theorem zvl166 : zvals Tryz.prog 166 = some [.sc (Value.int IntKind.i64 0)] := by kernel_rfl
theorem zfl166 : zflat Tryz.prog 166 = some (.agg [.sc (Value.int IntKind.i64 0)]) := by kernel_rfl
theorem tfo166_0 : tfo Tryz.prog 166 0 = some (0, 3) := by kernel_rfl
theorem tfl166 : tflds Tryz.prog 166 = true := by kernel_rfl
theorem tze166 : tzero Tryz.prog 166 = some [Value.int IntKind.i64 0] := by kernel_rfl
theorem tsz167 : tsz Tryz.prog 167 = 1 := by kernel_rfl
theorem inf167 : (Tryz.prog.info? 167).isSome = true := by kernel_rfl
theorem ifc167 : isIface Tryz.prog 167 = some false := by kernel_rfl
theorem tce167 : tce Tryz.prog 167 = [0] := by kernel_rfl
theorem zvl167 : zvals Tryz.prog 167 = some [.sc (Value.int IntKind.i64 0)] := by kernel_rfl
theorem zfl167 : zflat Tryz.prog 167 = some (.agg [.sc (Value.int IntKind.i64 0)]) := by kernel_rfl
theorem tfo167_0 : tfo Tryz.prog 167 0 = some (0, 3) := by kernel_rfl
theorem tfl167 : tflds Tryz.prog 167 = true := by kernel_rfl
theorem tze167 : tzero Tryz.prog 167 = some [Value.int IntKind.i64 0] := by kernel_rfl
theorem tsz169 : tsz Tryz.prog 169 = 0 := by kernel_rfl
theorem inf169 : (Tryz.prog.info? 169).isSome = true := by kernel_rfl
theorem ifc169 : isIface Tryz.prog 169 = some false := by kernel_rfl
theorem tce169 : tce Tryz.prog 169 = [] := by kernel_rfl
theorem zvl169 : zvals Tryz.prog 169 = some [] := by kernel_rfl
theorem zfl169 : zflat Tryz.prog 169 = some (.agg []) := by kernel_rfl
theorem tfl169 : tflds Tryz.prog 169 = true := by kernel_rfl
theorem tze169 : tzero Tryz.prog 169 = some [] := by kernel_rfl
theorem tsz170 : tsz Tryz.prog 170 = 0 := by kernel_rfl
theorem inf170 : (Tryz.prog.info? 170).isSome = true := by kernel_rfl
theorem ifc170 : isIface Tryz.prog 170 = some false := by kernel_rfl
theorem tce170 : tce Tryz.prog 170 = [] := by kernel_rfl
theorem zvl170 : zvals Tryz.prog 170 = some [] := by kernel_rfl
theorem zfl170 : zflat Tryz.prog 170 = some (.agg []) := by kernel_rfl
theorem tfl170 : tflds Tryz.prog 170 = true := by kernel_rfl
theorem tze170 : tzero Tryz.prog 170 = some [] := by kernel_rfl
theorem tsz185 : tsz Tryz.prog 185 = 4 := by kernel_rfl
theorem agg185 : aggO Tryz.prog 185 = some true := by kernel_rfl
theorem tce185 : tce Tryz.prog 185 = [0, 0, 0, 0] := by kernel_rfl
theorem tfo185_0 : tfo Tryz.prog 185 0 = some (0, 3) := by kernel_rfl
theorem tfo185_1 : tfo Tryz.prog 185 1 = some (1, 3) := by kernel_rfl
theorem tfo185_2 : tfo Tryz.prog 185 2 = some (2, 3) := by kernel_rfl
theorem tfo185_3 : tfo Tryz.prog 185 3 = some (3, 3) := by kernel_rfl
theorem tsz208 : tsz Tryz.prog 208 = 2 := by kernel_rfl
theorem inf208 : (Tryz.prog.info? 208).isSome = true := by kernel_rfl
theorem agg208 : aggO Tryz.prog 208 = some true := by kernel_rfl
theorem tce208 : tce Tryz.prog 208 = [0, 0] := by kernel_rfl
theorem zvl208 : zvals Tryz.prog 208 = some [.sc (Value.int IntKind.i64 0), .sc (Value.nilFunc)] := by kernel_rfl
theorem tfo208_0 : tfo Tryz.prog 208 0 = some (0, 3) := by kernel_rfl
theorem tfo208_1 : tfo Tryz.prog 208 1 = some (1, 206) := by kernel_rfl
theorem tfl208 : tflds Tryz.prog 208 = true := by kernel_rfl
theorem tze208 : tzero Tryz.prog 208 = some [Value.int IntKind.i64 0, Value.nilFunc] := by kernel_rfl
attribute [simp] tsz3 inf3 agg3 tce3 zvl3 tsz4 inf4 agg4 agg22 tel22 tsl22 tsz24 agg24 tce24 tfo24_0 tsz27 inf27 agg27 tel27 tsl27 tap27 tsz29 inf29 agg29 tce29 zvl29 tfo29_0 tsz36 inf36 agg36 tce36 zvl36 tel36 tsl36 tap36 tsz41 inf41 agg41 tel41 tsl41 tap41 tsz46 inf46 agg46 tce46 zvl46 tfo46_0 tfo46_1 tfo46_2 tfo46_3 tfl46 tze46 tsz54 inf54 agg54 tce54 zvl54 tfo54_0 tfo54_1 tfo54_2 tfo54_3 tsz55 inf55 agg55 tel55 tsl55 tap55 tsz57 inf57 agg57 tce57 zvl57 tfo57_0 tfo57_1 tfo57_2 tfo57_3 tsz59 agg59 tce59 tfo59_0 tfo59_1 tfl59 tze59 tsz66 inf66 agg66 tel66 tsl66 tap66 tsz67 agg67 tce67 tel67 tsl67 tap67 tsz68 inf68 agg68 tel68 tsl68 tap68 tsz70 tce70 tfo70_0 tfo70_1 tfo70_2 tfo70_3 tfo70_4 tfo70_5 tfo70_6 tfo70_7 tfo70_8 tfo70_9 tfl70 tze70 tsz74 agg74 tel74 tsl74 tap74 tsz75 inf75 agg75 tce75 tsz76 inf76 agg76 tel76 tsl76 tap76 tsz77 inf77 agg77 tel77 tsl77 tap77 tsz78 inf78 agg78 tel78 tsl78 tap78 tsz80 tce80 tfo80_0 tfo80_1 tfo80_2 tfo80_3 tfo80_4 tfo80_5 tfo80_6 tfo80_7 tfo80_8 tfo80_9 tfl80 tze80 tsz81 agg81 tce81 tsz95 inf95 agg95 zvl95 tsz98 inf98 agg98 tce98 zvl98 tel98 tar98 agg103 tel103 tsl103 tsz105 agg105 tce105 tfo105_0 tfo105_1 tfo105_2 tfo105_3 tsz109 inf109 agg109 tce109 zvl109 tfo109_0 tfo109_1 tfo109_2 tfl109 tze109 tsz111 inf111 agg111 tce111 zvl111 zfl111 tfo111_0 tfo111_1 tfl111 tze111 tsz114 agg114 tce114 tmi114 tsz116 tce116 tfo116_0 tfo116_1 tfo116_2 tfl116 tze116 tsz123 inf123 agg123 tce123 zvl123 tfo123_0 tfo123_1 tfl123 tze123 tsz129 tce129 zvl129 tel129 tar129 tsz132 inf132 ifc132 tce132 zvl132 zfl132 tfo132_0 tfo132_1 tfl132 tze132 tsz139 tce139 tfo139_0 tfo139_1 tfo139_2 tfo139_3 tfo139_4 tfo139_5 tfo139_6 tfo139_7 tfl139 tze139 tel147 tsl147 tap147 tsz156 inf156 ifc156 tce156 zvl156 zfl156 tfo156_0 tfl156 tze156 tsz158 inf158 ifc158 tce158 zvl158 zfl158 tfo158_0 tfl158 tze158 tsz160 inf160 ifc160 tce160 zvl160 zfl160 tfo160_0 tfo160_1 tfl160 tze160 tsz162 inf162 ifc162 tce162 zvl162 zfl162 tfo162_0 tfo162_1 tfl162 tze162 tsz164 inf164 ifc164 tce164 zvl164 zfl164 tfo164_0 tfo164_1 tfl164 tze164 tsz166 inf166 ifc166 tce166 zvl166 zfl166 tfo166_0 tfl166 tze166 tsz167 inf167 ifc167 tce167 zvl167 zfl167 tfo167_0 tfl167 tze167 tsz169 inf169 ifc169 tce169 zvl169 zfl169 tfl169 tze169 tsz170 inf170 ifc170 tce170 zvl170 zfl170 tfl170 tze170 tsz185 agg185 tce185 tfo185_0 tfo185_1 tfo185_2 tfo185_3 tsz208 inf208 agg208 tce208 zvl208 tfo208_0 tfo208_1 tfl208 tze208
theorem mixed : Tryz.prog.follows .mixedOrders = true := by kernel_rfl
end Go.Proofs.YtpckgioefpkmoaaGreat
end
