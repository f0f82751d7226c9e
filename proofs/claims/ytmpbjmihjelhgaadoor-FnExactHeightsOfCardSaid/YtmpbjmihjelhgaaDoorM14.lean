/-
  Own texts, joined by mkclaim.py: Facts.
-/
import Derived.Test.YtmpbjmihjelhgaaDoorProg
import Derived.Test.YtmpbjmihjelhgaaDoorM07
set_option linter.unusedSimpArgs false
set_option linter.unusedVariables false

section
/-
  The closed facts of the table of types, as the abstract machine asks for them. Printed by facts.py.
-/
namespace Go.Proofs.YtmpbjmihjelhgaaDoor
open Go Go.Hm Go.Proofs

theorem tsz2 : tsz Tryd.prog 2 = 1 := by kernel_rfl
theorem inf2 : (Tryd.prog.info? 2).isSome = true := by kernel_rfl
theorem agg2 : aggO Tryd.prog 2 = some false := by kernel_rfl
theorem ifc2 : isIface Tryd.prog 2 = some false := by kernel_rfl
theorem tce2 : tce Tryd.prog 2 = [0] := by kernel_rfl
theorem zvl2 : zvals Tryd.prog 2 = some [.sc (Value.int IntKind.i64 0)] := by kernel_rfl
theorem zfl2 : zflat Tryd.prog 2 = some (.sc (Value.int IntKind.i64 0)) := by kernel_rfl
theorem tit2 : tint Tryd.prog 2 = some .i64 := by kernel_rfl
theorem tsz3 : tsz Tryd.prog 3 = 1 := by kernel_rfl
theorem inf3 : (Tryd.prog.info? 3).isSome = true := by kernel_rfl
theorem agg3 : aggO Tryd.prog 3 = some false := by kernel_rfl
theorem ifc3 : isIface Tryd.prog 3 = some false := by kernel_rfl
theorem tce3 : tce Tryd.prog 3 = [0] := by kernel_rfl
theorem zvl3 : zvals Tryd.prog 3 = some [.sc (Value.int IntKind.i64 0)] := by kernel_rfl
theorem zfl3 : zflat Tryd.prog 3 = some (.sc (Value.int IntKind.i64 0)) := by kernel_rfl
theorem tit3 : tint Tryd.prog 3 = some .i64 := by kernel_rfl
theorem tsz4 : tsz Tryd.prog 4 = 1 := by kernel_rfl
theorem inf4 : (Tryd.prog.info? 4).isSome = true := by kernel_rfl
theorem agg4 : aggO Tryd.prog 4 = some false := by kernel_rfl
theorem ifc4 : isIface Tryd.prog 4 = some false := by kernel_rfl
theorem tce4 : tce Tryd.prog 4 = [0] := by kernel_rfl
theorem zvl4 : zvals Tryd.prog 4 = some [.sc (Value.bool false)] := by kernel_rfl
theorem zfl4 : zflat Tryd.prog 4 = some (.sc (Value.bool false)) := by kernel_rfl
theorem tbo4 : tbool Tryd.prog 4 = true := by kernel_rfl
theorem tsz5 : tsz Tryd.prog 5 = 1 := by kernel_rfl
theorem inf5 : (Tryd.prog.info? 5).isSome = true := by kernel_rfl
theorem agg5 : aggO Tryd.prog 5 = some false := by kernel_rfl
theorem ifc5 : isIface Tryd.prog 5 = some false := by kernel_rfl
theorem tce5 : tce Tryd.prog 5 = [0] := by kernel_rfl
theorem zvl5 : zvals Tryd.prog 5 = some [.sc (Value.int IntKind.u8 0)] := by kernel_rfl
theorem zfl5 : zflat Tryd.prog 5 = some (.sc (Value.int IntKind.u8 0)) := by kernel_rfl
theorem tit5 : tint Tryd.prog 5 = some .u8 := by kernel_rfl
theorem tsz6 : tsz Tryd.prog 6 = 1 := by kernel_rfl
theorem inf6 : (Tryd.prog.info? 6).isSome = true := by kernel_rfl
theorem agg6 : aggO Tryd.prog 6 = some false := by kernel_rfl
theorem ifc6 : isIface Tryd.prog 6 = some false := by kernel_rfl
theorem tce6 : tce Tryd.prog 6 = [0] := by kernel_rfl
theorem zvl6 : zvals Tryd.prog 6 = some [.sc (Value.int IntKind.u8 0)] := by kernel_rfl
theorem zfl6 : zflat Tryd.prog 6 = some (.sc (Value.int IntKind.u8 0)) := by kernel_rfl
theorem tit6 : tint Tryd.prog 6 = some .u8 := by kernel_rfl
theorem tsz7 : tsz Tryd.prog 7 = 4 := by kernel_rfl
theorem inf7 : (Tryd.prog.info? 7).isSome = true := by kernel_rfl
theorem agg7 : aggO Tryd.prog 7 = some true := by kernel_rfl
theorem ifc7 : isIface Tryd.prog 7 = some false := by kernel_rfl
theorem tce7 : tce Tryd.prog 7 = [0, 0, 0, 0] := by kernel_rfl
theorem zvl7 : zvals Tryd.prog 7 = some [.sc (Value.int IntKind.i64 0), .sc (Value.int IntKind.i64 0), .sc (Value.bool false), .sc (Value.int IntKind.u8 0)] := by kernel_rfl
theorem zfl7 : zflat Tryd.prog 7 = some (.agg [.sc (Value.int IntKind.i64 0), .sc (Value.int IntKind.i64 0), .sc (Value.bool false), .sc (Value.int IntKind.u8 0)]) := by kernel_rfl
theorem tfo7_0 : tfo Tryd.prog 7 0 = some (0, 2) := by kernel_rfl
theorem tfo7_1 : tfo Tryd.prog 7 1 = some (1, 3) := by kernel_rfl
theorem tfo7_2 : tfo Tryd.prog 7 2 = some (2, 4) := by kernel_rfl
theorem tfo7_3 : tfo Tryd.prog 7 3 = some (3, 6) := by kernel_rfl
theorem tfl7 : tflds Tryd.prog 7 = true := by kernel_rfl
theorem tze7 : tzero Tryd.prog 7 = some [Value.int IntKind.i64 0, Value.int IntKind.i64 0, Value.bool false, Value.int IntKind.u8 0] := by kernel_rfl
theorem tsz8 : tsz Tryd.prog 8 = 4 := by kernel_rfl
theorem inf8 : (Tryd.prog.info? 8).isSome = true := by kernel_rfl
theorem agg8 : aggO Tryd.prog 8 = some true := by kernel_rfl
theorem ifc8 : isIface Tryd.prog 8 = some false := by kernel_rfl
theorem tce8 : tce Tryd.prog 8 = [0, 0, 0, 0] := by kernel_rfl
theorem zvl8 : zvals Tryd.prog 8 = some [.sc (Value.int IntKind.i64 0), .sc (Value.int IntKind.i64 0), .sc (Value.bool false), .sc (Value.int IntKind.u8 0)] := by kernel_rfl
theorem zfl8 : zflat Tryd.prog 8 = some (.agg [.sc (Value.int IntKind.i64 0), .sc (Value.int IntKind.i64 0), .sc (Value.bool false), .sc (Value.int IntKind.u8 0)]) := by kernel_rfl
theorem tfo8_0 : tfo Tryd.prog 8 0 = some (0, 2) := by kernel_rfl
theorem tfo8_1 : tfo Tryd.prog 8 1 = some (1, 3) := by kernel_rfl
theorem tfo8_2 : tfo Tryd.prog 8 2 = some (2, 4) := by kernel_rfl
theorem tfo8_3 : tfo Tryd.prog 8 3 = some (3, 6) := by kernel_rfl
theorem tfl8 : tflds Tryd.prog 8 = true := by kernel_rfl
theorem tze8 : tzero Tryd.prog 8 = some [Value.int IntKind.i64 0, Value.int IntKind.i64 0, Value.bool false, Value.int IntKind.u8 0] := by kernel_rfl
theorem tsz21 : tsz Tryd.prog 21 = 1 := by kernel_rfl
theorem inf21 : (Tryd.prog.info? 21).isSome = true := by kernel_rfl
theorem agg21 : aggO Tryd.prog 21 = some false := by kernel_rfl
theorem ifc21 : isIface Tryd.prog 21 = some false := by kernel_rfl
theorem tce21 : tce Tryd.prog 21 = [0] := by kernel_rfl
theorem zvl21 : zvals Tryd.prog 21 = some [.sc (Value.int IntKind.i32 0)] := by kernel_rfl
theorem zfl21 : zflat Tryd.prog 21 = some (.sc (Value.int IntKind.i32 0)) := by kernel_rfl
theorem tit21 : tint Tryd.prog 21 = some .i32 := by kernel_rfl
theorem tsz22 : tsz Tryd.prog 22 = 1 := by kernel_rfl
theorem inf22 : (Tryd.prog.info? 22).isSome = true := by kernel_rfl
theorem agg22 : aggO Tryd.prog 22 = some false := by kernel_rfl
theorem ifc22 : isIface Tryd.prog 22 = some false := by kernel_rfl
theorem tce22 : tce Tryd.prog 22 = [1] := by kernel_rfl
theorem zvl22 : zvals Tryd.prog 22 = some [.sc (Value.slice none 0 0)] := by kernel_rfl
theorem zfl22 : zflat Tryd.prog 22 = some (.sc (Value.slice none 0 0)) := by kernel_rfl
theorem tel22 : tel Tryd.prog 22 = some 5 := by kernel_rfl
theorem tsl22 : tslice Tryd.prog 22 = true := by kernel_rfl
theorem tap22 : tapp Tryd.prog 22 = some 5 := by kernel_rfl
theorem tst22 : tstr Tryd.prog 22 = false := by kernel_rfl
theorem tsz23 : tsz Tryd.prog 23 = 1 := by kernel_rfl
theorem inf23 : (Tryd.prog.info? 23).isSome = true := by kernel_rfl
theorem agg23 : aggO Tryd.prog 23 = some false := by kernel_rfl
theorem ifc23 : isIface Tryd.prog 23 = some false := by kernel_rfl
theorem tce23 : tce Tryd.prog 23 = [4] := by kernel_rfl
theorem zvl23 : zvals Tryd.prog 23 = some [.sc (Value.slice none 0 0)] := by kernel_rfl
theorem zfl23 : zflat Tryd.prog 23 = some (.sc (Value.slice none 0 0)) := by kernel_rfl
theorem tel23 : tel Tryd.prog 23 = some 52 := by kernel_rfl
theorem tsl23 : tslice Tryd.prog 23 = true := by kernel_rfl
theorem tap23 : tapp Tryd.prog 23 = some 52 := by kernel_rfl
theorem tst23 : tstr Tryd.prog 23 = false := by kernel_rfl
theorem tsz25 : tsz Tryd.prog 25 = 1 := by kernel_rfl
theorem inf25 : (Tryd.prog.info? 25).isSome = true := by kernel_rfl
theorem agg25 : aggO Tryd.prog 25 = some true := by kernel_rfl
theorem ifc25 : isIface Tryd.prog 25 = some false := by kernel_rfl
theorem tce25 : tce Tryd.prog 25 = [4] := by kernel_rfl
theorem zvl25 : zvals Tryd.prog 25 = some [.sc (Value.slice none 0 0)] := by kernel_rfl
theorem zfl25 : zflat Tryd.prog 25 = some (.agg [.sc (Value.slice none 0 0)]) := by kernel_rfl
theorem tfo25_0 : tfo Tryd.prog 25 0 = some (0, 23) := by kernel_rfl
theorem tfl25 : tflds Tryd.prog 25 = true := by kernel_rfl
theorem tze25 : tzero Tryd.prog 25 = some [Value.slice none 0 0] := by kernel_rfl
theorem tsz29 : tsz Tryd.prog 29 = 2 := by kernel_rfl
theorem inf29 : (Tryd.prog.info? 29).isSome = true := by kernel_rfl
theorem agg29 : aggO Tryd.prog 29 = some true := by kernel_rfl
theorem ifc29 : isIface Tryd.prog 29 = some false := by kernel_rfl
theorem tce29 : tce Tryd.prog 29 = [0, 0] := by kernel_rfl
theorem zvl29 : zvals Tryd.prog 29 = some [.sc (Value.int IntKind.i64 0), .sc (Value.int IntKind.i64 0)] := by kernel_rfl
theorem zfl29 : zflat Tryd.prog 29 = some (.agg [.sc (Value.int IntKind.i64 0), .sc (Value.int IntKind.i64 0)]) := by kernel_rfl
theorem tfo29_0 : tfo Tryd.prog 29 0 = some (0, 3) := by kernel_rfl
theorem tfo29_1 : tfo Tryd.prog 29 1 = some (1, 3) := by kernel_rfl
theorem tfl29 : tflds Tryd.prog 29 = true := by kernel_rfl
theorem tze29 : tzero Tryd.prog 29 = some [Value.int IntKind.i64 0, Value.int IntKind.i64 0] := by kernel_rfl
theorem tin29 : tints Tryd.prog 29 = some 2 := by kernel_rfl
theorem tsz34 : tsz Tryd.prog 34 = 1 := by kernel_rfl
theorem inf34 : (Tryd.prog.info? 34).isSome = true := by kernel_rfl
theorem agg34 : aggO Tryd.prog 34 = some false := by kernel_rfl
theorem ifc34 : isIface Tryd.prog 34 = some false := by kernel_rfl
theorem tce34 : tce Tryd.prog 34 = [1] := by kernel_rfl
theorem zvl34 : zvals Tryd.prog 34 = some [.sc (Value.slice none 0 0)] := by kernel_rfl
theorem zfl34 : zflat Tryd.prog 34 = some (.sc (Value.slice none 0 0)) := by kernel_rfl
theorem tel34 : tel Tryd.prog 34 = some 3 := by kernel_rfl
theorem tsl34 : tslice Tryd.prog 34 = true := by kernel_rfl
theorem tap34 : tapp Tryd.prog 34 = some 3 := by kernel_rfl
theorem tst34 : tstr Tryd.prog 34 = false := by kernel_rfl
theorem tsz39 : tsz Tryd.prog 39 = 1 := by kernel_rfl
theorem inf39 : (Tryd.prog.info? 39).isSome = true := by kernel_rfl
theorem agg39 : aggO Tryd.prog 39 = some false := by kernel_rfl
theorem ifc39 : isIface Tryd.prog 39 = some false := by kernel_rfl
theorem tce39 : tce Tryd.prog 39 = [4] := by kernel_rfl
theorem zvl39 : zvals Tryd.prog 39 = some [.sc (Value.slice none 0 0)] := by kernel_rfl
theorem zfl39 : zflat Tryd.prog 39 = some (.sc (Value.slice none 0 0)) := by kernel_rfl
theorem tel39 : tel Tryd.prog 39 = some 116 := by kernel_rfl
theorem tsl39 : tslice Tryd.prog 39 = true := by kernel_rfl
theorem tap39 : tapp Tryd.prog 39 = some 116 := by kernel_rfl
theorem tst39 : tstr Tryd.prog 39 = false := by kernel_rfl
theorem tsz41 : tsz Tryd.prog 41 = 1 := by kernel_rfl
theorem inf41 : (Tryd.prog.info? 41).isSome = true := by kernel_rfl
theorem agg41 : aggO Tryd.prog 41 = some true := by kernel_rfl
theorem ifc41 : isIface Tryd.prog 41 = some false := by kernel_rfl
theorem tce41 : tce Tryd.prog 41 = [4] := by kernel_rfl
theorem zvl41 : zvals Tryd.prog 41 = some [.sc (Value.slice none 0 0)] := by kernel_rfl
theorem zfl41 : zflat Tryd.prog 41 = some (.agg [.sc (Value.slice none 0 0)]) := by kernel_rfl
theorem tfo41_0 : tfo Tryd.prog 41 0 = some (0, 39) := by kernel_rfl
theorem tfl41 : tflds Tryd.prog 41 = true := by kernel_rfl
theorem tze41 : tzero Tryd.prog 41 = some [Value.slice none 0 0] := by kernel_rfl
theorem tsz46 : tsz Tryd.prog 46 = 1 := by kernel_rfl
theorem inf46 : (Tryd.prog.info? 46).isSome = true := by kernel_rfl
theorem agg46 : aggO Tryd.prog 46 = some false := by kernel_rfl
theorem ifc46 : isIface Tryd.prog 46 = some false := by kernel_rfl
theorem tce46 : tce Tryd.prog 46 = [2] := by kernel_rfl
theorem zvl46 : zvals Tryd.prog 46 = some [.sc (Value.slice none 0 0)] := by kernel_rfl
theorem zfl46 : zflat Tryd.prog 46 = some (.sc (Value.slice none 0 0)) := by kernel_rfl
theorem tel46 : tel Tryd.prog 46 = some 29 := by kernel_rfl
theorem tsl46 : tslice Tryd.prog 46 = true := by kernel_rfl
theorem tap46 : tapp Tryd.prog 46 = some 29 := by kernel_rfl
theorem tst46 : tstr Tryd.prog 46 = false := by kernel_rfl
theorem tsz48 : tsz Tryd.prog 48 = 6 := by kernel_rfl
theorem inf48 : (Tryd.prog.info? 48).isSome = true := by kernel_rfl
theorem agg48 : aggO Tryd.prog 48 = some true := by kernel_rfl
theorem ifc48 : isIface Tryd.prog 48 = some false := by kernel_rfl
theorem tce48 : tce Tryd.prog 48 = [0, 1, 1, 1, 1, 2] := by kernel_rfl
theorem zvl48 : zvals Tryd.prog 48 = some [.sc (Value.int IntKind.i64 0), .sc (Value.slice none 0 0), .sc (Value.slice none 0 0), .sc (Value.slice none 0 0), .sc (Value.slice none 0 0), .sc (Value.slice none 0 0)] := by kernel_rfl
theorem zfl48 : zflat Tryd.prog 48 = some (.agg [.sc (Value.int IntKind.i64 0), .sc (Value.slice none 0 0), .sc (Value.slice none 0 0), .sc (Value.slice none 0 0), .sc (Value.slice none 0 0), .sc (Value.slice none 0 0)]) := by kernel_rfl
theorem tfo48_0 : tfo Tryd.prog 48 0 = some (0, 3) := by kernel_rfl
theorem tfo48_1 : tfo Tryd.prog 48 1 = some (1, 34) := by kernel_rfl
theorem tfo48_2 : tfo Tryd.prog 48 2 = some (2, 34) := by kernel_rfl
theorem tfo48_3 : tfo Tryd.prog 48 3 = some (3, 34) := by kernel_rfl
theorem tfo48_4 : tfo Tryd.prog 48 4 = some (4, 34) := by kernel_rfl
theorem tfo48_5 : tfo Tryd.prog 48 5 = some (5, 46) := by kernel_rfl
theorem tfl48 : tflds Tryd.prog 48 = true := by kernel_rfl
theorem tze48 : tzero Tryd.prog 48 = some [Value.int IntKind.i64 0, Value.slice none 0 0, Value.slice none 0 0, Value.slice none 0 0, Value.slice none 0 0, Value.slice none 0 0] := by kernel_rfl
theorem tsz50 : tsz Tryd.prog 50 = 1 := by kernel_rfl
theorem inf50 : (Tryd.prog.info? 50).isSome = true := by kernel_rfl
theorem agg50 : aggO Tryd.prog 50 = some false := by kernel_rfl
theorem ifc50 : isIface Tryd.prog 50 = some false := by kernel_rfl
theorem tce50 : tce Tryd.prog 50 = [4] := by kernel_rfl
theorem zvl50 : zvals Tryd.prog 50 = some [.sc (Value.slice none 0 0)] := by kernel_rfl
theorem zfl50 : zflat Tryd.prog 50 = some (.sc (Value.slice none 0 0)) := by kernel_rfl
theorem tel50 : tel Tryd.prog 50 = some 101 := by kernel_rfl
theorem tsl50 : tslice Tryd.prog 50 = true := by kernel_rfl
theorem tap50 : tapp Tryd.prog 50 = some 101 := by kernel_rfl
theorem tst50 : tstr Tryd.prog 50 = false := by kernel_rfl
theorem tsz52 : tsz Tryd.prog 52 = 4 := by kernel_rfl
theorem inf52 : (Tryd.prog.info? 52).isSome = true := by kernel_rfl
theorem agg52 : aggO Tryd.prog 52 = some true := by kernel_rfl
theorem ifc52 : isIface Tryd.prog 52 = some false := by kernel_rfl
theorem tce52 : tce Tryd.prog 52 = [0, 0, 1, 4] := by kernel_rfl
theorem zvl52 : zvals Tryd.prog 52 = some [.sc (Value.int IntKind.i64 0), .sc (Value.int IntKind.i64 0), .sc (Value.slice none 0 0), .sc (Value.slice none 0 0)] := by kernel_rfl
theorem zfl52 : zflat Tryd.prog 52 = some (.agg [.sc (Value.int IntKind.i64 0), .sc (Value.int IntKind.i64 0), .sc (Value.slice none 0 0), .sc (Value.slice none 0 0)]) := by kernel_rfl
theorem tfo52_0 : tfo Tryd.prog 52 0 = some (0, 3) := by kernel_rfl
theorem tfo52_1 : tfo Tryd.prog 52 1 = some (1, 3) := by kernel_rfl
theorem tfo52_2 : tfo Tryd.prog 52 2 = some (2, 34) := by kernel_rfl
theorem tfo52_3 : tfo Tryd.prog 52 3 = some (3, 50) := by kernel_rfl
theorem tfl52 : tflds Tryd.prog 52 = true := by kernel_rfl
theorem tze52 : tzero Tryd.prog 52 = some [Value.int IntKind.i64 0, Value.int IntKind.i64 0, Value.slice none 0 0, Value.slice none 0 0] := by kernel_rfl
theorem tsz58 : tsz Tryd.prog 58 = 1 := by kernel_rfl
theorem inf58 : (Tryd.prog.info? 58).isSome = true := by kernel_rfl
theorem agg58 : aggO Tryd.prog 58 = some false := by kernel_rfl
theorem ifc58 : isIface Tryd.prog 58 = some false := by kernel_rfl
theorem tce58 : tce Tryd.prog 58 = [6] := by kernel_rfl
theorem zvl58 : zvals Tryd.prog 58 = some [.sc (Value.slice none 0 0)] := by kernel_rfl
theorem zfl58 : zflat Tryd.prog 58 = some (.sc (Value.slice none 0 0)) := by kernel_rfl
theorem tel58 : tel Tryd.prog 58 = some 48 := by kernel_rfl
theorem tsl58 : tslice Tryd.prog 58 = true := by kernel_rfl
theorem tap58 : tapp Tryd.prog 58 = some 48 := by kernel_rfl
theorem tst58 : tstr Tryd.prog 58 = false := by kernel_rfl
theorem tsz65 : tsz Tryd.prog 65 = 1 := by kernel_rfl
theorem inf65 : (Tryd.prog.info? 65).isSome = true := by kernel_rfl
theorem agg65 : aggO Tryd.prog 65 = some false := by kernel_rfl
theorem ifc65 : isIface Tryd.prog 65 = some false := by kernel_rfl
theorem tce65 : tce Tryd.prog 65 = [0] := by kernel_rfl
theorem zvl65 : zvals Tryd.prog 65 = some [.sc (Value.pointer none)] := by kernel_rfl
theorem zfl65 : zflat Tryd.prog 65 = some (.sc (Value.pointer none)) := by kernel_rfl
theorem tpt65 : isPtr Tryd.prog 65 = true := by kernel_rfl
theorem tsz69 : tsz Tryd.prog 69 = 1 := by kernel_rfl
theorem inf69 : (Tryd.prog.info? 69).isSome = true := by kernel_rfl
theorem agg69 : aggO Tryd.prog 69 = some false := by kernel_rfl
theorem ifc69 : isIface Tryd.prog 69 = some false := by kernel_rfl
theorem tce69 : tce Tryd.prog 69 = [1] := by kernel_rfl
theorem zvl69 : zvals Tryd.prog 69 = some [.sc (Value.slice none 0 0)] := by kernel_rfl
theorem zfl69 : zflat Tryd.prog 69 = some (.sc (Value.slice none 0 0)) := by kernel_rfl
theorem tel69 : tel Tryd.prog 69 = some 71 := by kernel_rfl
theorem tsl69 : tslice Tryd.prog 69 = true := by kernel_rfl
theorem tap69 : tapp Tryd.prog 69 = some 71 := by kernel_rfl
theorem tst69 : tstr Tryd.prog 69 = false := by kernel_rfl
theorem tsz71 : tsz Tryd.prog 71 = 1 := by kernel_rfl
theorem inf71 : (Tryd.prog.info? 71).isSome = true := by kernel_rfl
theorem agg71 : aggO Tryd.prog 71 = some false := by kernel_rfl
theorem ifc71 : isIface Tryd.prog 71 = some false := by kernel_rfl
theorem tce71 : tce Tryd.prog 71 = [0] := by kernel_rfl
theorem zvl71 : zvals Tryd.prog 71 = some [.sc (Value.pointer none)] := by kernel_rfl
theorem zfl71 : zflat Tryd.prog 71 = some (.sc (Value.pointer none)) := by kernel_rfl
theorem tpt71 : isPtr Tryd.prog 71 = true := by kernel_rfl
theorem tsz75 : tsz Tryd.prog 75 = 8 := by kernel_rfl
theorem inf75 : (Tryd.prog.info? 75).isSome = true := by kernel_rfl
theorem agg75 : aggO Tryd.prog 75 = some true := by kernel_rfl
theorem ifc75 : isIface Tryd.prog 75 = some false := by kernel_rfl
theorem tce75 : tce Tryd.prog 75 = [0, 0, 0, 0, 0, 0, 0, 0] := by kernel_rfl
theorem zvl75 : zvals Tryd.prog 75 = some [.sc (Value.bool false), .sc (Value.bool false), .sc (Value.bool false), .sc (Value.bool false), .sc (Value.bool false), .sc (Value.bool false), .sc (Value.bool false), .sc (Value.bool false)] := by kernel_rfl
theorem zfl75 : zflat Tryd.prog 75 = some (.agg [.sc (Value.bool false), .sc (Value.bool false), .sc (Value.bool false), .sc (Value.bool false), .sc (Value.bool false), .sc (Value.bool false), .sc (Value.bool false), .sc (Value.bool false)]) := by kernel_rfl
theorem tel75 : tel Tryd.prog 75 = none := by kernel_rfl
theorem tar75 : tarr Tryd.prog 75 = some (8, 4) := by kernel_rfl
theorem tsz96 : tsz Tryd.prog 96 = 2 := by kernel_rfl
theorem inf96 : (Tryd.prog.info? 96).isSome = true := by kernel_rfl
theorem agg96 : aggO Tryd.prog 96 = some true := by kernel_rfl
theorem ifc96 : isIface Tryd.prog 96 = some false := by kernel_rfl
theorem tce96 : tce Tryd.prog 96 = [1, 0] := by kernel_rfl
theorem zvl96 : zvals Tryd.prog 96 = some [.sc (Value.slice none 0 0), .sc (Value.int IntKind.i64 0)] := by kernel_rfl
theorem zfl96 : zflat Tryd.prog 96 = some (.agg [.sc (Value.slice none 0 0), .sc (Value.int IntKind.i64 0)]) := by kernel_rfl
theorem tfo96_0 : tfo Tryd.prog 96 0 = some (0, 22) := by kernel_rfl
theorem tfo96_1 : tfo Tryd.prog 96 1 = some (1, 3) := by kernel_rfl
theorem tfl96 : tflds Tryd.prog 96 = true := by kernel_rfl
theorem tze96 : tzero Tryd.prog 96 = some [Value.slice none 0 0, Value.int IntKind.i64 0] := by kernel_rfl
theorem tsz99 : tsz Tryd.prog 99 = 7 := by kernel_rfl
theorem inf99 : (Tryd.prog.info? 99).isSome = true := by kernel_rfl
theorem agg99 : aggO Tryd.prog 99 = some true := by kernel_rfl
theorem ifc99 : isIface Tryd.prog 99 = some false := by kernel_rfl
theorem tce99 : tce Tryd.prog 99 = [0, 0, 0, 0, 0, 0, 0] := by kernel_rfl
theorem zvl99 : zvals Tryd.prog 99 = some [.sc (Value.int IntKind.i64 0), .sc (Value.int IntKind.i64 0), .sc (Value.int IntKind.i64 0), .sc (Value.int IntKind.i64 0), .sc (Value.int IntKind.i64 0), .sc (Value.int IntKind.i64 0), .sc (Value.int IntKind.i64 0)] := by kernel_rfl
theorem zfl99 : zflat Tryd.prog 99 = some (.agg [.sc (Value.int IntKind.i64 0), .sc (Value.int IntKind.i64 0), .sc (Value.int IntKind.i64 0), .sc (Value.int IntKind.i64 0), .sc (Value.int IntKind.i64 0), .sc (Value.int IntKind.i64 0), .sc (Value.int IntKind.i64 0)]) := by kernel_rfl
theorem tel99 : tel Tryd.prog 99 = none := by kernel_rfl
theorem tar99 : tarr Tryd.prog 99 = some (7, 3) := by kernel_rfl
theorem tsz101 : tsz Tryd.prog 101 = 4 := by kernel_rfl
theorem inf101 : (Tryd.prog.info? 101).isSome = true := by kernel_rfl
theorem agg101 : aggO Tryd.prog 101 = some true := by kernel_rfl
theorem ifc101 : isIface Tryd.prog 101 = some false := by kernel_rfl
theorem tce101 : tce Tryd.prog 101 = [0, 0, 0, 0] := by kernel_rfl
theorem zvl101 : zvals Tryd.prog 101 = some [.sc (Value.int IntKind.i64 0), .sc (Value.int IntKind.i64 0), .sc (Value.int IntKind.i64 0), .sc (Value.int IntKind.i64 0)] := by kernel_rfl
theorem zfl101 : zflat Tryd.prog 101 = some (.agg [.sc (Value.int IntKind.i64 0), .sc (Value.int IntKind.i64 0), .sc (Value.int IntKind.i64 0), .sc (Value.int IntKind.i64 0)]) := by kernel_rfl
theorem tfo101_0 : tfo Tryd.prog 101 0 = some (0, 3) := by kernel_rfl
theorem tfo101_1 : tfo Tryd.prog 101 1 = some (1, 3) := by kernel_rfl
theorem tfo101_2 : tfo Tryd.prog 101 2 = some (2, 3) := by kernel_rfl
theorem tfo101_3 : tfo Tryd.prog 101 3 = some (3, 3) := by kernel_rfl
theorem tfl101 : tflds Tryd.prog 101 = true := by kernel_rfl
theorem tze101 : tzero Tryd.prog 101 = some [Value.int IntKind.i64 0, Value.int IntKind.i64 0, Value.int IntKind.i64 0, Value.int IntKind.i64 0] := by kernel_rfl
theorem tin101 : tints Tryd.prog 101 = some 4 := by kernel_rfl
theorem tsz104 : tsz Tryd.prog 104 = 2 := by kernel_rfl
theorem inf104 : (Tryd.prog.info? 104).isSome = true := by kernel_rfl
theorem agg104 : aggO Tryd.prog 104 = some true := by kernel_rfl
theorem ifc104 : isIface Tryd.prog 104 = some false := by kernel_rfl
theorem tce104 : tce Tryd.prog 104 = [0, 0] := by kernel_rfl
theorem zvl104 : zvals Tryd.prog 104 = some [.sc (Value.int IntKind.i64 0), .sc (Value.int IntKind.i64 0)] := by kernel_rfl
theorem zfl104 : zflat Tryd.prog 104 = some (.agg [.sc (Value.int IntKind.i64 0), .sc (Value.int IntKind.i64 0)]) := by kernel_rfl
theorem tfo104_0 : tfo Tryd.prog 104 0 = some (0, 3) := by kernel_rfl
theorem tfo104_1 : tfo Tryd.prog 104 1 = some (1, 3) := by kernel_rfl
theorem tfl104 : tflds Tryd.prog 104 = true := by kernel_rfl
theorem tze104 : tzero Tryd.prog 104 = some [Value.int IntKind.i64 0, Value.int IntKind.i64 0] := by kernel_rfl
theorem tin104 : tints Tryd.prog 104 = some 2 := by kernel_rfl
theorem tsz107 : tsz Tryd.prog 107 = 1 := by kernel_rfl
theorem inf107 : (Tryd.prog.info? 107).isSome = true := by kernel_rfl
theorem agg107 : aggO Tryd.prog 107 = some false := by kernel_rfl
theorem ifc107 : isIface Tryd.prog 107 = some true := by kernel_rfl
theorem tce107 : tce Tryd.prog 107 = [0] := by kernel_rfl
theorem zvl107 : zvals Tryd.prog 107 = some [.sc (Value.nilIface)] := by kernel_rfl
theorem tif107 : isIf Tryd.prog 107 = true := by kernel_rfl
theorem tsz112 : tsz Tryd.prog 112 = 43 := by kernel_rfl
theorem inf112 : (Tryd.prog.info? 112).isSome = true := by kernel_rfl
theorem agg112 : aggO Tryd.prog 112 = some true := by kernel_rfl
theorem ifc112 : isIface Tryd.prog 112 = some false := by kernel_rfl
theorem tce112 : tce Tryd.prog 112 = [0, 0, 0, 0, 0, 0, 0, 0, 0, 0, 0, 0, 0, 0, 0, 0, 0, 0, 0, 0, 0, 0, 0, 0, 0, 0, 0, 0, 0, 0, 0, 0, 0, 0, 0, 0, 0, 0, 0, 0, 0, 0, 0] := by kernel_rfl
theorem zvl112 : zvals Tryd.prog 112 = some [.sc (Value.int IntKind.i64 0), .sc (Value.int IntKind.i64 0), .sc (Value.pointer none), .sc (Value.bool false), .sc (Value.bool false), .sc (Value.bool false), .sc (Value.bool false), .sc (Value.bool false), .sc (Value.bool false), .sc (Value.bool false), .sc (Value.bool false), .sc (Value.bool false), .sc (Value.bool false), .sc (Value.bool false), .sc (Value.bool false), .sc (Value.bool false), .sc (Value.bool false), .sc (Value.bool false), .sc (Value.bool false), .sc (Value.bool false), .sc (Value.bool false), .sc (Value.bool false), .sc (Value.bool false), .sc (Value.bool false), .sc (Value.bool false), .sc (Value.bool false), .sc (Value.bool false), .sc (Value.bool false), .sc (Value.bool false), .sc (Value.bool false), .sc (Value.bool false), .sc (Value.bool false), .sc (Value.bool false), .sc (Value.bool false), .sc (Value.bool false), .sc (Value.bool false), .sc (Value.bool false), .sc (Value.bool false), .sc (Value.bool false), .sc (Value.bool false), .sc (Value.bool false), .sc (Value.bool false), .sc (Value.bool false)] := by kernel_rfl
theorem zfl112 : zflat Tryd.prog 112 = some (.agg [.sc (Value.int IntKind.i64 0), .sc (Value.int IntKind.i64 0), .sc (Value.pointer none), .sc (Value.bool false), .sc (Value.bool false), .sc (Value.bool false), .sc (Value.bool false), .sc (Value.bool false), .sc (Value.bool false), .sc (Value.bool false), .sc (Value.bool false), .sc (Value.bool false), .sc (Value.bool false), .sc (Value.bool false), .sc (Value.bool false), .sc (Value.bool false), .sc (Value.bool false), .sc (Value.bool false), .sc (Value.bool false), .sc (Value.bool false), .sc (Value.bool false), .sc (Value.bool false), .sc (Value.bool false), .sc (Value.bool false), .sc (Value.bool false), .sc (Value.bool false), .sc (Value.bool false), .sc (Value.bool false), .sc (Value.bool false), .sc (Value.bool false), .sc (Value.bool false), .sc (Value.bool false), .sc (Value.bool false), .sc (Value.bool false), .sc (Value.bool false), .sc (Value.bool false), .sc (Value.bool false), .sc (Value.bool false), .sc (Value.bool false), .sc (Value.bool false), .sc (Value.bool false), .sc (Value.bool false), .sc (Value.bool false)]) := by kernel_rfl
theorem tfo112_0 : tfo Tryd.prog 112 0 = some (0, 3) := by kernel_rfl
theorem tfo112_1 : tfo Tryd.prog 112 1 = some (1, 3) := by kernel_rfl
theorem tfo112_2 : tfo Tryd.prog 112 2 = some (2, 71) := by kernel_rfl
theorem tfo112_3 : tfo Tryd.prog 112 3 = some (3, 75) := by kernel_rfl
theorem tfo112_4 : tfo Tryd.prog 112 4 = some (11, 75) := by kernel_rfl
theorem tfo112_5 : tfo Tryd.prog 112 5 = some (19, 75) := by kernel_rfl
theorem tfo112_6 : tfo Tryd.prog 112 6 = some (27, 75) := by kernel_rfl
theorem tfo112_7 : tfo Tryd.prog 112 7 = some (35, 75) := by kernel_rfl
theorem tfl112 : tflds Tryd.prog 112 = true := by kernel_rfl
theorem tze112 : tzero Tryd.prog 112 = some [Value.int IntKind.i64 0, Value.int IntKind.i64 0, Value.pointer none, Value.bool false, Value.bool false, Value.bool false, Value.bool false, Value.bool false, Value.bool false, Value.bool false, Value.bool false, Value.bool false, Value.bool false, Value.bool false, Value.bool false, Value.bool false, Value.bool false, Value.bool false, Value.bool false, Value.bool false, Value.bool false, Value.bool false, Value.bool false, Value.bool false, Value.bool false, Value.bool false, Value.bool false, Value.bool false, Value.bool false, Value.bool false, Value.bool false, Value.bool false, Value.bool false, Value.bool false, Value.bool false, Value.bool false, Value.bool false, Value.bool false, Value.bool false, Value.bool false, Value.bool false, Value.bool false, Value.bool false] := by kernel_rfl
theorem tsz114 : tsz Tryd.prog 114 = 1 := by kernel_rfl
theorem inf114 : (Tryd.prog.info? 114).isSome = true := by kernel_rfl
theorem agg114 : aggO Tryd.prog 114 = some false := by kernel_rfl
theorem ifc114 : isIface Tryd.prog 114 = some false := by kernel_rfl
theorem tce114 : tce Tryd.prog 114 = [4] := by kernel_rfl
theorem zvl114 : zvals Tryd.prog 114 = some [.sc (Value.slice none 0 0)] := by kernel_rfl
theorem zfl114 : zflat Tryd.prog 114 = some (.sc (Value.slice none 0 0)) := by kernel_rfl
theorem tel114 : tel Tryd.prog 114 = some 157 := by kernel_rfl
theorem tsl114 : tslice Tryd.prog 114 = true := by kernel_rfl
theorem tap114 : tapp Tryd.prog 114 = some 157 := by kernel_rfl
theorem tst114 : tstr Tryd.prog 114 = false := by kernel_rfl
theorem tsz116 : tsz Tryd.prog 116 = 4 := by kernel_rfl
theorem inf116 : (Tryd.prog.info? 116).isSome = true := by kernel_rfl
theorem agg116 : aggO Tryd.prog 116 = some true := by kernel_rfl
theorem ifc116 : isIface Tryd.prog 116 = some false := by kernel_rfl
theorem tce116 : tce Tryd.prog 116 = [0, 0, 1, 4] := by kernel_rfl
theorem zvl116 : zvals Tryd.prog 116 = some [.sc (Value.int IntKind.i64 0), .sc (Value.int IntKind.i64 0), .sc (Value.slice none 0 0), .sc (Value.slice none 0 0)] := by kernel_rfl
theorem zfl116 : zflat Tryd.prog 116 = some (.agg [.sc (Value.int IntKind.i64 0), .sc (Value.int IntKind.i64 0), .sc (Value.slice none 0 0), .sc (Value.slice none 0 0)]) := by kernel_rfl
theorem tfo116_0 : tfo Tryd.prog 116 0 = some (0, 3) := by kernel_rfl
theorem tfo116_1 : tfo Tryd.prog 116 1 = some (1, 3) := by kernel_rfl
theorem tfo116_2 : tfo Tryd.prog 116 2 = some (2, 34) := by kernel_rfl
theorem tfo116_3 : tfo Tryd.prog 116 3 = some (3, 114) := by kernel_rfl
theorem tfl116 : tflds Tryd.prog 116 = true := by kernel_rfl
theorem tze116 : tzero Tryd.prog 116 = some [Value.int IntKind.i64 0, Value.int IntKind.i64 0, Value.slice none 0 0, Value.slice none 0 0] := by kernel_rfl
theorem tsz123 : tsz Tryd.prog 123 = 21 := by kernel_rfl
theorem inf123 : (Tryd.prog.info? 123).isSome = true := by kernel_rfl
theorem agg123 : aggO Tryd.prog 123 = some true := by kernel_rfl
theorem ifc123 : isIface Tryd.prog 123 = some false := by kernel_rfl
theorem tce123 : tce Tryd.prog 123 = [0, 0, 0, 0, 0, 0, 0, 0, 0, 0, 0, 0, 0, 0, 0, 0, 0, 0, 0, 0, 0] := by kernel_rfl
theorem zvl123 : zvals Tryd.prog 123 = some [.sc (Value.int IntKind.i64 0), .sc (Value.int IntKind.i64 0), .sc (Value.int IntKind.i64 0), .sc (Value.int IntKind.i64 0), .sc (Value.int IntKind.i64 0), .sc (Value.int IntKind.i64 0), .sc (Value.int IntKind.i64 0), .sc (Value.int IntKind.i64 0), .sc (Value.int IntKind.i64 0), .sc (Value.int IntKind.i64 0), .sc (Value.int IntKind.i64 0), .sc (Value.int IntKind.i64 0), .sc (Value.int IntKind.i64 0), .sc (Value.int IntKind.i64 0), .sc (Value.int IntKind.i64 0), .sc (Value.int IntKind.i64 0), .sc (Value.int IntKind.i64 0), .sc (Value.int IntKind.i64 0), .sc (Value.int IntKind.i64 0), .sc (Value.int IntKind.i64 0), .sc (Value.int IntKind.i64 0)] := by kernel_rfl
theorem zfl123 : zflat Tryd.prog 123 = some (.agg [.sc (Value.int IntKind.i64 0), .sc (Value.int IntKind.i64 0), .sc (Value.int IntKind.i64 0), .sc (Value.int IntKind.i64 0), .sc (Value.int IntKind.i64 0), .sc (Value.int IntKind.i64 0), .sc (Value.int IntKind.i64 0), .sc (Value.int IntKind.i64 0), .sc (Value.int IntKind.i64 0), .sc (Value.int IntKind.i64 0), .sc (Value.int IntKind.i64 0), .sc (Value.int IntKind.i64 0), .sc (Value.int IntKind.i64 0), .sc (Value.int IntKind.i64 0), .sc (Value.int IntKind.i64 0), .sc (Value.int IntKind.i64 0), .sc (Value.int IntKind.i64 0), .sc (Value.int IntKind.i64 0), .sc (Value.int IntKind.i64 0), .sc (Value.int IntKind.i64 0), .sc (Value.int IntKind.i64 0)]) := by kernel_rfl
theorem tel123 : tel Tryd.prog 123 = none := by kernel_rfl
theorem tar123 : tarr Tryd.prog 123 = some (21, 3) := by kernel_rfl
theorem tsz125 : tsz Tryd.prog 125 = 5 := by kernel_rfl
theorem inf125 : (Tryd.prog.info? 125).isSome = true := by kernel_rfl
theorem agg125 : aggO Tryd.prog 125 = some true := by kernel_rfl
theorem ifc125 : isIface Tryd.prog 125 = some false := by kernel_rfl
theorem tce125 : tce Tryd.prog 125 = [0, 0, 0, 0, 0] := by kernel_rfl
theorem zvl125 : zvals Tryd.prog 125 = some [.sc (Value.int IntKind.i64 0), .sc (Value.int IntKind.i64 0), .sc (Value.int IntKind.i64 0), .sc (Value.int IntKind.i64 0), .sc (Value.int IntKind.i64 0)] := by kernel_rfl
theorem zfl125 : zflat Tryd.prog 125 = some (.agg [.sc (Value.int IntKind.i64 0), .sc (Value.int IntKind.i64 0), .sc (Value.int IntKind.i64 0), .sc (Value.int IntKind.i64 0), .sc (Value.int IntKind.i64 0)]) := by kernel_rfl
theorem tel125 : tel Tryd.prog 125 = none := by kernel_rfl
theorem tar125 : tarr Tryd.prog 125 = some (5, 3) := by kernel_rfl
theorem tsz127 : tsz Tryd.prog 127 = 1 := by kernel_rfl
theorem inf127 : (Tryd.prog.info? 127).isSome = true := by kernel_rfl
theorem agg127 : aggO Tryd.prog 127 = some true := by kernel_rfl
theorem ifc127 : isIface Tryd.prog 127 = some false := by kernel_rfl
theorem tce127 : tce Tryd.prog 127 = [0] := by kernel_rfl
theorem zvl127 : zvals Tryd.prog 127 = some [.sc (Value.int IntKind.i64 0)] := by kernel_rfl
theorem zfl127 : zflat Tryd.prog 127 = some (.agg [.sc (Value.int IntKind.i64 0)]) := by kernel_rfl
theorem tfo127_0 : tfo Tryd.prog 127 0 = some (0, 3) := by kernel_rfl
theorem tfl127 : tflds Tryd.prog 127 = true := by kernel_rfl
theorem tze127 : tzero Tryd.prog 127 = some [Value.int IntKind.i64 0] := by kernel_rfl
theorem tin127 : tints Tryd.prog 127 = some 1 := by kernel_rfl
theorem tsz129 : tsz Tryd.prog 129 = 1 := by kernel_rfl
theorem inf129 : (Tryd.prog.info? 129).isSome = true := by kernel_rfl
theorem agg129 : aggO Tryd.prog 129 = some true := by kernel_rfl
theorem ifc129 : isIface Tryd.prog 129 = some false := by kernel_rfl
theorem tce129 : tce Tryd.prog 129 = [0] := by kernel_rfl
theorem zvl129 : zvals Tryd.prog 129 = some [.sc (Value.int IntKind.i64 0)] := by kernel_rfl
theorem zfl129 : zflat Tryd.prog 129 = some (.agg [.sc (Value.int IntKind.i64 0)]) := by kernel_rfl
theorem tfo129_0 : tfo Tryd.prog 129 0 = some (0, 3) := by kernel_rfl
theorem tfl129 : tflds Tryd.prog 129 = true := by kernel_rfl
theorem tze129 : tzero Tryd.prog 129 = some [Value.int IntKind.i64 0] := by kernel_rfl
theorem tin129 : tints Tryd.prog 129 = some 1 := by kernel_rfl
theorem tsz131 : tsz Tryd.prog 131 = 2 := by kernel_rfl
theorem inf131 : (Tryd.prog.info? 131).isSome = true := by kernel_rfl
theorem agg131 : aggO Tryd.prog 131 = some true := by kernel_rfl
theorem ifc131 : isIface Tryd.prog 131 = some false := by kernel_rfl
theorem tce131 : tce Tryd.prog 131 = [0, 0] := by kernel_rfl
theorem zvl131 : zvals Tryd.prog 131 = some [.sc (Value.int IntKind.i64 0), .sc (Value.int IntKind.i64 0)] := by kernel_rfl
theorem zfl131 : zflat Tryd.prog 131 = some (.agg [.sc (Value.int IntKind.i64 0), .sc (Value.int IntKind.i64 0)]) := by kernel_rfl
theorem tfo131_0 : tfo Tryd.prog 131 0 = some (0, 3) := by kernel_rfl
theorem tfo131_1 : tfo Tryd.prog 131 1 = some (1, 3) := by kernel_rfl
theorem tfl131 : tflds Tryd.prog 131 = true := by kernel_rfl
theorem tze131 : tzero Tryd.prog 131 = some [Value.int IntKind.i64 0, Value.int IntKind.i64 0] := by kernel_rfl
theorem tin131 : tints Tryd.prog 131 = some 2 := by kernel_rfl
theorem tsz133 : tsz Tryd.prog 133 = 2 := by kernel_rfl
theorem inf133 : (Tryd.prog.info? 133).isSome = true := by kernel_rfl
theorem agg133 : aggO Tryd.prog 133 = some true := by kernel_rfl
theorem ifc133 : isIface Tryd.prog 133 = some false := by kernel_rfl
theorem tce133 : tce Tryd.prog 133 = [0, 0] := by kernel_rfl
theorem zvl133 : zvals Tryd.prog 133 = some [.sc (Value.int IntKind.i64 0), .sc (Value.int IntKind.i64 0)] := by kernel_rfl
theorem zfl133 : zflat Tryd.prog 133 = some (.agg [.sc (Value.int IntKind.i64 0), .sc (Value.int IntKind.i64 0)]) := by kernel_rfl
theorem tfo133_0 : tfo Tryd.prog 133 0 = some (0, 3) := by kernel_rfl
theorem tfo133_1 : tfo Tryd.prog 133 1 = some (1, 3) := by kernel_rfl
theorem tfl133 : tflds Tryd.prog 133 = true := by kernel_rfl
theorem tze133 : tzero Tryd.prog 133 = some [Value.int IntKind.i64 0, Value.int IntKind.i64 0] := by kernel_rfl
theorem tin133 : tints Tryd.prog 133 = some 2 := by kernel_rfl
theorem tsz135 : tsz Tryd.prog 135 = 2 := by kernel_rfl
theorem inf135 : (Tryd.prog.info? 135).isSome = true := by kernel_rfl
theorem agg135 : aggO Tryd.prog 135 = some true := by kernel_rfl
theorem ifc135 : isIface Tryd.prog 135 = some false := by kernel_rfl
theorem tce135 : tce Tryd.prog 135 = [0, 0] := by kernel_rfl
theorem zvl135 : zvals Tryd.prog 135 = some [.sc (Value.int IntKind.i64 0), .sc (Value.int IntKind.i64 0)] := by kernel_rfl
theorem zfl135 : zflat Tryd.prog 135 = some (.agg [.sc (Value.int IntKind.i64 0), .sc (Value.int IntKind.i64 0)]) := by kernel_rfl
theorem tfo135_0 : tfo Tryd.prog 135 0 = some (0, 3) := by kernel_rfl
theorem tfo135_1 : tfo Tryd.prog 135 1 = some (1, 3) := by kernel_rfl
theorem tfl135 : tflds Tryd.prog 135 = true := by kernel_rfl
theorem tze135 : tzero Tryd.prog 135 = some [Value.int IntKind.i64 0, Value.int IntKind.i64 0] := by kernel_rfl
theorem tin135 : tints Tryd.prog 135 = some 2 := by kernel_rfl
theorem tsz137 : tsz Tryd.prog 137 = 1 := by kernel_rfl
theorem inf137 : (Tryd.prog.info? 137).isSome = true := by kernel_rfl
theorem agg137 : aggO Tryd.prog 137 = some true := by kernel_rfl
theorem ifc137 : isIface Tryd.prog 137 = some false := by kernel_rfl
theorem tce137 : tce Tryd.prog 137 = [0] := by kernel_rfl
theorem zvl137 : zvals Tryd.prog 137 = some [.sc (Value.int IntKind.i64 0)] := by kernel_rfl
theorem zfl137 : zflat Tryd.prog 137 = some (.agg [.sc (Value.int IntKind.i64 0)]) := by kernel_rfl
theorem tfo137_0 : tfo Tryd.prog 137 0 = some (0, 3) := by kernel_rfl
theorem tfl137 : tflds Tryd.prog 137 = true := by kernel_rfl
theorem tze137 : tzero Tryd.prog 137 = some [Value.int IntKind.i64 0] := by kernel_rfl
theorem tin137 : tints Tryd.prog 137 = some 1 := by kernel_rfl
theorem tsz138 : tsz Tryd.prog 138 = 1 := by kernel_rfl
theorem inf138 : (Tryd.prog.info? 138).isSome = true := by kernel_rfl
theorem agg138 : aggO Tryd.prog 138 = some true := by kernel_rfl
theorem ifc138 : isIface Tryd.prog 138 = some false := by kernel_rfl
theorem tce138 : tce Tryd.prog 138 = [0] := by kernel_rfl
theorem zvl138 : zvals Tryd.prog 138 = some [.sc (Value.int IntKind.i64 0)] := by kernel_rfl
theorem zfl138 : zflat Tryd.prog 138 = some (.agg [.sc (Value.int IntKind.i64 0)]) := by kernel_rfl
theorem tfo138_0 : tfo Tryd.prog 138 0 = some (0, 3) := by kernel_rfl
theorem tfl138 : tflds Tryd.prog 138 = true := by kernel_rfl
theorem tze138 : tzero Tryd.prog 138 = some [Value.int IntKind.i64 0] := by kernel_rfl
theorem tin138 : tints Tryd.prog 138 = some 1 := by kernel_rfl
theorem tsz140 : tsz Tryd.prog 140 = 0 := by kernel_rfl
theorem inf140 : (Tryd.prog.info? 140).isSome = true := by kernel_rfl
theorem agg140 : aggO Tryd.prog 140 = some true := by kernel_rfl
theorem ifc140 : isIface Tryd.prog 140 = some false := by kernel_rfl
theorem tce140 : tce Tryd.prog 140 = [] := by kernel_rfl
theorem zvl140 : zvals Tryd.prog 140 = some [] := by kernel_rfl
theorem zfl140 : zflat Tryd.prog 140 = some (.agg []) := by kernel_rfl
theorem tfl140 : tflds Tryd.prog 140 = true := by kernel_rfl
theorem tze140 : tzero Tryd.prog 140 = some [] := by kernel_rfl
theorem tsz141 : tsz Tryd.prog 141 = 0 := by kernel_rfl
theorem inf141 : (Tryd.prog.info? 141).isSome = true := by kernel_rfl
theorem agg141 : aggO Tryd.prog 141 = some true := by kernel_rfl
theorem ifc141 : isIface Tryd.prog 141 = some false := by kernel_rfl
theorem tce141 : tce Tryd.prog 141 = [] := by kernel_rfl
theorem zvl141 : zvals Tryd.prog 141 = some [] := by kernel_rfl
theorem zfl141 : zflat Tryd.prog 141 = some (.agg []) := by kernel_rfl
theorem tfl141 : tflds Tryd.prog 141 = true := by kernel_rfl
theorem tze141 : tzero Tryd.prog 141 = some [] := by kernel_rfl
theorem tsz157 : tsz Tryd.prog 157 = 4 := by kernel_rfl
theorem inf157 : (Tryd.prog.info? 157).isSome = true := by kernel_rfl
theorem agg157 : aggO Tryd.prog 157 = some true := by kernel_rfl
theorem ifc157 : isIface Tryd.prog 157 = some false := by kernel_rfl
theorem tce157 : tce Tryd.prog 157 = [0, 0, 0, 0] := by kernel_rfl
theorem zvl157 : zvals Tryd.prog 157 = some [.sc (Value.int IntKind.i64 0), .sc (Value.int IntKind.i64 0), .sc (Value.int IntKind.i64 0), .sc (Value.int IntKind.i64 0)] := by kernel_rfl
theorem zfl157 : zflat Tryd.prog 157 = some (.agg [.sc (Value.int IntKind.i64 0), .sc (Value.int IntKind.i64 0), .sc (Value.int IntKind.i64 0), .sc (Value.int IntKind.i64 0)]) := by kernel_rfl
theorem tfo157_0 : tfo Tryd.prog 157 0 = some (0, 3) := by kernel_rfl
theorem tfo157_1 : tfo Tryd.prog 157 1 = some (1, 3) := by kernel_rfl
theorem tfo157_2 : tfo Tryd.prog 157 2 = some (2, 3) := by kernel_rfl
theorem tfo157_3 : tfo Tryd.prog 157 3 = some (3, 3) := by kernel_rfl
theorem tfl157 : tflds Tryd.prog 157 = true := by kernel_rfl
theorem tze157 : tzero Tryd.prog 157 = some [Value.int IntKind.i64 0, Value.int IntKind.i64 0, Value.int IntKind.i64 0, Value.int IntKind.i64 0] := by kernel_rfl
theorem tin157 : tints Tryd.prog 157 = some 4 := by kernel_rfl
attribute [simp] tsz2 inf2 agg2 ifc2 tce2 zvl2 zfl2 tit2 tsz3 inf3 agg3 ifc3 tce3 zvl3 zfl3 tit3 tsz4 inf4 agg4 ifc4 tce4 zvl4 zfl4 tbo4 tsz5 inf5 agg5 ifc5 tce5 zvl5 zfl5 tit5 tsz6 inf6 agg6 ifc6 tce6 zvl6 zfl6 tit6 tsz7 inf7 agg7 ifc7 tce7 zvl7 zfl7 tfo7_0 tfo7_1 tfo7_2 tfo7_3 tfl7 tze7 tsz8 inf8 agg8 ifc8 tce8 zvl8 zfl8 tfo8_0 tfo8_1 tfo8_2 tfo8_3 tfl8 tze8 tsz21 inf21 agg21 ifc21 tce21 zvl21 zfl21 tit21 tsz22 inf22 agg22 ifc22 tce22 zvl22 zfl22 tel22 tsl22 tap22 tst22 tsz23 inf23 agg23 ifc23 tce23 zvl23 zfl23 tel23 tsl23 tap23 tst23 tsz25 inf25 agg25 ifc25 tce25 zvl25 zfl25 tfo25_0 tfl25 tze25 tsz29 inf29 agg29 ifc29 tce29 zvl29 zfl29 tfo29_0 tfo29_1 tfl29 tze29 tin29 tsz34 inf34 agg34 ifc34 tce34 zvl34 zfl34 tel34 tsl34 tap34 tst34 tsz39 inf39 agg39 ifc39 tce39 zvl39 zfl39 tel39 tsl39 tap39 tst39 tsz41 inf41 agg41 ifc41 tce41 zvl41 zfl41 tfo41_0 tfl41 tze41 tsz46 inf46 agg46 ifc46 tce46 zvl46 zfl46 tel46 tsl46 tap46 tst46 tsz48 inf48 agg48 ifc48 tce48 zvl48 zfl48 tfo48_0 tfo48_1 tfo48_2 tfo48_3 tfo48_4 tfo48_5 tfl48 tze48 tsz50 inf50 agg50 ifc50 tce50 zvl50 zfl50 tel50 tsl50 tap50 tst50 tsz52 inf52 agg52 ifc52 tce52 zvl52 zfl52 tfo52_0 tfo52_1 tfo52_2 tfo52_3 tfl52 tze52 tsz58 inf58 agg58 ifc58 tce58 zvl58 zfl58 tel58 tsl58 tap58 tst58 tsz65 inf65 agg65 ifc65 tce65 zvl65 zfl65 tpt65 tsz69 inf69 agg69 ifc69 tce69 zvl69 zfl69 tel69 tsl69 tap69 tst69 tsz71 inf71 agg71 ifc71 tce71 zvl71 zfl71 tpt71 tsz75 inf75 agg75 ifc75 tce75 zvl75 zfl75 tel75 tar75 tsz96 inf96 agg96 ifc96 tce96 zvl96 zfl96 tfo96_0 tfo96_1 tfl96 tze96 tsz99 inf99 agg99 ifc99 tce99 zvl99 zfl99 tel99 tar99 tsz101 inf101 agg101 ifc101 tce101 zvl101 zfl101 tfo101_0 tfo101_1 tfo101_2 tfo101_3 tfl101 tze101 tin101 tsz104 inf104 agg104 ifc104 tce104 zvl104 zfl104 tfo104_0 tfo104_1 tfl104 tze104 tin104 tsz107 inf107 agg107 ifc107 tce107 zvl107 tif107 tsz112 inf112 agg112 ifc112 tce112 zvl112 zfl112 tfo112_0 tfo112_1 tfo112_2 tfo112_3 tfo112_4 tfo112_5 tfo112_6 tfo112_7 tfl112 tze112 tsz114 inf114 agg114 ifc114 tce114 zvl114 zfl114 tel114 tsl114 tap114 tst114 tsz116 inf116 agg116 ifc116 tce116 zvl116 zfl116 tfo116_0 tfo116_1 tfo116_2 tfo116_3 tfl116 tze116 tsz123 inf123 agg123 ifc123 tce123 zvl123 zfl123 tel123 tar123 tsz125 inf125 agg125 ifc125 tce125 zvl125 zfl125 tel125 tar125 tsz127 inf127 agg127 ifc127 tce127 zvl127 zfl127 tfo127_0 tfl127 tze127 tin127 tsz129 inf129 agg129 ifc129 tce129 zvl129 zfl129 tfo129_0 tfl129 tze129 tin129 tsz131 inf131 agg131 ifc131 tce131 zvl131 zfl131 tfo131_0 tfo131_1 tfl131 tze131 tin131 tsz133 inf133 agg133 ifc133 tce133 zvl133 zfl133 tfo133_0 tfo133_1 tfl133 tze133 tin133 tsz135 inf135 agg135 ifc135 tce135 zvl135 zfl135 tfo135_0 tfo135_1 tfl135 tze135 tin135 tsz137 inf137 agg137 ifc137 tce137 zvl137 zfl137 tfo137_0 tfl137 tze137 tin137 tsz138 inf138 agg138 ifc138 tce138 zvl138 zfl138 tfo138_0 tfl138 tze138 tin138 tsz140 inf140 agg140 ifc140 tce140 zvl140 zfl140 tfl140 tze140 tsz141 inf141 agg141 ifc141 tce141 zvl141 zfl141 tfl141 tze141 tsz157 inf157 agg157 ifc157 tce157 zvl157 zfl157 tfo157_0 tfo157_1 tfo157_2 tfo157_3 tfl157 tze157 tin157
theorem mixed : Tryd.prog.follows .mixedOrders = true := by kernel_rfl
end Go.Proofs.YtmpbjmihjelhgaaDoor
end
