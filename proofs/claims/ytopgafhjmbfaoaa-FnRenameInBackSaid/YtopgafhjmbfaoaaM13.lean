/-
  Own texts, joined by mkclaim.py: Facts.
-/
import Derived.Test.YtopgafhjmbfaoaaProg
import Derived.Test.YtopgafhjmbfaoaaM07

section
/-
  The closed facts of the table of types, as the abstract machine asks for them. Printed by facts.py.
-/
namespace Go.Proofs.Ytopgafhjmbfaoaa
open Go Go.Hm Go.Proofs

theorem tsz2 : tsz Try.prog 2 = 1 := by kernel_rfl
theorem inf2 : (Try.prog.info? 2).isSome = true := by kernel_rfl
theorem agg2 : aggO Try.prog 2 = some false := by kernel_rfl
theorem ifc2 : isIface Try.prog 2 = some false := by kernel_rfl
theorem tce2 : tce Try.prog 2 = [0] := by kernel_rfl
theorem zvl2 : zvals Try.prog 2 = some [.sc (Value.int IntKind.i64 0)] := by kernel_rfl
theorem zfl2 : zflat Try.prog 2 = some (.sc (Value.int IntKind.i64 0)) := by kernel_rfl
theorem tit2 : tint Try.prog 2 = some .i64 := by kernel_rfl
theorem tsz3 : tsz Try.prog 3 = 1 := by kernel_rfl
theorem inf3 : (Try.prog.info? 3).isSome = true := by kernel_rfl
theorem agg3 : aggO Try.prog 3 = some false := by kernel_rfl
theorem ifc3 : isIface Try.prog 3 = some false := by kernel_rfl
theorem tce3 : tce Try.prog 3 = [0] := by kernel_rfl
theorem zvl3 : zvals Try.prog 3 = some [.sc (Value.int IntKind.i64 0)] := by kernel_rfl
theorem zfl3 : zflat Try.prog 3 = some (.sc (Value.int IntKind.i64 0)) := by kernel_rfl
theorem tit3 : tint Try.prog 3 = some .i64 := by kernel_rfl
theorem tsz4 : tsz Try.prog 4 = 1 := by kernel_rfl
theorem inf4 : (Try.prog.info? 4).isSome = true := by kernel_rfl
theorem agg4 : aggO Try.prog 4 = some false := by kernel_rfl
theorem ifc4 : isIface Try.prog 4 = some false := by kernel_rfl
theorem tce4 : tce Try.prog 4 = [0] := by kernel_rfl
theorem zvl4 : zvals Try.prog 4 = some [.sc (Value.bool false)] := by kernel_rfl
theorem zfl4 : zflat Try.prog 4 = some (.sc (Value.bool false)) := by kernel_rfl
theorem tbo4 : tbool Try.prog 4 = true := by kernel_rfl
theorem tsz5 : tsz Try.prog 5 = 1 := by kernel_rfl
theorem inf5 : (Try.prog.info? 5).isSome = true := by kernel_rfl
theorem agg5 : aggO Try.prog 5 = some false := by kernel_rfl
theorem ifc5 : isIface Try.prog 5 = some false := by kernel_rfl
theorem tce5 : tce Try.prog 5 = [0] := by kernel_rfl
theorem zvl5 : zvals Try.prog 5 = some [.sc (Value.int IntKind.u8 0)] := by kernel_rfl
theorem zfl5 : zflat Try.prog 5 = some (.sc (Value.int IntKind.u8 0)) := by kernel_rfl
theorem tit5 : tint Try.prog 5 = some .u8 := by kernel_rfl
theorem tsz6 : tsz Try.prog 6 = 1 := by kernel_rfl
theorem inf6 : (Try.prog.info? 6).isSome = true := by kernel_rfl
theorem agg6 : aggO Try.prog 6 = some false := by kernel_rfl
theorem ifc6 : isIface Try.prog 6 = some false := by kernel_rfl
theorem tce6 : tce Try.prog 6 = [0] := by kernel_rfl
theorem zvl6 : zvals Try.prog 6 = some [.sc (Value.int IntKind.u8 0)] := by kernel_rfl
theorem zfl6 : zflat Try.prog 6 = some (.sc (Value.int IntKind.u8 0)) := by kernel_rfl
theorem tit6 : tint Try.prog 6 = some .u8 := by kernel_rfl
theorem tsz7 : tsz Try.prog 7 = 4 := by kernel_rfl
theorem inf7 : (Try.prog.info? 7).isSome = true := by kernel_rfl
theorem agg7 : aggO Try.prog 7 = some true := by kernel_rfl
theorem ifc7 : isIface Try.prog 7 = some false := by kernel_rfl
theorem tce7 : tce Try.prog 7 = [0, 0, 0, 0] := by kernel_rfl
theorem zvl7 : zvals Try.prog 7 = some [.sc (Value.int IntKind.i64 0), .sc (Value.int IntKind.i64 0), .sc (Value.bool false), .sc (Value.int IntKind.u8 0)] := by kernel_rfl
theorem zfl7 : zflat Try.prog 7 = some (.agg [.sc (Value.int IntKind.i64 0), .sc (Value.int IntKind.i64 0), .sc (Value.bool false), .sc (Value.int IntKind.u8 0)]) := by kernel_rfl
theorem tfo7_0 : tfo Try.prog 7 0 = some (0, 2) := by kernel_rfl
theorem tfo7_1 : tfo Try.prog 7 1 = some (1, 3) := by kernel_rfl
theorem tfo7_2 : tfo Try.prog 7 2 = some (2, 4) := by kernel_rfl
theorem tfo7_3 : tfo Try.prog 7 3 = some (3, 6) := by kernel_rfl
theorem tfl7 : tflds Try.prog 7 = true := by kernel_rfl
theorem tze7 : tzero Try.prog 7 = some [Value.int IntKind.i64 0, Value.int IntKind.i64 0, Value.bool false, Value.int IntKind.u8 0] := by kernel_rfl
theorem tsz8 : tsz Try.prog 8 = 4 := by kernel_rfl
theorem inf8 : (Try.prog.info? 8).isSome = true := by kernel_rfl
theorem agg8 : aggO Try.prog 8 = some true := by kernel_rfl
theorem ifc8 : isIface Try.prog 8 = some false := by kernel_rfl
theorem tce8 : tce Try.prog 8 = [0, 0, 0, 0] := by kernel_rfl
theorem zvl8 : zvals Try.prog 8 = some [.sc (Value.int IntKind.i64 0), .sc (Value.int IntKind.i64 0), .sc (Value.bool false), .sc (Value.int IntKind.u8 0)] := by kernel_rfl
theorem zfl8 : zflat Try.prog 8 = some (.agg [.sc (Value.int IntKind.i64 0), .sc (Value.int IntKind.i64 0), .sc (Value.bool false), .sc (Value.int IntKind.u8 0)]) := by kernel_rfl
theorem tfo8_0 : tfo Try.prog 8 0 = some (0, 2) := by kernel_rfl
theorem tfo8_1 : tfo Try.prog 8 1 = some (1, 3) := by kernel_rfl
theorem tfo8_2 : tfo Try.prog 8 2 = some (2, 4) := by kernel_rfl
theorem tfo8_3 : tfo Try.prog 8 3 = some (3, 6) := by kernel_rfl
theorem tfl8 : tflds Try.prog 8 = true := by kernel_rfl
theorem tze8 : tzero Try.prog 8 = some [Value.int IntKind.i64 0, Value.int IntKind.i64 0, Value.bool false, Value.int IntKind.u8 0] := by kernel_rfl
theorem tsz26 : tsz Try.prog 26 = 1 := by kernel_rfl
theorem inf26 : (Try.prog.info? 26).isSome = true := by kernel_rfl
theorem agg26 : aggO Try.prog 26 = some false := by kernel_rfl
theorem ifc26 : isIface Try.prog 26 = some false := by kernel_rfl
theorem tce26 : tce Try.prog 26 = [4] := by kernel_rfl
theorem zvl26 : zvals Try.prog 26 = some [.sc (Value.slice none 0 0)] := by kernel_rfl
theorem zfl26 : zflat Try.prog 26 = some (.sc (Value.slice none 0 0)) := by kernel_rfl
theorem tel26 : tel Try.prog 26 = some 50 := by kernel_rfl
theorem tsl26 : tslice Try.prog 26 = true := by kernel_rfl
theorem tap26 : tapp Try.prog 26 = some 50 := by kernel_rfl
theorem tst26 : tstr Try.prog 26 = false := by kernel_rfl
theorem tsz28 : tsz Try.prog 28 = 1 := by kernel_rfl
theorem inf28 : (Try.prog.info? 28).isSome = true := by kernel_rfl
theorem agg28 : aggO Try.prog 28 = some true := by kernel_rfl
theorem ifc28 : isIface Try.prog 28 = some false := by kernel_rfl
theorem tce28 : tce Try.prog 28 = [4] := by kernel_rfl
theorem zvl28 : zvals Try.prog 28 = some [.sc (Value.slice none 0 0)] := by kernel_rfl
theorem zfl28 : zflat Try.prog 28 = some (.agg [.sc (Value.slice none 0 0)]) := by kernel_rfl
theorem tfo28_0 : tfo Try.prog 28 0 = some (0, 26) := by kernel_rfl
theorem tfl28 : tflds Try.prog 28 = true := by kernel_rfl
theorem tze28 : tzero Try.prog 28 = some [Value.slice none 0 0] := by kernel_rfl
theorem tsz37 : tsz Try.prog 37 = 1 := by kernel_rfl
theorem inf37 : (Try.prog.info? 37).isSome = true := by kernel_rfl
theorem agg37 : aggO Try.prog 37 = some false := by kernel_rfl
theorem ifc37 : isIface Try.prog 37 = some false := by kernel_rfl
theorem tce37 : tce Try.prog 37 = [1] := by kernel_rfl
theorem zvl37 : zvals Try.prog 37 = some [.sc (Value.slice none 0 0)] := by kernel_rfl
theorem zfl37 : zflat Try.prog 37 = some (.sc (Value.slice none 0 0)) := by kernel_rfl
theorem tel37 : tel Try.prog 37 = some 5 := by kernel_rfl
theorem tsl37 : tslice Try.prog 37 = true := by kernel_rfl
theorem tap37 : tapp Try.prog 37 = some 5 := by kernel_rfl
theorem tst37 : tstr Try.prog 37 = false := by kernel_rfl
theorem tsz41 : tsz Try.prog 41 = 1 := by kernel_rfl
theorem inf41 : (Try.prog.info? 41).isSome = true := by kernel_rfl
theorem agg41 : aggO Try.prog 41 = some false := by kernel_rfl
theorem ifc41 : isIface Try.prog 41 = some false := by kernel_rfl
theorem tce41 : tce Try.prog 41 = [1] := by kernel_rfl
theorem zvl41 : zvals Try.prog 41 = some [.sc (Value.slice none 0 0)] := by kernel_rfl
theorem zfl41 : zflat Try.prog 41 = some (.sc (Value.slice none 0 0)) := by kernel_rfl
theorem tel41 : tel Try.prog 41 = some 3 := by kernel_rfl
theorem tsl41 : tslice Try.prog 41 = true := by kernel_rfl
theorem tap41 : tapp Try.prog 41 = some 3 := by kernel_rfl
theorem tst41 : tstr Try.prog 41 = false := by kernel_rfl
theorem tsz47 : tsz Try.prog 47 = 1 := by kernel_rfl
theorem inf47 : (Try.prog.info? 47).isSome = true := by kernel_rfl
theorem agg47 : aggO Try.prog 47 = some false := by kernel_rfl
theorem ifc47 : isIface Try.prog 47 = some false := by kernel_rfl
theorem tce47 : tce Try.prog 47 = [4] := by kernel_rfl
theorem zvl47 : zvals Try.prog 47 = some [.sc (Value.slice none 0 0)] := by kernel_rfl
theorem zfl47 : zflat Try.prog 47 = some (.sc (Value.slice none 0 0)) := by kernel_rfl
theorem tel47 : tel Try.prog 47 = some 69 := by kernel_rfl
theorem tsl47 : tslice Try.prog 47 = true := by kernel_rfl
theorem tap47 : tapp Try.prog 47 = some 69 := by kernel_rfl
theorem tst47 : tstr Try.prog 47 = false := by kernel_rfl
theorem tsz50 : tsz Try.prog 50 = 4 := by kernel_rfl
theorem inf50 : (Try.prog.info? 50).isSome = true := by kernel_rfl
theorem agg50 : aggO Try.prog 50 = some true := by kernel_rfl
theorem ifc50 : isIface Try.prog 50 = some false := by kernel_rfl
theorem tce50 : tce Try.prog 50 = [0, 0, 1, 4] := by kernel_rfl
theorem zvl50 : zvals Try.prog 50 = some [.sc (Value.int IntKind.i64 0), .sc (Value.int IntKind.i64 0), .sc (Value.slice none 0 0), .sc (Value.slice none 0 0)] := by kernel_rfl
theorem zfl50 : zflat Try.prog 50 = some (.agg [.sc (Value.int IntKind.i64 0), .sc (Value.int IntKind.i64 0), .sc (Value.slice none 0 0), .sc (Value.slice none 0 0)]) := by kernel_rfl
theorem tfo50_0 : tfo Try.prog 50 0 = some (0, 3) := by kernel_rfl
theorem tfo50_1 : tfo Try.prog 50 1 = some (1, 3) := by kernel_rfl
theorem tfo50_2 : tfo Try.prog 50 2 = some (2, 41) := by kernel_rfl
theorem tfo50_3 : tfo Try.prog 50 3 = some (3, 47) := by kernel_rfl
theorem tfl50 : tflds Try.prog 50 = true := by kernel_rfl
theorem tze50 : tzero Try.prog 50 = some [Value.int IntKind.i64 0, Value.int IntKind.i64 0, Value.slice none 0 0, Value.slice none 0 0] := by kernel_rfl
theorem tsz55 : tsz Try.prog 55 = 1 := by kernel_rfl
theorem inf55 : (Try.prog.info? 55).isSome = true := by kernel_rfl
theorem agg55 : aggO Try.prog 55 = some false := by kernel_rfl
theorem ifc55 : isIface Try.prog 55 = some false := by kernel_rfl
theorem tce55 : tce Try.prog 55 = [1] := by kernel_rfl
theorem zvl55 : zvals Try.prog 55 = some [.sc (Value.slice none 0 0)] := by kernel_rfl
theorem zfl55 : zflat Try.prog 55 = some (.sc (Value.slice none 0 0)) := by kernel_rfl
theorem tel55 : tel Try.prog 55 = some 57 := by kernel_rfl
theorem tsl55 : tslice Try.prog 55 = true := by kernel_rfl
theorem tap55 : tapp Try.prog 55 = some 57 := by kernel_rfl
theorem tst55 : tstr Try.prog 55 = false := by kernel_rfl
theorem tsz57 : tsz Try.prog 57 = 1 := by kernel_rfl
theorem inf57 : (Try.prog.info? 57).isSome = true := by kernel_rfl
theorem agg57 : aggO Try.prog 57 = some false := by kernel_rfl
theorem ifc57 : isIface Try.prog 57 = some false := by kernel_rfl
theorem tce57 : tce Try.prog 57 = [0] := by kernel_rfl
theorem zvl57 : zvals Try.prog 57 = some [.sc (Value.pointer none)] := by kernel_rfl
theorem zfl57 : zflat Try.prog 57 = some (.sc (Value.pointer none)) := by kernel_rfl
theorem tpt57 : isPtr Try.prog 57 = true := by kernel_rfl
theorem tsz69 : tsz Try.prog 69 = 4 := by kernel_rfl
theorem inf69 : (Try.prog.info? 69).isSome = true := by kernel_rfl
theorem agg69 : aggO Try.prog 69 = some true := by kernel_rfl
theorem ifc69 : isIface Try.prog 69 = some false := by kernel_rfl
theorem tce69 : tce Try.prog 69 = [0, 0, 0, 0] := by kernel_rfl
theorem zvl69 : zvals Try.prog 69 = some [.sc (Value.int IntKind.i64 0), .sc (Value.int IntKind.i64 0), .sc (Value.int IntKind.i64 0), .sc (Value.int IntKind.i64 0)] := by kernel_rfl
theorem zfl69 : zflat Try.prog 69 = some (.agg [.sc (Value.int IntKind.i64 0), .sc (Value.int IntKind.i64 0), .sc (Value.int IntKind.i64 0), .sc (Value.int IntKind.i64 0)]) := by kernel_rfl
theorem tfo69_0 : tfo Try.prog 69 0 = some (0, 3) := by kernel_rfl
theorem tfo69_1 : tfo Try.prog 69 1 = some (1, 3) := by kernel_rfl
theorem tfo69_2 : tfo Try.prog 69 2 = some (2, 3) := by kernel_rfl
theorem tfo69_3 : tfo Try.prog 69 3 = some (3, 3) := by kernel_rfl
theorem tfl69 : tflds Try.prog 69 = true := by kernel_rfl
theorem tze69 : tzero Try.prog 69 = some [Value.int IntKind.i64 0, Value.int IntKind.i64 0, Value.int IntKind.i64 0, Value.int IntKind.i64 0] := by kernel_rfl
theorem tin69 : tints Try.prog 69 = some 4 := by kernel_rfl
theorem tsz74 : tsz Try.prog 74 = 1 := by kernel_rfl
theorem inf74 : (Try.prog.info? 74).isSome = true := by kernel_rfl
theorem agg74 : aggO Try.prog 74 = some false := by kernel_rfl
theorem ifc74 : isIface Try.prog 74 = some false := by kernel_rfl
theorem tce74 : tce Try.prog 74 = [0] := by kernel_rfl
theorem zvl74 : zvals Try.prog 74 = some [.sc (Value.pointer none)] := by kernel_rfl
theorem zfl74 : zflat Try.prog 74 = some (.sc (Value.pointer none)) := by kernel_rfl
theorem tpt74 : isPtr Try.prog 74 = true := by kernel_rfl
theorem tsz82 : tsz Try.prog 82 = 8 := by kernel_rfl
theorem inf82 : (Try.prog.info? 82).isSome = true := by kernel_rfl
theorem agg82 : aggO Try.prog 82 = some true := by kernel_rfl
theorem ifc82 : isIface Try.prog 82 = some false := by kernel_rfl
theorem tce82 : tce Try.prog 82 = [0, 0, 0, 0, 0, 0, 0, 0] := by kernel_rfl
theorem zvl82 : zvals Try.prog 82 = some [.sc (Value.bool false), .sc (Value.bool false), .sc (Value.bool false), .sc (Value.bool false), .sc (Value.bool false), .sc (Value.bool false), .sc (Value.bool false), .sc (Value.bool false)] := by kernel_rfl
theorem zfl82 : zflat Try.prog 82 = some (.agg [.sc (Value.bool false), .sc (Value.bool false), .sc (Value.bool false), .sc (Value.bool false), .sc (Value.bool false), .sc (Value.bool false), .sc (Value.bool false), .sc (Value.bool false)]) := by kernel_rfl
theorem tel82 : tel Try.prog 82 = none := by kernel_rfl
theorem tar82 : tarr Try.prog 82 = some (8, 4) := by kernel_rfl
theorem tsz98 : tsz Try.prog 98 = 43 := by kernel_rfl
theorem inf98 : (Try.prog.info? 98).isSome = true := by kernel_rfl
theorem agg98 : aggO Try.prog 98 = some true := by kernel_rfl
theorem ifc98 : isIface Try.prog 98 = some false := by kernel_rfl
theorem tce98 : tce Try.prog 98 = [0, 0, 0, 0, 0, 0, 0, 0, 0, 0, 0, 0, 0, 0, 0, 0, 0, 0, 0, 0, 0, 0, 0, 0, 0, 0, 0, 0, 0, 0, 0, 0, 0, 0, 0, 0, 0, 0, 0, 0, 0, 0, 0] := by kernel_rfl
theorem zvl98 : zvals Try.prog 98 = some [.sc (Value.int IntKind.i64 0), .sc (Value.int IntKind.i64 0), .sc (Value.pointer none), .sc (Value.bool false), .sc (Value.bool false), .sc (Value.bool false), .sc (Value.bool false), .sc (Value.bool false), .sc (Value.bool false), .sc (Value.bool false), .sc (Value.bool false), .sc (Value.bool false), .sc (Value.bool false), .sc (Value.bool false), .sc (Value.bool false), .sc (Value.bool false), .sc (Value.bool false), .sc (Value.bool false), .sc (Value.bool false), .sc (Value.bool false), .sc (Value.bool false), .sc (Value.bool false), .sc (Value.bool false), .sc (Value.bool false), .sc (Value.bool false), .sc (Value.bool false), .sc (Value.bool false), .sc (Value.bool false), .sc (Value.bool false), .sc (Value.bool false), .sc (Value.bool false), .sc (Value.bool false), .sc (Value.bool false), .sc (Value.bool false), .sc (Value.bool false), .sc (Value.bool false), .sc (Value.bool false), .sc (Value.bool false), .sc (Value.bool false), .sc (Value.bool false), .sc (Value.bool false), .sc (Value.bool false), .sc (Value.bool false)] := by kernel_rfl
theorem zfl98 : zflat Try.prog 98 = some (.agg [.sc (Value.int IntKind.i64 0), .sc (Value.int IntKind.i64 0), .sc (Value.pointer none), .sc (Value.bool false), .sc (Value.bool false), .sc (Value.bool false), .sc (Value.bool false), .sc (Value.bool false), .sc (Value.bool false), .sc (Value.bool false), .sc (Value.bool false), .sc (Value.bool false), .sc (Value.bool false), .sc (Value.bool false), .sc (Value.bool false), .sc (Value.bool false), .sc (Value.bool false), .sc (Value.bool false), .sc (Value.bool false), .sc (Value.bool false), .sc (Value.bool false), .sc (Value.bool false), .sc (Value.bool false), .sc (Value.bool false), .sc (Value.bool false), .sc (Value.bool false), .sc (Value.bool false), .sc (Value.bool false), .sc (Value.bool false), .sc (Value.bool false), .sc (Value.bool false), .sc (Value.bool false), .sc (Value.bool false), .sc (Value.bool false), .sc (Value.bool false), .sc (Value.bool false), .sc (Value.bool false), .sc (Value.bool false), .sc (Value.bool false), .sc (Value.bool false), .sc (Value.bool false), .sc (Value.bool false), .sc (Value.bool false)]) := by kernel_rfl
theorem tfo98_0 : tfo Try.prog 98 0 = some (0, 3) := by kernel_rfl
theorem tfo98_1 : tfo Try.prog 98 1 = some (1, 3) := by kernel_rfl
theorem tfo98_2 : tfo Try.prog 98 2 = some (2, 57) := by kernel_rfl
theorem tfo98_3 : tfo Try.prog 98 3 = some (3, 82) := by kernel_rfl
theorem tfo98_4 : tfo Try.prog 98 4 = some (11, 82) := by kernel_rfl
theorem tfo98_5 : tfo Try.prog 98 5 = some (19, 82) := by kernel_rfl
theorem tfo98_6 : tfo Try.prog 98 6 = some (27, 82) := by kernel_rfl
theorem tfo98_7 : tfo Try.prog 98 7 = some (35, 82) := by kernel_rfl
theorem tfl98 : tflds Try.prog 98 = true := by kernel_rfl
theorem tze98 : tzero Try.prog 98 = some [Value.int IntKind.i64 0, Value.int IntKind.i64 0, Value.pointer none, Value.bool false, Value.bool false, Value.bool false, Value.bool false, Value.bool false, Value.bool false, Value.bool false, Value.bool false, Value.bool false, Value.bool false, Value.bool false, Value.bool false, Value.bool false, Value.bool false, Value.bool false, Value.bool false, Value.bool false, Value.bool false, Value.bool false, Value.bool false, Value.bool false, Value.bool false, Value.bool false, Value.bool false, Value.bool false, Value.bool false, Value.bool false, Value.bool false, Value.bool false, Value.bool false, Value.bool false, Value.bool false, Value.bool false, Value.bool false, Value.bool false, Value.bool false, Value.bool false, Value.bool false, Value.bool false, Value.bool false] := by kernel_rfl
theorem tsz104 : tsz Try.prog 104 = 1 := by kernel_rfl
theorem inf104 : (Try.prog.info? 104).isSome = true := by kernel_rfl
theorem agg104 : aggO Try.prog 104 = some false := by kernel_rfl
theorem ifc104 : isIface Try.prog 104 = some false := by kernel_rfl
theorem tce104 : tce Try.prog 104 = [0] := by kernel_rfl
theorem zvl104 : zvals Try.prog 104 = some [.sc (Value.pointer none)] := by kernel_rfl
theorem zfl104 : zflat Try.prog 104 = some (.sc (Value.pointer none)) := by kernel_rfl
theorem tpt104 : isPtr Try.prog 104 = true := by kernel_rfl
theorem tsz107 : tsz Try.prog 107 = 1 := by kernel_rfl
theorem inf107 : (Try.prog.info? 107).isSome = true := by kernel_rfl
theorem agg107 : aggO Try.prog 107 = some false := by kernel_rfl
theorem ifc107 : isIface Try.prog 107 = some true := by kernel_rfl
theorem tce107 : tce Try.prog 107 = [0] := by kernel_rfl
theorem zvl107 : zvals Try.prog 107 = some [.sc (Value.nilIface)] := by kernel_rfl
theorem tif107 : isIf Try.prog 107 = true := by kernel_rfl
theorem tsz110 : tsz Try.prog 110 = 1 := by kernel_rfl
theorem inf110 : (Try.prog.info? 110).isSome = true := by kernel_rfl
theorem agg110 : aggO Try.prog 110 = some true := by kernel_rfl
theorem ifc110 : isIface Try.prog 110 = some false := by kernel_rfl
theorem tce110 : tce Try.prog 110 = [0] := by kernel_rfl
theorem zvl110 : zvals Try.prog 110 = some [.sc (Value.int IntKind.i64 0)] := by kernel_rfl
theorem zfl110 : zflat Try.prog 110 = some (.agg [.sc (Value.int IntKind.i64 0)]) := by kernel_rfl
theorem tfo110_0 : tfo Try.prog 110 0 = some (0, 3) := by kernel_rfl
theorem tfl110 : tflds Try.prog 110 = true := by kernel_rfl
theorem tze110 : tzero Try.prog 110 = some [Value.int IntKind.i64 0] := by kernel_rfl
theorem tin110 : tints Try.prog 110 = some 1 := by kernel_rfl
theorem tsz112 : tsz Try.prog 112 = 2 := by kernel_rfl
theorem inf112 : (Try.prog.info? 112).isSome = true := by kernel_rfl
theorem agg112 : aggO Try.prog 112 = some true := by kernel_rfl
theorem ifc112 : isIface Try.prog 112 = some false := by kernel_rfl
theorem tce112 : tce Try.prog 112 = [0, 0] := by kernel_rfl
theorem zvl112 : zvals Try.prog 112 = some [.sc (Value.int IntKind.i64 0), .sc (Value.int IntKind.i64 0)] := by kernel_rfl
theorem zfl112 : zflat Try.prog 112 = some (.agg [.sc (Value.int IntKind.i64 0), .sc (Value.int IntKind.i64 0)]) := by kernel_rfl
theorem tfo112_0 : tfo Try.prog 112 0 = some (0, 3) := by kernel_rfl
theorem tfo112_1 : tfo Try.prog 112 1 = some (1, 3) := by kernel_rfl
theorem tfl112 : tflds Try.prog 112 = true := by kernel_rfl
theorem tze112 : tzero Try.prog 112 = some [Value.int IntKind.i64 0, Value.int IntKind.i64 0] := by kernel_rfl
theorem tin112 : tints Try.prog 112 = some 2 := by kernel_rfl
theorem tsz114 : tsz Try.prog 114 = 2 := by kernel_rfl
theorem inf114 : (Try.prog.info? 114).isSome = true := by kernel_rfl
theorem agg114 : aggO Try.prog 114 = some true := by kernel_rfl
theorem ifc114 : isIface Try.prog 114 = some false := by kernel_rfl
theorem tce114 : tce Try.prog 114 = [0, 0] := by kernel_rfl
theorem zvl114 : zvals Try.prog 114 = some [.sc (Value.int IntKind.i64 0), .sc (Value.int IntKind.i64 0)] := by kernel_rfl
theorem zfl114 : zflat Try.prog 114 = some (.agg [.sc (Value.int IntKind.i64 0), .sc (Value.int IntKind.i64 0)]) := by kernel_rfl
theorem tfo114_0 : tfo Try.prog 114 0 = some (0, 3) := by kernel_rfl
theorem tfo114_1 : tfo Try.prog 114 1 = some (1, 3) := by kernel_rfl
theorem tfl114 : tflds Try.prog 114 = true := by kernel_rfl
theorem tze114 : tzero Try.prog 114 = some [Value.int IntKind.i64 0, Value.int IntKind.i64 0] := by kernel_rfl
theorem tin114 : tints Try.prog 114 = some 2 := by kernel_rfl
theorem tsz116 : tsz Try.prog 116 = 2 := by kernel_rfl
theorem inf116 : (Try.prog.info? 116).isSome = true := by kernel_rfl
theorem agg116 : aggO Try.prog 116 = some true := by kernel_rfl
theorem ifc116 : isIface Try.prog 116 = some false := by kernel_rfl
theorem tce116 : tce Try.prog 116 = [0, 0] := by kernel_rfl
theorem zvl116 : zvals Try.prog 116 = some [.sc (Value.int IntKind.i64 0), .sc (Value.int IntKind.i64 0)] := by kernel_rfl
theorem zfl116 : zflat Try.prog 116 = some (.agg [.sc (Value.int IntKind.i64 0), .sc (Value.int IntKind.i64 0)]) := by kernel_rfl
theorem tfo116_0 : tfo Try.prog 116 0 = some (0, 3) := by kernel_rfl
theorem tfo116_1 : tfo Try.prog 116 1 = some (1, 3) := by kernel_rfl
theorem tfl116 : tflds Try.prog 116 = true := by kernel_rfl
theorem tze116 : tzero Try.prog 116 = some [Value.int IntKind.i64 0, Value.int IntKind.i64 0] := by kernel_rfl
theorem tin116 : tints Try.prog 116 = some 2 := by kernel_rfl
theorem tsz118 : tsz Try.prog 118 = 1 := by kernel_rfl
theorem inf118 : (Try.prog.info? 118).isSome = true := by kernel_rfl
theorem agg118 : aggO Try.prog 118 = some true := by kernel_rfl
theorem ifc118 : isIface Try.prog 118 = some false := by kernel_rfl
theorem tce118 : tce Try.prog 118 = [0] := by kernel_rfl
theorem zvl118 : zvals Try.prog 118 = some [.sc (Value.int IntKind.i64 0)] := by kernel_rfl
theorem zfl118 : zflat Try.prog 118 = some (.agg [.sc (Value.int IntKind.i64 0)]) := by kernel_rfl
theorem tfo118_0 : tfo Try.prog 118 0 = some (0, 3) := by kernel_rfl
theorem tfl118 : tflds Try.prog 118 = true := by kernel_rfl
theorem tze118 : tzero Try.prog 118 = some [Value.int IntKind.i64 0] := by kernel_rfl
theorem tin118 : tints Try.prog 118 = some 1 := by kernel_rfl
theorem tsz119 : tsz Try.prog 119 = 1 := by kernel_rfl
theorem inf119 : (Try.prog.info? 119).isSome = true := by kernel_rfl
theorem agg119 : aggO Try.prog 119 = some true := by kernel_rfl
theorem ifc119 : isIface Try.prog 119 = some false := by kernel_rfl
theorem tce119 : tce Try.prog 119 = [0] := by kernel_rfl
theorem zvl119 : zvals Try.prog 119 = some [.sc (Value.int IntKind.i64 0)] := by kernel_rfl
theorem zfl119 : zflat Try.prog 119 = some (.agg [.sc (Value.int IntKind.i64 0)]) := by kernel_rfl
theorem tfo119_0 : tfo Try.prog 119 0 = some (0, 3) := by kernel_rfl
theorem tfl119 : tflds Try.prog 119 = true := by kernel_rfl
theorem tze119 : tzero Try.prog 119 = some [Value.int IntKind.i64 0] := by kernel_rfl
theorem tin119 : tints Try.prog 119 = some 1 := by kernel_rfl
theorem tsz121 : tsz Try.prog 121 = 2 := by kernel_rfl
theorem inf121 : (Try.prog.info? 121).isSome = true := by kernel_rfl
theorem agg121 : aggO Try.prog 121 = some true := by kernel_rfl
theorem ifc121 : isIface Try.prog 121 = some false := by kernel_rfl
theorem tce121 : tce Try.prog 121 = [1, 0] := by kernel_rfl
theorem zvl121 : zvals Try.prog 121 = some [.sc (Value.slice none 0 0), .sc (Value.int IntKind.i64 0)] := by kernel_rfl
theorem zfl121 : zflat Try.prog 121 = some (.agg [.sc (Value.slice none 0 0), .sc (Value.int IntKind.i64 0)]) := by kernel_rfl
theorem tfo121_0 : tfo Try.prog 121 0 = some (0, 37) := by kernel_rfl
theorem tfo121_1 : tfo Try.prog 121 1 = some (1, 3) := by kernel_rfl
theorem tfl121 : tflds Try.prog 121 = true := by kernel_rfl
theorem tze121 : tzero Try.prog 121 = some [Value.slice none 0 0, Value.int IntKind.i64 0] := by kernel_rfl
theorem tsz123 : tsz Try.prog 123 = 7 := by kernel_rfl
theorem inf123 : (Try.prog.info? 123).isSome = true := by kernel_rfl
theorem agg123 : aggO Try.prog 123 = some true := by kernel_rfl
theorem ifc123 : isIface Try.prog 123 = some false := by kernel_rfl
theorem tce123 : tce Try.prog 123 = [0, 0, 0, 0, 0, 0, 0] := by kernel_rfl
theorem zvl123 : zvals Try.prog 123 = some [.sc (Value.int IntKind.i64 0), .sc (Value.int IntKind.i64 0), .sc (Value.int IntKind.i64 0), .sc (Value.int IntKind.i64 0), .sc (Value.int IntKind.i64 0), .sc (Value.int IntKind.i64 0), .sc (Value.int IntKind.i64 0)] := by kernel_rfl
theorem zfl123 : zflat Try.prog 123 = some (.agg [.sc (Value.int IntKind.i64 0), .sc (Value.int IntKind.i64 0), .sc (Value.int IntKind.i64 0), .sc (Value.int IntKind.i64 0), .sc (Value.int IntKind.i64 0), .sc (Value.int IntKind.i64 0), .sc (Value.int IntKind.i64 0)]) := by kernel_rfl
theorem tel123 : tel Try.prog 123 = none := by kernel_rfl
theorem tar123 : tarr Try.prog 123 = some (7, 3) := by kernel_rfl
theorem tsz126 : tsz Try.prog 126 = 2 := by kernel_rfl
theorem inf126 : (Try.prog.info? 126).isSome = true := by kernel_rfl
theorem agg126 : aggO Try.prog 126 = some true := by kernel_rfl
theorem ifc126 : isIface Try.prog 126 = some false := by kernel_rfl
theorem tce126 : tce Try.prog 126 = [0, 0] := by kernel_rfl
theorem zvl126 : zvals Try.prog 126 = some [.sc (Value.int IntKind.i64 0), .sc (Value.int IntKind.i64 0)] := by kernel_rfl
theorem zfl126 : zflat Try.prog 126 = some (.agg [.sc (Value.int IntKind.i64 0), .sc (Value.int IntKind.i64 0)]) := by kernel_rfl
theorem tfo126_0 : tfo Try.prog 126 0 = some (0, 3) := by kernel_rfl
theorem tfo126_1 : tfo Try.prog 126 1 = some (1, 3) := by kernel_rfl
theorem tfl126 : tflds Try.prog 126 = true := by kernel_rfl
theorem tze126 : tzero Try.prog 126 = some [Value.int IntKind.i64 0, Value.int IntKind.i64 0] := by kernel_rfl
theorem tin126 : tints Try.prog 126 = some 2 := by kernel_rfl
theorem tsz137 : tsz Try.prog 137 = 1 := by kernel_rfl
theorem inf137 : (Try.prog.info? 137).isSome = true := by kernel_rfl
theorem agg137 : aggO Try.prog 137 = some true := by kernel_rfl
theorem ifc137 : isIface Try.prog 137 = some false := by kernel_rfl
theorem tce137 : tce Try.prog 137 = [0] := by kernel_rfl
theorem zvl137 : zvals Try.prog 137 = some [.sc (Value.int IntKind.i64 0)] := by kernel_rfl
theorem zfl137 : zflat Try.prog 137 = some (.agg [.sc (Value.int IntKind.i64 0)]) := by kernel_rfl
theorem tfo137_0 : tfo Try.prog 137 0 = some (0, 3) := by kernel_rfl
theorem tfl137 : tflds Try.prog 137 = true := by kernel_rfl
theorem tze137 : tzero Try.prog 137 = some [Value.int IntKind.i64 0] := by kernel_rfl
theorem tin137 : tints Try.prog 137 = some 1 := by kernel_rfl
theorem tsz139 : tsz Try.prog 139 = 0 := by kernel_rfl
theorem inf139 : (Try.prog.info? 139).isSome = true := by kernel_rfl
theorem agg139 : aggO Try.prog 139 = some true := by kernel_rfl
theorem ifc139 : isIface Try.prog 139 = some false := by kernel_rfl
theorem tce139 : tce Try.prog 139 = [] := by kernel_rfl
theorem zvl139 : zvals Try.prog 139 = some [] := by kernel_rfl
theorem zfl139 : zflat Try.prog 139 = some (.agg []) := by kernel_rfl
theorem tfl139 : tflds Try.prog 139 = true := by kernel_rfl
theorem tze139 : tzero Try.prog 139 = some [] := by kernel_rfl
theorem tsz140 : tsz Try.prog 140 = 0 := by kernel_rfl
theorem inf140 : (Try.prog.info? 140).isSome = true := by kernel_rfl
theorem agg140 : aggO Try.prog 140 = some true := by kernel_rfl
theorem ifc140 : isIface Try.prog 140 = some false := by kernel_rfl
theorem tce140 : tce Try.prog 140 = [] := by kernel_rfl
theorem zvl140 : zvals Try.prog 140 = some [] := by kernel_rfl
theorem zfl140 : zflat Try.prog 140 = some (.agg []) := by kernel_rfl
theorem tfl140 : tflds Try.prog 140 = true := by kernel_rfl
theorem tze140 : tzero Try.prog 140 = some [] := by kernel_rfl
attribute [simp] tsz2 inf2 agg2 ifc2 tce2 zvl2 zfl2 tit2 tsz3 inf3 agg3 ifc3 tce3 zvl3 zfl3 tit3 tsz4 inf4 agg4 ifc4 tce4 zvl4 zfl4 tbo4 tsz5 inf5 agg5 ifc5 tce5 zvl5 zfl5 tit5 tsz6 inf6 agg6 ifc6 tce6 zvl6 zfl6 tit6 tsz7 inf7 agg7 ifc7 tce7 zvl7 zfl7 tfo7_0 tfo7_1 tfo7_2 tfo7_3 tfl7 tze7 tsz8 inf8 agg8 ifc8 tce8 zvl8 zfl8 tfo8_0 tfo8_1 tfo8_2 tfo8_3 tfl8 tze8 tsz26 inf26 agg26 ifc26 tce26 zvl26 zfl26 tel26 tsl26 tap26 tst26 tsz28 inf28 agg28 ifc28 tce28 zvl28 zfl28 tfo28_0 tfl28 tze28 tsz37 inf37 agg37 ifc37 tce37 zvl37 zfl37 tel37 tsl37 tap37 tst37 tsz41 inf41 agg41 ifc41 tce41 zvl41 zfl41 tel41 tsl41 tap41 tst41 tsz47 inf47 agg47 ifc47 tce47 zvl47 zfl47 tel47 tsl47 tap47 tst47 tsz50 inf50 agg50 ifc50 tce50 zvl50 zfl50 tfo50_0 tfo50_1 tfo50_2 tfo50_3 tfl50 tze50 tsz55 inf55 agg55 ifc55 tce55 zvl55 zfl55 tel55 tsl55 tap55 tst55 tsz57 inf57 agg57 ifc57 tce57 zvl57 zfl57 tpt57 tsz69 inf69 agg69 ifc69 tce69 zvl69 zfl69 tfo69_0 tfo69_1 tfo69_2 tfo69_3 tfl69 tze69 tin69 tsz74 inf74 agg74 ifc74 tce74 zvl74 zfl74 tpt74 tsz82 inf82 agg82 ifc82 tce82 zvl82 zfl82 tel82 tar82 tsz98 inf98 agg98 ifc98 tce98 zvl98 zfl98 tfo98_0 tfo98_1 tfo98_2 tfo98_3 tfo98_4 tfo98_5 tfo98_6 tfo98_7 tfl98 tze98 tsz104 inf104 agg104 ifc104 tce104 zvl104 zfl104 tpt104 tsz107 inf107 agg107 ifc107 tce107 zvl107 tif107 tsz110 inf110 agg110 ifc110 tce110 zvl110 zfl110 tfo110_0 tfl110 tze110 tin110 tsz112 inf112 agg112 ifc112 tce112 zvl112 zfl112 tfo112_0 tfo112_1 tfl112 tze112 tin112 tsz114 inf114 agg114 ifc114 tce114 zvl114 zfl114 tfo114_0 tfo114_1 tfl114 tze114 tin114 tsz116 inf116 agg116 ifc116 tce116 zvl116 zfl116 tfo116_0 tfo116_1 tfl116 tze116 tin116 tsz118 inf118 agg118 ifc118 tce118 zvl118 zfl118 tfo118_0 tfl118 tze118 tin118 tsz119 inf119 agg119 ifc119 tce119 zvl119 zfl119 tfo119_0 tfl119 tze119 tin119 tsz121 inf121 agg121 ifc121 tce121 zvl121 zfl121 tfo121_0 tfo121_1 tfl121 tze121 tsz123 inf123 agg123 ifc123 tce123 zvl123 zfl123 tel123 tar123 tsz126 inf126 agg126 ifc126 tce126 zvl126 zfl126 tfo126_0 tfo126_1 tfl126 tze126 tin126 tsz137 inf137 agg137 ifc137 tce137 zvl137 zfl137 tfo137_0 tfl137 tze137 tin137 tsz139 inf139 agg139 ifc139 tce139 zvl139 zfl139 tfl139 tze139 tsz140 inf140 agg140 ifc140 tce140 zvl140 zfl140 tfl140 tze140
theorem mixed : Try.prog.follows .mixedOrders = true := by kernel_rfl
end Go.Proofs.Ytopgafhjmbfaoaa
end
