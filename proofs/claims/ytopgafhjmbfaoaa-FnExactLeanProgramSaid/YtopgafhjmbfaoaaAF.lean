/-
  Own texts, joined by merge.py: Facts.
-/
import Derived.Test.YtopgafhjmbfaoaaProg
import Derived.Test.YtopgafhjmbfaoaaA3

section
/-
  The closed facts of the table of types, as the abstract machine asks for them. Printed by facts.py.
-/
namespace Go.Proofs.Ytopgafhjmbfaoaa
open Go Go.Hm Go.Proofs

theorem tsz2 : tsz Try.prog 2 = 1 := by kernel_rfl
theorem inf2 : (Try.prog.info? 2).isSome = true := by kernel_rfl
theorem agg2 : aggO Try.prog 2 = some false := by kernel_rfl
theorem ifc2 : isIface Try.prog 2 = some false := by kernel_rfl
theorem tce2 : tce Try.prog 2 = [0] := by kernel_rfl
theorem zvl2 : zvals Try.prog 2 = some [.sc (Value.int IntKind.i64 0)] := by kernel_rfl
theorem zfl2 : zflat Try.prog 2 = some (.sc (Value.int IntKind.i64 0)) := by kernel_rfl
theorem tit2 : tint Try.prog 2 = some .i64 := by kernel_rfl
theorem tsz3 : tsz Try.prog 3 = 1 := by kernel_rfl
theorem inf3 : (Try.prog.info? 3).isSome = true := by kernel_rfl
theorem agg3 : aggO Try.prog 3 = some false := by kernel_rfl
theorem ifc3 : isIface Try.prog 3 = some false := by kernel_rfl
theorem tce3 : tce Try.prog 3 = [0] := by kernel_rfl
theorem zvl3 : zvals Try.prog 3 = some [.sc (Value.int IntKind.i64 0)] := by kernel_rfl
theorem zfl3 : zflat Try.prog 3 = some (.sc (Value.int IntKind.i64 0)) := by kernel_rfl
theorem tit3 : tint Try.prog 3 = some .i64 := by kernel_rfl
theorem tsz4 : tsz Try.prog 4 = 1 := by kernel_rfl
theorem inf4 : (Try.prog.info? 4).isSome = true := by kernel_rfl
theorem agg4 : aggO Try.prog 4 = some false := by kernel_rfl
theorem ifc4 : isIface Try.prog 4 = some false := by kernel_rfl
theorem tce4 : tce Try.prog 4 = [0] := by kernel_rfl
theorem zvl4 : zvals Try.prog 4 = some [.sc (Value.bool false)] := by kernel_rfl
theorem zfl4 : zflat Try.prog 4 = some (.sc (Value.bool false)) := by kernel_rfl
theorem tbo4 : tbool Try.prog 4 = true := by kernel_rfl
theorem tsz5 : tsz Try.prog 5 = 1 := by kernel_rfl
theorem inf5 : (Try.prog.info? 5).isSome = true := by kernel_rfl
theorem agg5 : aggO Try.prog 5 = some false := by kernel_rfl
theorem ifc5 : isIface Try.prog 5 = some false := by kernel_rfl
theorem tce5 : tce Try.prog 5 = [0] := by kernel_rfl
theorem zvl5 : zvals Try.prog 5 = some [.sc (Value.int IntKind.u8 0)] := by kernel_rfl
theorem zfl5 : zflat Try.prog 5 = some (.sc (Value.int IntKind.u8 0)) := by kernel_rfl
theorem tit5 : tint Try.prog 5 = some .u8 := by kernel_rfl
theorem tsz6 : tsz Try.prog 6 = 1 := by kernel_rfl
theorem inf6 : (Try.prog.info? 6).isSome = true := by kernel_rfl
theorem agg6 : aggO Try.prog 6 = some false := by kernel_rfl
theorem ifc6 : isIface Try.prog 6 = some false := by kernel_rfl
theorem tce6 : tce Try.prog 6 = [0] := by kernel_rfl
theorem zvl6 : zvals Try.prog 6 = some [.sc (Value.int IntKind.u8 0)] := by kernel_rfl
theorem zfl6 : zflat Try.prog 6 = some (.sc (Value.int IntKind.u8 0)) := by kernel_rfl
theorem tit6 : tint Try.prog 6 = some .u8 := by kernel_rfl
theorem tsz7 : tsz Try.prog 7 = 4 := by kernel_rfl
theorem inf7 : (Try.prog.info? 7).isSome = true := by kernel_rfl
theorem agg7 : aggO Try.prog 7 = some true := by kernel_rfl
theorem ifc7 : isIface Try.prog 7 = some false := by kernel_rfl
theorem tce7 : tce Try.prog 7 = [0, 0, 0, 0] := by kernel_rfl
theorem zvl7 : zvals Try.prog 7 = some [.sc (Value.int IntKind.i64 0), .sc (Value.int IntKind.i64 0), .sc (Value.bool false), .sc (Value.int IntKind.u8 0)] := by kernel_rfl
theorem zfl7 : zflat Try.prog 7 = some (.agg [.sc (Value.int IntKind.i64 0), .sc (Value.int IntKind.i64 0), .sc (Value.bool false), .sc (Value.int IntKind.u8 0)]) := by kernel_rfl
theorem tfo7_0 : tfo Try.prog 7 0 = some (0, 2) := by kernel_rfl
theorem tfo7_1 : tfo Try.prog 7 1 = some (1, 3) := by kernel_rfl
theorem tfo7_2 : tfo Try.prog 7 2 = some (2, 4) := by kernel_rfl
theorem tfo7_3 : tfo Try.prog 7 3 = some (3, 6) := by kernel_rfl
theorem tfl7 : tflds Try.prog 7 = true := by kernel_rfl
theorem tze7 : tzero Try.prog 7 = some [Value.int IntKind.i64 0, Value.int IntKind.i64 0, Value.bool false, Value.int IntKind.u8 0] := by kernel_rfl
theorem tsz8 : tsz Try.prog 8 = 4 := by kernel_rfl
theorem inf8 : (Try.prog.info? 8).isSome = true := by kernel_rfl
theorem agg8 : aggO Try.prog 8 = some true := by kernel_rfl
theorem ifc8 : isIface Try.prog 8 = some false := by kernel_rfl
theorem tce8 : tce Try.prog 8 = [0, 0, 0, 0] := by kernel_rfl
theorem zvl8 : zvals Try.prog 8 = some [.sc (Value.int IntKind.i64 0), .sc (Value.int IntKind.i64 0), .sc (Value.bool false), .sc (Value.int IntKind.u8 0)] := by kernel_rfl
theorem zfl8 : zflat Try.prog 8 = some (.agg [.sc (Value.int IntKind.i64 0), .sc (Value.int IntKind.i64 0), .sc (Value.bool false), .sc (Value.int IntKind.u8 0)]) := by kernel_rfl
theorem tfo8_0 : tfo Try.prog 8 0 = some (0, 2) := by kernel_rfl
theorem tfo8_1 : tfo Try.prog 8 1 = some (1, 3) := by kernel_rfl
theorem tfo8_2 : tfo Try.prog 8 2 = some (2, 4) := by kernel_rfl
theorem tfo8_3 : tfo Try.prog 8 3 = some (3, 6) := by kernel_rfl
theorem tfl8 : tflds Try.prog 8 = true := by kernel_rfl
theorem tze8 : tzero Try.prog 8 = some [Value.int IntKind.i64 0, Value.int IntKind.i64 0, Value.bool false, Value.int IntKind.u8 0] := by kernel_rfl
theorem tsz9 : tsz Try.prog 9 = 1 := by kernel_rfl
theorem inf9 : (Try.prog.info? 9).isSome = true := by kernel_rfl
theorem agg9 : aggO Try.prog 9 = some false := by kernel_rfl
theorem ifc9 : isIface Try.prog 9 = some false := by kernel_rfl
theorem tce9 : tce Try.prog 9 = [0] := by kernel_rfl
theorem zvl9 : zvals Try.prog 9 = some [.sc (Value.string { data := #[] })] := by kernel_rfl
theorem zfl9 : zflat Try.prog 9 = some (.sc (Value.string { data := #[] })) := by kernel_rfl
theorem tst9 : tstr Try.prog 9 = true := by kernel_rfl
theorem tsz10 : tsz Try.prog 10 = 1 := by kernel_rfl
theorem inf10 : (Try.prog.info? 10).isSome = true := by kernel_rfl
theorem agg10 : aggO Try.prog 10 = some false := by kernel_rfl
theorem ifc10 : isIface Try.prog 10 = some false := by kernel_rfl
theorem tce10 : tce Try.prog 10 = [0] := by kernel_rfl
theorem zvl10 : zvals Try.prog 10 = some [.sc (Value.string { data := #[] })] := by kernel_rfl
theorem zfl10 : zflat Try.prog 10 = some (.sc (Value.string { data := #[] })) := by kernel_rfl
theorem tst10 : tstr Try.prog 10 = true := by kernel_rfl
theorem tsz11 : tsz Try.prog 11 = 1 := by kernel_rfl
theorem inf11 : (Try.prog.info? 11).isSome = true := by kernel_rfl
theorem agg11 : aggO Try.prog 11 = some false := by kernel_rfl
theorem ifc11 : isIface Try.prog 11 = some false := by kernel_rfl
theorem tce11 : tce Try.prog 11 = [0] := by kernel_rfl
theorem zvl11 : zvals Try.prog 11 = some [.sc (Value.string { data := #[] })] := by kernel_rfl
theorem zfl11 : zflat Try.prog 11 = some (.sc (Value.string { data := #[] })) := by kernel_rfl
theorem tst11 : tstr Try.prog 11 = true := by kernel_rfl
theorem tsz12 : tsz Try.prog 12 = 1 := by kernel_rfl
theorem inf12 : (Try.prog.info? 12).isSome = true := by kernel_rfl
theorem agg12 : aggO Try.prog 12 = some false := by kernel_rfl
theorem ifc12 : isIface Try.prog 12 = some false := by kernel_rfl
theorem tce12 : tce Try.prog 12 = [0] := by kernel_rfl
theorem zvl12 : zvals Try.prog 12 = some [.sc (Value.int IntKind.u64 0)] := by kernel_rfl
theorem zfl12 : zflat Try.prog 12 = some (.sc (Value.int IntKind.u64 0)) := by kernel_rfl
theorem tit12 : tint Try.prog 12 = some .u64 := by kernel_rfl
theorem tsz13 : tsz Try.prog 13 = 2 := by kernel_rfl
theorem inf13 : (Try.prog.info? 13).isSome = true := by kernel_rfl
theorem agg13 : aggO Try.prog 13 = some true := by kernel_rfl
theorem ifc13 : isIface Try.prog 13 = some false := by kernel_rfl
theorem tce13 : tce Try.prog 13 = [0, 0] := by kernel_rfl
theorem zvl13 : zvals Try.prog 13 = some [.sc (Value.string { data := #[] }), .sc (Value.int IntKind.u64 0)] := by kernel_rfl
theorem zfl13 : zflat Try.prog 13 = some (.agg [.sc (Value.string { data := #[] }), .sc (Value.int IntKind.u64 0)]) := by kernel_rfl
theorem tfo13_0 : tfo Try.prog 13 0 = some (0, 9) := by kernel_rfl
theorem tfo13_1 : tfo Try.prog 13 1 = some (1, 12) := by kernel_rfl
theorem tfl13 : tflds Try.prog 13 = true := by kernel_rfl
theorem tze13 : tzero Try.prog 13 = some [Value.string { data := #[] }, Value.int IntKind.u64 0] := by kernel_rfl
theorem tsz14 : tsz Try.prog 14 = 2 := by kernel_rfl
theorem inf14 : (Try.prog.info? 14).isSome = true := by kernel_rfl
theorem agg14 : aggO Try.prog 14 = some true := by kernel_rfl
theorem ifc14 : isIface Try.prog 14 = some false := by kernel_rfl
theorem tce14 : tce Try.prog 14 = [0, 0] := by kernel_rfl
theorem zvl14 : zvals Try.prog 14 = some [.sc (Value.string { data := #[] }), .sc (Value.int IntKind.u64 0)] := by kernel_rfl
theorem zfl14 : zflat Try.prog 14 = some (.agg [.sc (Value.string { data := #[] }), .sc (Value.int IntKind.u64 0)]) := by kernel_rfl
theorem tfo14_0 : tfo Try.prog 14 0 = some (0, 9) := by kernel_rfl
theorem tfo14_1 : tfo Try.prog 14 1 = some (1, 12) := by kernel_rfl
theorem tfl14 : tflds Try.prog 14 = true := by kernel_rfl
theorem tze14 : tzero Try.prog 14 = some [Value.string { data := #[] }, Value.int IntKind.u64 0] := by kernel_rfl
theorem tsz15 : tsz Try.prog 15 = 1 := by kernel_rfl
theorem inf15 : (Try.prog.info? 15).isSome = true := by kernel_rfl
theorem agg15 : aggO Try.prog 15 = some false := by kernel_rfl
theorem ifc15 : isIface Try.prog 15 = some false := by kernel_rfl
theorem tce15 : tce Try.prog 15 = [0] := by kernel_rfl
theorem zvl15 : zvals Try.prog 15 = some [.sc (Value.pointer none)] := by kernel_rfl
theorem zfl15 : zflat Try.prog 15 = some (.sc (Value.pointer none)) := by kernel_rfl
theorem tpt15 : isPtr Try.prog 15 = true := by kernel_rfl
theorem tsz16 : tsz Try.prog 16 = 1 := by kernel_rfl
theorem inf16 : (Try.prog.info? 16).isSome = true := by kernel_rfl
theorem agg16 : aggO Try.prog 16 = some false := by kernel_rfl
theorem ifc16 : isIface Try.prog 16 = some false := by kernel_rfl
theorem tce16 : tce Try.prog 16 = [0] := by kernel_rfl
theorem zvl16 : zvals Try.prog 16 = some [.sc (Value.pointer none)] := by kernel_rfl
theorem zfl16 : zflat Try.prog 16 = some (.sc (Value.pointer none)) := by kernel_rfl
theorem tpt16 : isPtr Try.prog 16 = true := by kernel_rfl
theorem tsz17 : tsz Try.prog 17 = 1 := by kernel_rfl
theorem inf17 : (Try.prog.info? 17).isSome = true := by kernel_rfl
theorem agg17 : aggO Try.prog 17 = some false := by kernel_rfl
theorem ifc17 : isIface Try.prog 17 = some false := by kernel_rfl
theorem tce17 : tce Try.prog 17 = [0] := by kernel_rfl
theorem zvl17 : zvals Try.prog 17 = some [.sc (Value.pointer none)] := by kernel_rfl
theorem zfl17 : zflat Try.prog 17 = some (.sc (Value.pointer none)) := by kernel_rfl
theorem tpt17 : isPtr Try.prog 17 = true := by kernel_rfl
theorem tsz18 : tsz Try.prog 18 = 1 := by kernel_rfl
theorem inf18 : (Try.prog.info? 18).isSome = true := by kernel_rfl
theorem agg18 : aggO Try.prog 18 = some true := by kernel_rfl
theorem ifc18 : isIface Try.prog 18 = some false := by kernel_rfl
theorem tce18 : tce Try.prog 18 = [0] := by kernel_rfl
theorem zvl18 : zvals Try.prog 18 = some [.sc (Value.pointer none)] := by kernel_rfl
theorem zfl18 : zflat Try.prog 18 = some (.agg [.sc (Value.pointer none)]) := by kernel_rfl
theorem tfo18_0 : tfo Try.prog 18 0 = some (0, 17) := by kernel_rfl
theorem tfl18 : tflds Try.prog 18 = true := by kernel_rfl
theorem tze18 : tzero Try.prog 18 = some [Value.pointer none] := by kernel_rfl
theorem tsz19 : tsz Try.prog 19 = 1 := by kernel_rfl
theorem inf19 : (Try.prog.info? 19).isSome = true := by kernel_rfl
theorem agg19 : aggO Try.prog 19 = some true := by kernel_rfl
theorem ifc19 : isIface Try.prog 19 = some false := by kernel_rfl
theorem tce19 : tce Try.prog 19 = [0] := by kernel_rfl
theorem zvl19 : zvals Try.prog 19 = some [.sc (Value.pointer none)] := by kernel_rfl
theorem zfl19 : zflat Try.prog 19 = some (.agg [.sc (Value.pointer none)]) := by kernel_rfl
theorem tfo19_0 : tfo Try.prog 19 0 = some (0, 17) := by kernel_rfl
theorem tfl19 : tflds Try.prog 19 = true := by kernel_rfl
theorem tze19 : tzero Try.prog 19 = some [Value.pointer none] := by kernel_rfl
theorem tsz20 : tsz Try.prog 20 = 1 := by kernel_rfl
theorem inf20 : (Try.prog.info? 20).isSome = true := by kernel_rfl
theorem agg20 : aggO Try.prog 20 = some false := by kernel_rfl
theorem ifc20 : isIface Try.prog 20 = some true := by kernel_rfl
theorem tce20 : tce Try.prog 20 = [0] := by kernel_rfl
theorem zvl20 : zvals Try.prog 20 = some [.sc (Value.nilIface)] := by kernel_rfl
theorem tif20 : isIf Try.prog 20 = true := by kernel_rfl
theorem tsz21 : tsz Try.prog 21 = 1 := by kernel_rfl
theorem inf21 : (Try.prog.info? 21).isSome = true := by kernel_rfl
theorem agg21 : aggO Try.prog 21 = some false := by kernel_rfl
theorem ifc21 : isIface Try.prog 21 = some false := by kernel_rfl
theorem tce21 : tce Try.prog 21 = [0] := by kernel_rfl
theorem zvl21 : zvals Try.prog 21 = some [.sc (Value.int IntKind.i32 0)] := by kernel_rfl
theorem zfl21 : zflat Try.prog 21 = some (.sc (Value.int IntKind.i32 0)) := by kernel_rfl
theorem tit21 : tint Try.prog 21 = some .i32 := by kernel_rfl
theorem tsz22 : tsz Try.prog 22 = 1 := by kernel_rfl
theorem inf22 : (Try.prog.info? 22).isSome = true := by kernel_rfl
theorem agg22 : aggO Try.prog 22 = some false := by kernel_rfl
theorem ifc22 : isIface Try.prog 22 = some false := by kernel_rfl
theorem tce22 : tce Try.prog 22 = [4] := by kernel_rfl
theorem zvl22 : zvals Try.prog 22 = some [.sc (Value.slice none 0 0)] := by kernel_rfl
theorem zfl22 : zflat Try.prog 22 = some (.sc (Value.slice none 0 0)) := by kernel_rfl
theorem tel22 : tel Try.prog 22 = some 90 := by kernel_rfl
theorem tsl22 : tslice Try.prog 22 = true := by kernel_rfl
theorem tap22 : tapp Try.prog 22 = some 90 := by kernel_rfl
theorem tst22 : tstr Try.prog 22 = false := by kernel_rfl
theorem tsz23 : tsz Try.prog 23 = 1 := by kernel_rfl
theorem inf23 : (Try.prog.info? 23).isSome = true := by kernel_rfl
theorem agg23 : aggO Try.prog 23 = some true := by kernel_rfl
theorem ifc23 : isIface Try.prog 23 = some false := by kernel_rfl
theorem tce23 : tce Try.prog 23 = [4] := by kernel_rfl
theorem zvl23 : zvals Try.prog 23 = some [.sc (Value.slice none 0 0)] := by kernel_rfl
theorem zfl23 : zflat Try.prog 23 = some (.agg [.sc (Value.slice none 0 0)]) := by kernel_rfl
theorem tfo23_0 : tfo Try.prog 23 0 = some (0, 22) := by kernel_rfl
theorem tfl23 : tflds Try.prog 23 = true := by kernel_rfl
theorem tze23 : tzero Try.prog 23 = some [Value.slice none 0 0] := by kernel_rfl
theorem tsz24 : tsz Try.prog 24 = 1 := by kernel_rfl
theorem inf24 : (Try.prog.info? 24).isSome = true := by kernel_rfl
theorem agg24 : aggO Try.prog 24 = some true := by kernel_rfl
theorem ifc24 : isIface Try.prog 24 = some false := by kernel_rfl
theorem tce24 : tce Try.prog 24 = [4] := by kernel_rfl
theorem zvl24 : zvals Try.prog 24 = some [.sc (Value.slice none 0 0)] := by kernel_rfl
theorem zfl24 : zflat Try.prog 24 = some (.agg [.sc (Value.slice none 0 0)]) := by kernel_rfl
theorem tfo24_0 : tfo Try.prog 24 0 = some (0, 22) := by kernel_rfl
theorem tfl24 : tflds Try.prog 24 = true := by kernel_rfl
theorem tze24 : tzero Try.prog 24 = some [Value.slice none 0 0] := by kernel_rfl
theorem tsz26 : tsz Try.prog 26 = 1 := by kernel_rfl
theorem inf26 : (Try.prog.info? 26).isSome = true := by kernel_rfl
theorem agg26 : aggO Try.prog 26 = some false := by kernel_rfl
theorem ifc26 : isIface Try.prog 26 = some false := by kernel_rfl
theorem tce26 : tce Try.prog 26 = [4] := by kernel_rfl
theorem zvl26 : zvals Try.prog 26 = some [.sc (Value.slice none 0 0)] := by kernel_rfl
theorem zfl26 : zflat Try.prog 26 = some (.sc (Value.slice none 0 0)) := by kernel_rfl
theorem tel26 : tel Try.prog 26 = some 50 := by kernel_rfl
theorem tsl26 : tslice Try.prog 26 = true := by kernel_rfl
theorem tap26 : tapp Try.prog 26 = some 50 := by kernel_rfl
theorem tst26 : tstr Try.prog 26 = false := by kernel_rfl
theorem tsz27 : tsz Try.prog 27 = 1 := by kernel_rfl
theorem inf27 : (Try.prog.info? 27).isSome = true := by kernel_rfl
theorem agg27 : aggO Try.prog 27 = some true := by kernel_rfl
theorem ifc27 : isIface Try.prog 27 = some false := by kernel_rfl
theorem tce27 : tce Try.prog 27 = [4] := by kernel_rfl
theorem zvl27 : zvals Try.prog 27 = some [.sc (Value.slice none 0 0)] := by kernel_rfl
theorem zfl27 : zflat Try.prog 27 = some (.agg [.sc (Value.slice none 0 0)]) := by kernel_rfl
theorem tfo27_0 : tfo Try.prog 27 0 = some (0, 26) := by kernel_rfl
theorem tfl27 : tflds Try.prog 27 = true := by kernel_rfl
theorem tze27 : tzero Try.prog 27 = some [Value.slice none 0 0] := by kernel_rfl
theorem tsz28 : tsz Try.prog 28 = 1 := by kernel_rfl
theorem inf28 : (Try.prog.info? 28).isSome = true := by kernel_rfl
theorem agg28 : aggO Try.prog 28 = some true := by kernel_rfl
theorem ifc28 : isIface Try.prog 28 = some false := by kernel_rfl
theorem tce28 : tce Try.prog 28 = [4] := by kernel_rfl
theorem zvl28 : zvals Try.prog 28 = some [.sc (Value.slice none 0 0)] := by kernel_rfl
theorem zfl28 : zflat Try.prog 28 = some (.agg [.sc (Value.slice none 0 0)]) := by kernel_rfl
theorem tfo28_0 : tfo Try.prog 28 0 = some (0, 26) := by kernel_rfl
theorem tfl28 : tflds Try.prog 28 = true := by kernel_rfl
theorem tze28 : tzero Try.prog 28 = some [Value.slice none 0 0] := by kernel_rfl
theorem tsz37 : tsz Try.prog 37 = 1 := by kernel_rfl
theorem inf37 : (Try.prog.info? 37).isSome = true := by kernel_rfl
theorem agg37 : aggO Try.prog 37 = some false := by kernel_rfl
theorem ifc37 : isIface Try.prog 37 = some false := by kernel_rfl
theorem tce37 : tce Try.prog 37 = [1] := by kernel_rfl
theorem zvl37 : zvals Try.prog 37 = some [.sc (Value.slice none 0 0)] := by kernel_rfl
theorem zfl37 : zflat Try.prog 37 = some (.sc (Value.slice none 0 0)) := by kernel_rfl
theorem tel37 : tel Try.prog 37 = some 5 := by kernel_rfl
theorem tsl37 : tslice Try.prog 37 = true := by kernel_rfl
theorem tap37 : tapp Try.prog 37 = some 5 := by kernel_rfl
theorem tst37 : tstr Try.prog 37 = false := by kernel_rfl
theorem tsz41 : tsz Try.prog 41 = 1 := by kernel_rfl
theorem inf41 : (Try.prog.info? 41).isSome = true := by kernel_rfl
theorem agg41 : aggO Try.prog 41 = some false := by kernel_rfl
theorem ifc41 : isIface Try.prog 41 = some false := by kernel_rfl
theorem tce41 : tce Try.prog 41 = [1] := by kernel_rfl
theorem zvl41 : zvals Try.prog 41 = some [.sc (Value.slice none 0 0)] := by kernel_rfl
theorem zfl41 : zflat Try.prog 41 = some (.sc (Value.slice none 0 0)) := by kernel_rfl
theorem tel41 : tel Try.prog 41 = some 3 := by kernel_rfl
theorem tsl41 : tslice Try.prog 41 = true := by kernel_rfl
theorem tap41 : tapp Try.prog 41 = some 3 := by kernel_rfl
theorem tst41 : tstr Try.prog 41 = false := by kernel_rfl
theorem tsz47 : tsz Try.prog 47 = 1 := by kernel_rfl
theorem inf47 : (Try.prog.info? 47).isSome = true := by kernel_rfl
theorem agg47 : aggO Try.prog 47 = some false := by kernel_rfl
theorem ifc47 : isIface Try.prog 47 = some false := by kernel_rfl
theorem tce47 : tce Try.prog 47 = [4] := by kernel_rfl
theorem zvl47 : zvals Try.prog 47 = some [.sc (Value.slice none 0 0)] := by kernel_rfl
theorem zfl47 : zflat Try.prog 47 = some (.sc (Value.slice none 0 0)) := by kernel_rfl
theorem tel47 : tel Try.prog 47 = some 69 := by kernel_rfl
theorem tsl47 : tslice Try.prog 47 = true := by kernel_rfl
theorem tap47 : tapp Try.prog 47 = some 69 := by kernel_rfl
theorem tst47 : tstr Try.prog 47 = false := by kernel_rfl
theorem tsz49 : tsz Try.prog 49 = 4 := by kernel_rfl
theorem inf49 : (Try.prog.info? 49).isSome = true := by kernel_rfl
theorem agg49 : aggO Try.prog 49 = some true := by kernel_rfl
theorem ifc49 : isIface Try.prog 49 = some false := by kernel_rfl
theorem tce49 : tce Try.prog 49 = [0, 0, 1, 4] := by kernel_rfl
theorem zvl49 : zvals Try.prog 49 = some [.sc (Value.int IntKind.i64 0), .sc (Value.int IntKind.i64 0), .sc (Value.slice none 0 0), .sc (Value.slice none 0 0)] := by kernel_rfl
theorem zfl49 : zflat Try.prog 49 = some (.agg [.sc (Value.int IntKind.i64 0), .sc (Value.int IntKind.i64 0), .sc (Value.slice none 0 0), .sc (Value.slice none 0 0)]) := by kernel_rfl
theorem tfo49_0 : tfo Try.prog 49 0 = some (0, 3) := by kernel_rfl
theorem tfo49_1 : tfo Try.prog 49 1 = some (1, 3) := by kernel_rfl
theorem tfo49_2 : tfo Try.prog 49 2 = some (2, 41) := by kernel_rfl
theorem tfo49_3 : tfo Try.prog 49 3 = some (3, 47) := by kernel_rfl
theorem tfl49 : tflds Try.prog 49 = true := by kernel_rfl
theorem tze49 : tzero Try.prog 49 = some [Value.int IntKind.i64 0, Value.int IntKind.i64 0, Value.slice none 0 0, Value.slice none 0 0] := by kernel_rfl
theorem tsz50 : tsz Try.prog 50 = 4 := by kernel_rfl
theorem inf50 : (Try.prog.info? 50).isSome = true := by kernel_rfl
theorem agg50 : aggO Try.prog 50 = some true := by kernel_rfl
theorem ifc50 : isIface Try.prog 50 = some false := by kernel_rfl
theorem tce50 : tce Try.prog 50 = [0, 0, 1, 4] := by kernel_rfl
theorem zvl50 : zvals Try.prog 50 = some [.sc (Value.int IntKind.i64 0), .sc (Value.int IntKind.i64 0), .sc (Value.slice none 0 0), .sc (Value.slice none 0 0)] := by kernel_rfl
theorem zfl50 : zflat Try.prog 50 = some (.agg [.sc (Value.int IntKind.i64 0), .sc (Value.int IntKind.i64 0), .sc (Value.slice none 0 0), .sc (Value.slice none 0 0)]) := by kernel_rfl
theorem tfo50_0 : tfo Try.prog 50 0 = some (0, 3) := by kernel_rfl
theorem tfo50_1 : tfo Try.prog 50 1 = some (1, 3) := by kernel_rfl
theorem tfo50_2 : tfo Try.prog 50 2 = some (2, 41) := by kernel_rfl
theorem tfo50_3 : tfo Try.prog 50 3 = some (3, 47) := by kernel_rfl
theorem tfl50 : tflds Try.prog 50 = true := by kernel_rfl
theorem tze50 : tzero Try.prog 50 = some [Value.int IntKind.i64 0, Value.int IntKind.i64 0, Value.slice none 0 0, Value.slice none 0 0] := by kernel_rfl
theorem tsz52 : tsz Try.prog 52 = 1 := by kernel_rfl
theorem inf52 : (Try.prog.info? 52).isSome = true := by kernel_rfl
theorem agg52 : aggO Try.prog 52 = some false := by kernel_rfl
theorem ifc52 : isIface Try.prog 52 = some false := by kernel_rfl
theorem tce52 : tce Try.prog 52 = [1] := by kernel_rfl
theorem zvl52 : zvals Try.prog 52 = some [.sc (Value.slice none 0 0)] := by kernel_rfl
theorem zfl52 : zflat Try.prog 52 = some (.sc (Value.slice none 0 0)) := by kernel_rfl
theorem tel52 : tel Try.prog 52 = some 41 := by kernel_rfl
theorem tsl52 : tslice Try.prog 52 = true := by kernel_rfl
theorem tap52 : tapp Try.prog 52 = some 41 := by kernel_rfl
theorem tst52 : tstr Try.prog 52 = false := by kernel_rfl
theorem tsz55 : tsz Try.prog 55 = 1 := by kernel_rfl
theorem inf55 : (Try.prog.info? 55).isSome = true := by kernel_rfl
theorem agg55 : aggO Try.prog 55 = some false := by kernel_rfl
theorem ifc55 : isIface Try.prog 55 = some false := by kernel_rfl
theorem tce55 : tce Try.prog 55 = [1] := by kernel_rfl
theorem zvl55 : zvals Try.prog 55 = some [.sc (Value.slice none 0 0)] := by kernel_rfl
theorem zfl55 : zflat Try.prog 55 = some (.sc (Value.slice none 0 0)) := by kernel_rfl
theorem tel55 : tel Try.prog 55 = some 57 := by kernel_rfl
theorem tsl55 : tslice Try.prog 55 = true := by kernel_rfl
theorem tap55 : tapp Try.prog 55 = some 57 := by kernel_rfl
theorem tst55 : tstr Try.prog 55 = false := by kernel_rfl
theorem tsz57 : tsz Try.prog 57 = 1 := by kernel_rfl
theorem inf57 : (Try.prog.info? 57).isSome = true := by kernel_rfl
theorem agg57 : aggO Try.prog 57 = some false := by kernel_rfl
theorem ifc57 : isIface Try.prog 57 = some false := by kernel_rfl
theorem tce57 : tce Try.prog 57 = [0] := by kernel_rfl
theorem zvl57 : zvals Try.prog 57 = some [.sc (Value.pointer none)] := by kernel_rfl
theorem zfl57 : zflat Try.prog 57 = some (.sc (Value.pointer none)) := by kernel_rfl
theorem tpt57 : isPtr Try.prog 57 = true := by kernel_rfl
theorem tsz59 : tsz Try.prog 59 = 1 := by kernel_rfl
theorem inf59 : (Try.prog.info? 59).isSome = true := by kernel_rfl
theorem agg59 : aggO Try.prog 59 = some false := by kernel_rfl
theorem ifc59 : isIface Try.prog 59 = some false := by kernel_rfl
theorem tce59 : tce Try.prog 59 = [1] := by kernel_rfl
theorem zvl59 : zvals Try.prog 59 = some [.sc (Value.slice none 0 0)] := by kernel_rfl
theorem zfl59 : zflat Try.prog 59 = some (.sc (Value.slice none 0 0)) := by kernel_rfl
theorem tel59 : tel Try.prog 59 = some 41 := by kernel_rfl
theorem tsl59 : tslice Try.prog 59 = true := by kernel_rfl
theorem tap59 : tapp Try.prog 59 = some 41 := by kernel_rfl
theorem tst59 : tstr Try.prog 59 = false := by kernel_rfl
theorem tsz68 : tsz Try.prog 68 = 4 := by kernel_rfl
theorem inf68 : (Try.prog.info? 68).isSome = true := by kernel_rfl
theorem agg68 : aggO Try.prog 68 = some true := by kernel_rfl
theorem ifc68 : isIface Try.prog 68 = some false := by kernel_rfl
theorem tce68 : tce Try.prog 68 = [0, 0, 0, 0] := by kernel_rfl
theorem zvl68 : zvals Try.prog 68 = some [.sc (Value.int IntKind.i64 0), .sc (Value.int IntKind.i64 0), .sc (Value.int IntKind.i64 0), .sc (Value.int IntKind.i64 0)] := by kernel_rfl
theorem zfl68 : zflat Try.prog 68 = some (.agg [.sc (Value.int IntKind.i64 0), .sc (Value.int IntKind.i64 0), .sc (Value.int IntKind.i64 0), .sc (Value.int IntKind.i64 0)]) := by kernel_rfl
theorem tfo68_0 : tfo Try.prog 68 0 = some (0, 3) := by kernel_rfl
theorem tfo68_1 : tfo Try.prog 68 1 = some (1, 3) := by kernel_rfl
theorem tfo68_2 : tfo Try.prog 68 2 = some (2, 3) := by kernel_rfl
theorem tfo68_3 : tfo Try.prog 68 3 = some (3, 3) := by kernel_rfl
theorem tfl68 : tflds Try.prog 68 = true := by kernel_rfl
theorem tze68 : tzero Try.prog 68 = some [Value.int IntKind.i64 0, Value.int IntKind.i64 0, Value.int IntKind.i64 0, Value.int IntKind.i64 0] := by kernel_rfl
theorem tin68 : tints Try.prog 68 = some 4 := by kernel_rfl
theorem tsz69 : tsz Try.prog 69 = 4 := by kernel_rfl
theorem inf69 : (Try.prog.info? 69).isSome = true := by kernel_rfl
theorem agg69 : aggO Try.prog 69 = some true := by kernel_rfl
theorem ifc69 : isIface Try.prog 69 = some false := by kernel_rfl
theorem tce69 : tce Try.prog 69 = [0, 0, 0, 0] := by kernel_rfl
theorem zvl69 : zvals Try.prog 69 = some [.sc (Value.int IntKind.i64 0), .sc (Value.int IntKind.i64 0), .sc (Value.int IntKind.i64 0), .sc (Value.int IntKind.i64 0)] := by kernel_rfl
theorem zfl69 : zflat Try.prog 69 = some (.agg [.sc (Value.int IntKind.i64 0), .sc (Value.int IntKind.i64 0), .sc (Value.int IntKind.i64 0), .sc (Value.int IntKind.i64 0)]) := by kernel_rfl
theorem tfo69_0 : tfo Try.prog 69 0 = some (0, 3) := by kernel_rfl
theorem tfo69_1 : tfo Try.prog 69 1 = some (1, 3) := by kernel_rfl
theorem tfo69_2 : tfo Try.prog 69 2 = some (2, 3) := by kernel_rfl
theorem tfo69_3 : tfo Try.prog 69 3 = some (3, 3) := by kernel_rfl
theorem tfl69 : tflds Try.prog 69 = true := by kernel_rfl
theorem tze69 : tzero Try.prog 69 = some [Value.int IntKind.i64 0, Value.int IntKind.i64 0, Value.int IntKind.i64 0, Value.int IntKind.i64 0] := by kernel_rfl
theorem tin69 : tints Try.prog 69 = some 4 := by kernel_rfl
theorem tsz74 : tsz Try.prog 74 = 1 := by kernel_rfl
theorem inf74 : (Try.prog.info? 74).isSome = true := by kernel_rfl
theorem agg74 : aggO Try.prog 74 = some false := by kernel_rfl
theorem ifc74 : isIface Try.prog 74 = some false := by kernel_rfl
theorem tce74 : tce Try.prog 74 = [0] := by kernel_rfl
theorem zvl74 : zvals Try.prog 74 = some [.sc (Value.pointer none)] := by kernel_rfl
theorem zfl74 : zflat Try.prog 74 = some (.sc (Value.pointer none)) := by kernel_rfl
theorem tpt74 : isPtr Try.prog 74 = true := by kernel_rfl
theorem tsz81 : tsz Try.prog 81 = 8 := by kernel_rfl
theorem inf81 : (Try.prog.info? 81).isSome = true := by kernel_rfl
theorem agg81 : aggO Try.prog 81 = some true := by kernel_rfl
theorem ifc81 : isIface Try.prog 81 = some false := by kernel_rfl
theorem tce81 : tce Try.prog 81 = [0, 0, 0, 0, 0, 0, 0, 0] := by kernel_rfl
theorem zvl81 : zvals Try.prog 81 = some [.sc (Value.bool false), .sc (Value.bool false), .sc (Value.bool false), .sc (Value.bool false), .sc (Value.bool false), .sc (Value.bool false), .sc (Value.bool false), .sc (Value.bool false)] := by kernel_rfl
theorem zfl81 : zflat Try.prog 81 = some (.agg [.sc (Value.bool false), .sc (Value.bool false), .sc (Value.bool false), .sc (Value.bool false), .sc (Value.bool false), .sc (Value.bool false), .sc (Value.bool false), .sc (Value.bool false)]) := by kernel_rfl
theorem tel81 : tel Try.prog 81 = none := by kernel_rfl
theorem tar81 : tarr Try.prog 81 = some (8, 4) := by kernel_rfl
theorem tsz82 : tsz Try.prog 82 = 8 := by kernel_rfl
theorem inf82 : (Try.prog.info? 82).isSome = true := by kernel_rfl
theorem agg82 : aggO Try.prog 82 = some true := by kernel_rfl
theorem ifc82 : isIface Try.prog 82 = some false := by kernel_rfl
theorem tce82 : tce Try.prog 82 = [0, 0, 0, 0, 0, 0, 0, 0] := by kernel_rfl
theorem zvl82 : zvals Try.prog 82 = some [.sc (Value.bool false), .sc (Value.bool false), .sc (Value.bool false), .sc (Value.bool false), .sc (Value.bool false), .sc (Value.bool false), .sc (Value.bool false), .sc (Value.bool false)] := by kernel_rfl
theorem zfl82 : zflat Try.prog 82 = some (.agg [.sc (Value.bool false), .sc (Value.bool false), .sc (Value.bool false), .sc (Value.bool false), .sc (Value.bool false), .sc (Value.bool false), .sc (Value.bool false), .sc (Value.bool false)]) := by kernel_rfl
theorem tel82 : tel Try.prog 82 = none := by kernel_rfl
theorem tar82 : tarr Try.prog 82 = some (8, 4) := by kernel_rfl
theorem tsz88 : tsz Try.prog 88 = 1 := by kernel_rfl
theorem inf88 : (Try.prog.info? 88).isSome = true := by kernel_rfl
theorem agg88 : aggO Try.prog 88 = some false := by kernel_rfl
theorem ifc88 : isIface Try.prog 88 = some false := by kernel_rfl
theorem tce88 : tce Try.prog 88 = [4] := by kernel_rfl
theorem zvl88 : zvals Try.prog 88 = some [.sc (Value.slice none 0 0)] := by kernel_rfl
theorem zfl88 : zflat Try.prog 88 = some (.sc (Value.slice none 0 0)) := by kernel_rfl
theorem tel88 : tel Try.prog 88 = some 145 := by kernel_rfl
theorem tsl88 : tslice Try.prog 88 = true := by kernel_rfl
theorem tap88 : tapp Try.prog 88 = some 145 := by kernel_rfl
theorem tst88 : tstr Try.prog 88 = false := by kernel_rfl
theorem tsz89 : tsz Try.prog 89 = 4 := by kernel_rfl
theorem inf89 : (Try.prog.info? 89).isSome = true := by kernel_rfl
theorem agg89 : aggO Try.prog 89 = some true := by kernel_rfl
theorem ifc89 : isIface Try.prog 89 = some false := by kernel_rfl
theorem tce89 : tce Try.prog 89 = [0, 0, 1, 4] := by kernel_rfl
theorem zvl89 : zvals Try.prog 89 = some [.sc (Value.int IntKind.i64 0), .sc (Value.int IntKind.i64 0), .sc (Value.slice none 0 0), .sc (Value.slice none 0 0)] := by kernel_rfl
theorem zfl89 : zflat Try.prog 89 = some (.agg [.sc (Value.int IntKind.i64 0), .sc (Value.int IntKind.i64 0), .sc (Value.slice none 0 0), .sc (Value.slice none 0 0)]) := by kernel_rfl
theorem tfo89_0 : tfo Try.prog 89 0 = some (0, 3) := by kernel_rfl
theorem tfo89_1 : tfo Try.prog 89 1 = some (1, 3) := by kernel_rfl
theorem tfo89_2 : tfo Try.prog 89 2 = some (2, 41) := by kernel_rfl
theorem tfo89_3 : tfo Try.prog 89 3 = some (3, 88) := by kernel_rfl
theorem tfl89 : tflds Try.prog 89 = true := by kernel_rfl
theorem tze89 : tzero Try.prog 89 = some [Value.int IntKind.i64 0, Value.int IntKind.i64 0, Value.slice none 0 0, Value.slice none 0 0] := by kernel_rfl
theorem tsz90 : tsz Try.prog 90 = 4 := by kernel_rfl
theorem inf90 : (Try.prog.info? 90).isSome = true := by kernel_rfl
theorem agg90 : aggO Try.prog 90 = some true := by kernel_rfl
theorem ifc90 : isIface Try.prog 90 = some false := by kernel_rfl
theorem tce90 : tce Try.prog 90 = [0, 0, 1, 4] := by kernel_rfl
theorem zvl90 : zvals Try.prog 90 = some [.sc (Value.int IntKind.i64 0), .sc (Value.int IntKind.i64 0), .sc (Value.slice none 0 0), .sc (Value.slice none 0 0)] := by kernel_rfl
theorem zfl90 : zflat Try.prog 90 = some (.agg [.sc (Value.int IntKind.i64 0), .sc (Value.int IntKind.i64 0), .sc (Value.slice none 0 0), .sc (Value.slice none 0 0)]) := by kernel_rfl
theorem tfo90_0 : tfo Try.prog 90 0 = some (0, 3) := by kernel_rfl
theorem tfo90_1 : tfo Try.prog 90 1 = some (1, 3) := by kernel_rfl
theorem tfo90_2 : tfo Try.prog 90 2 = some (2, 41) := by kernel_rfl
theorem tfo90_3 : tfo Try.prog 90 3 = some (3, 88) := by kernel_rfl
theorem tfl90 : tflds Try.prog 90 = true := by kernel_rfl
theorem tze90 : tzero Try.prog 90 = some [Value.int IntKind.i64 0, Value.int IntKind.i64 0, Value.slice none 0 0, Value.slice none 0 0] := by kernel_rfl
theorem tsz97 : tsz Try.prog 97 = 43 := by kernel_rfl
theorem inf97 : (Try.prog.info? 97).isSome = true := by kernel_rfl
theorem agg97 : aggO Try.prog 97 = some true := by kernel_rfl
theorem ifc97 : isIface Try.prog 97 = some false := by kernel_rfl
theorem tce97 : tce Try.prog 97 = [0, 0, 0, 0, 0, 0, 0, 0, 0, 0, 0, 0, 0, 0, 0, 0, 0, 0, 0, 0, 0, 0, 0, 0, 0, 0, 0, 0, 0, 0, 0, 0, 0, 0, 0, 0, 0, 0, 0, 0, 0, 0, 0] := by kernel_rfl
theorem zvl97 : zvals Try.prog 97 = some [.sc (Value.int IntKind.i64 0), .sc (Value.int IntKind.i64 0), .sc (Value.pointer none), .sc (Value.bool false), .sc (Value.bool false), .sc (Value.bool false), .sc (Value.bool false), .sc (Value.bool false), .sc (Value.bool false), .sc (Value.bool false), .sc (Value.bool false), .sc (Value.bool false), .sc (Value.bool false), .sc (Value.bool false), .sc (Value.bool false), .sc (Value.bool false), .sc (Value.bool false), .sc (Value.bool false), .sc (Value.bool false), .sc (Value.bool false), .sc (Value.bool false), .sc (Value.bool false), .sc (Value.bool false), .sc (Value.bool false), .sc (Value.bool false), .sc (Value.bool false), .sc (Value.bool false), .sc (Value.bool false), .sc (Value.bool false), .sc (Value.bool false), .sc (Value.bool false), .sc (Value.bool false), .sc (Value.bool false), .sc (Value.bool false), .sc (Value.bool false), .sc (Value.bool false), .sc (Value.bool false), .sc (Value.bool false), .sc (Value.bool false), .sc (Value.bool false), .sc (Value.bool false), .sc (Value.bool false), .sc (Value.bool false)] := by kernel_rfl
theorem zfl97 : zflat Try.prog 97 = some (.agg [.sc (Value.int IntKind.i64 0), .sc (Value.int IntKind.i64 0), .sc (Value.pointer none), .sc (Value.bool false), .sc (Value.bool false), .sc (Value.bool false), .sc (Value.bool false), .sc (Value.bool false), .sc (Value.bool false), .sc (Value.bool false), .sc (Value.bool false), .sc (Value.bool false), .sc (Value.bool false), .sc (Value.bool false), .sc (Value.bool false), .sc (Value.bool false), .sc (Value.bool false), .sc (Value.bool false), .sc (Value.bool false), .sc (Value.bool false), .sc (Value.bool false), .sc (Value.bool false), .sc (Value.bool false), .sc (Value.bool false), .sc (Value.bool false), .sc (Value.bool false), .sc (Value.bool false), .sc (Value.bool false), .sc (Value.bool false), .sc (Value.bool false), .sc (Value.bool false), .sc (Value.bool false), .sc (Value.bool false), .sc (Value.bool false), .sc (Value.bool false), .sc (Value.bool false), .sc (Value.bool false), .sc (Value.bool false), .sc (Value.bool false), .sc (Value.bool false), .sc (Value.bool false), .sc (Value.bool false), .sc (Value.bool false)]) := by kernel_rfl
theorem tfo97_0 : tfo Try.prog 97 0 = some (0, 3) := by kernel_rfl
theorem tfo97_1 : tfo Try.prog 97 1 = some (1, 3) := by kernel_rfl
theorem tfo97_2 : tfo Try.prog 97 2 = some (2, 57) := by kernel_rfl
theorem tfo97_3 : tfo Try.prog 97 3 = some (3, 82) := by kernel_rfl
theorem tfo97_4 : tfo Try.prog 97 4 = some (11, 82) := by kernel_rfl
theorem tfo97_5 : tfo Try.prog 97 5 = some (19, 82) := by kernel_rfl
theorem tfo97_6 : tfo Try.prog 97 6 = some (27, 82) := by kernel_rfl
theorem tfo97_7 : tfo Try.prog 97 7 = some (35, 82) := by kernel_rfl
theorem tfl97 : tflds Try.prog 97 = true := by kernel_rfl
theorem tze97 : tzero Try.prog 97 = some [Value.int IntKind.i64 0, Value.int IntKind.i64 0, Value.pointer none, Value.bool false, Value.bool false, Value.bool false, Value.bool false, Value.bool false, Value.bool false, Value.bool false, Value.bool false, Value.bool false, Value.bool false, Value.bool false, Value.bool false, Value.bool false, Value.bool false, Value.bool false, Value.bool false, Value.bool false, Value.bool false, Value.bool false, Value.bool false, Value.bool false, Value.bool false, Value.bool false, Value.bool false, Value.bool false, Value.bool false, Value.bool false, Value.bool false, Value.bool false, Value.bool false, Value.bool false, Value.bool false, Value.bool false, Value.bool false, Value.bool false, Value.bool false, Value.bool false, Value.bool false, Value.bool false, Value.bool false] := by kernel_rfl
theorem tsz98 : tsz Try.prog 98 = 43 := by kernel_rfl
theorem inf98 : (Try.prog.info? 98).isSome = true := by kernel_rfl
theorem agg98 : aggO Try.prog 98 = some true := by kernel_rfl
theorem ifc98 : isIface Try.prog 98 = some false := by kernel_rfl
theorem tce98 : tce Try.prog 98 = [0, 0, 0, 0, 0, 0, 0, 0, 0, 0, 0, 0, 0, 0, 0, 0, 0, 0, 0, 0, 0, 0, 0, 0, 0, 0, 0, 0, 0, 0, 0, 0, 0, 0, 0, 0, 0, 0, 0, 0, 0, 0, 0] := by kernel_rfl
theorem zvl98 : zvals Try.prog 98 = some [.sc (Value.int IntKind.i64 0), .sc (Value.int IntKind.i64 0), .sc (Value.pointer none), .sc (Value.bool false), .sc (Value.bool false), .sc (Value.bool false), .sc (Value.bool false), .sc (Value.bool false), .sc (Value.bool false), .sc (Value.bool false), .sc (Value.bool false), .sc (Value.bool false), .sc (Value.bool false), .sc (Value.bool false), .sc (Value.bool false), .sc (Value.bool false), .sc (Value.bool false), .sc (Value.bool false), .sc (Value.bool false), .sc (Value.bool false), .sc (Value.bool false), .sc (Value.bool false), .sc (Value.bool false), .sc (Value.bool false), .sc (Value.bool false), .sc (Value.bool false), .sc (Value.bool false), .sc (Value.bool false), .sc (Value.bool false), .sc (Value.bool false), .sc (Value.bool false), .sc (Value.bool false), .sc (Value.bool false), .sc (Value.bool false), .sc (Value.bool false), .sc (Value.bool false), .sc (Value.bool false), .sc (Value.bool false), .sc (Value.bool false), .sc (Value.bool false), .sc (Value.bool false), .sc (Value.bool false), .sc (Value.bool false)] := by kernel_rfl
theorem zfl98 : zflat Try.prog 98 = some (.agg [.sc (Value.int IntKind.i64 0), .sc (Value.int IntKind.i64 0), .sc (Value.pointer none), .sc (Value.bool false), .sc (Value.bool false), .sc (Value.bool false), .sc (Value.bool false), .sc (Value.bool false), .sc (Value.bool false), .sc (Value.bool false), .sc (Value.bool false), .sc (Value.bool false), .sc (Value.bool false), .sc (Value.bool false), .sc (Value.bool false), .sc (Value.bool false), .sc (Value.bool false), .sc (Value.bool false), .sc (Value.bool false), .sc (Value.bool false), .sc (Value.bool false), .sc (Value.bool false), .sc (Value.bool false), .sc (Value.bool false), .sc (Value.bool false), .sc (Value.bool false), .sc (Value.bool false), .sc (Value.bool false), .sc (Value.bool false), .sc (Value.bool false), .sc (Value.bool false), .sc (Value.bool false), .sc (Value.bool false), .sc (Value.bool false), .sc (Value.bool false), .sc (Value.bool false), .sc (Value.bool false), .sc (Value.bool false), .sc (Value.bool false), .sc (Value.bool false), .sc (Value.bool false), .sc (Value.bool false), .sc (Value.bool false)]) := by kernel_rfl
theorem tfo98_0 : tfo Try.prog 98 0 = some (0, 3) := by kernel_rfl
theorem tfo98_1 : tfo Try.prog 98 1 = some (1, 3) := by kernel_rfl
theorem tfo98_2 : tfo Try.prog 98 2 = some (2, 57) := by kernel_rfl
theorem tfo98_3 : tfo Try.prog 98 3 = some (3, 82) := by kernel_rfl
theorem tfo98_4 : tfo Try.prog 98 4 = some (11, 82) := by kernel_rfl
theorem tfo98_5 : tfo Try.prog 98 5 = some (19, 82) := by kernel_rfl
theorem tfo98_6 : tfo Try.prog 98 6 = some (27, 82) := by kernel_rfl
theorem tfo98_7 : tfo Try.prog 98 7 = some (35, 82) := by kernel_rfl
theorem tfl98 : tflds Try.prog 98 = true := by kernel_rfl
theorem tze98 : tzero Try.prog 98 = some [Value.int IntKind.i64 0, Value.int IntKind.i64 0, Value.pointer none, Value.bool false, Value.bool false, Value.bool false, Value.bool false, Value.bool false, Value.bool false, Value.bool false, Value.bool false, Value.bool false, Value.bool false, Value.bool false, Value.bool false, Value.bool false, Value.bool false, Value.bool false, Value.bool false, Value.bool false, Value.bool false, Value.bool false, Value.bool false, Value.bool false, Value.bool false, Value.bool false, Value.bool false, Value.bool false, Value.bool false, Value.bool false, Value.bool false, Value.bool false, Value.bool false, Value.bool false, Value.bool false, Value.bool false, Value.bool false, Value.bool false, Value.bool false, Value.bool false, Value.bool false, Value.bool false, Value.bool false] := by kernel_rfl
theorem tsz104 : tsz Try.prog 104 = 1 := by kernel_rfl
theorem inf104 : (Try.prog.info? 104).isSome = true := by kernel_rfl
theorem agg104 : aggO Try.prog 104 = some false := by kernel_rfl
theorem ifc104 : isIface Try.prog 104 = some false := by kernel_rfl
theorem tce104 : tce Try.prog 104 = [0] := by kernel_rfl
theorem zvl104 : zvals Try.prog 104 = some [.sc (Value.pointer none)] := by kernel_rfl
theorem zfl104 : zflat Try.prog 104 = some (.sc (Value.pointer none)) := by kernel_rfl
theorem tpt104 : isPtr Try.prog 104 = true := by kernel_rfl
theorem tsz106 : tsz Try.prog 106 = 1 := by kernel_rfl
theorem inf106 : (Try.prog.info? 106).isSome = true := by kernel_rfl
theorem agg106 : aggO Try.prog 106 = some false := by kernel_rfl
theorem ifc106 : isIface Try.prog 106 = some true := by kernel_rfl
theorem tce106 : tce Try.prog 106 = [0] := by kernel_rfl
theorem zvl106 : zvals Try.prog 106 = some [.sc (Value.nilIface)] := by kernel_rfl
theorem tif106 : isIf Try.prog 106 = true := by kernel_rfl
theorem tsz107 : tsz Try.prog 107 = 1 := by kernel_rfl
theorem inf107 : (Try.prog.info? 107).isSome = true := by kernel_rfl
theorem agg107 : aggO Try.prog 107 = some false := by kernel_rfl
theorem ifc107 : isIface Try.prog 107 = some true := by kernel_rfl
theorem tce107 : tce Try.prog 107 = [0] := by kernel_rfl
theorem zvl107 : zvals Try.prog 107 = some [.sc (Value.nilIface)] := by kernel_rfl
theorem tif107 : isIf Try.prog 107 = true := by kernel_rfl
theorem tsz109 : tsz Try.prog 109 = 1 := by kernel_rfl
theorem inf109 : (Try.prog.info? 109).isSome = true := by kernel_rfl
theorem agg109 : aggO Try.prog 109 = some true := by kernel_rfl
theorem ifc109 : isIface Try.prog 109 = some false := by kernel_rfl
theorem tce109 : tce Try.prog 109 = [0] := by kernel_rfl
theorem zvl109 : zvals Try.prog 109 = some [.sc (Value.int IntKind.i64 0)] := by kernel_rfl
theorem zfl109 : zflat Try.prog 109 = some (.agg [.sc (Value.int IntKind.i64 0)]) := by kernel_rfl
theorem tfo109_0 : tfo Try.prog 109 0 = some (0, 3) := by kernel_rfl
theorem tfl109 : tflds Try.prog 109 = true := by kernel_rfl
theorem tze109 : tzero Try.prog 109 = some [Value.int IntKind.i64 0] := by kernel_rfl
theorem tin109 : tints Try.prog 109 = some 1 := by kernel_rfl
theorem tsz110 : tsz Try.prog 110 = 1 := by kernel_rfl
theorem inf110 : (Try.prog.info? 110).isSome = true := by kernel_rfl
theorem agg110 : aggO Try.prog 110 = some true := by kernel_rfl
theorem ifc110 : isIface Try.prog 110 = some false := by kernel_rfl
theorem tce110 : tce Try.prog 110 = [0] := by kernel_rfl
theorem zvl110 : zvals Try.prog 110 = some [.sc (Value.int IntKind.i64 0)] := by kernel_rfl
theorem zfl110 : zflat Try.prog 110 = some (.agg [.sc (Value.int IntKind.i64 0)]) := by kernel_rfl
theorem tfo110_0 : tfo Try.prog 110 0 = some (0, 3) := by kernel_rfl
theorem tfl110 : tflds Try.prog 110 = true := by kernel_rfl
theorem tze110 : tzero Try.prog 110 = some [Value.int IntKind.i64 0] := by kernel_rfl
theorem tin110 : tints Try.prog 110 = some 1 := by kernel_rfl
theorem tsz111 : tsz Try.prog 111 = 2 := by kernel_rfl
theorem inf111 : (Try.prog.info? 111).isSome = true := by kernel_rfl
theorem agg111 : aggO Try.prog 111 = some true := by kernel_rfl
theorem ifc111 : isIface Try.prog 111 = some false := by kernel_rfl
theorem tce111 : tce Try.prog 111 = [0, 0] := by kernel_rfl
theorem zvl111 : zvals Try.prog 111 = some [.sc (Value.int IntKind.i64 0), .sc (Value.int IntKind.i64 0)] := by kernel_rfl
theorem zfl111 : zflat Try.prog 111 = some (.agg [.sc (Value.int IntKind.i64 0), .sc (Value.int IntKind.i64 0)]) := by kernel_rfl
theorem tfo111_0 : tfo Try.prog 111 0 = some (0, 3) := by kernel_rfl
theorem tfo111_1 : tfo Try.prog 111 1 = some (1, 3) := by kernel_rfl
theorem tfl111 : tflds Try.prog 111 = true := by kernel_rfl
theorem tze111 : tzero Try.prog 111 = some [Value.int IntKind.i64 0, Value.int IntKind.i64 0] := by kernel_rfl
theorem tin111 : tints Try.prog 111 = some 2 := by kernel_rfl
theorem tsz112 : tsz Try.prog 112 = 2 := by kernel_rfl
theorem inf112 : (Try.prog.info? 112).isSome = true := by kernel_rfl
theorem agg112 : aggO Try.prog 112 = some true := by kernel_rfl
theorem ifc112 : isIface Try.prog 112 = some false := by kernel_rfl
theorem tce112 : tce Try.prog 112 = [0, 0] := by kernel_rfl
theorem zvl112 : zvals Try.prog 112 = some [.sc (Value.int IntKind.i64 0), .sc (Value.int IntKind.i64 0)] := by kernel_rfl
theorem zfl112 : zflat Try.prog 112 = some (.agg [.sc (Value.int IntKind.i64 0), .sc (Value.int IntKind.i64 0)]) := by kernel_rfl
theorem tfo112_0 : tfo Try.prog 112 0 = some (0, 3) := by kernel_rfl
theorem tfo112_1 : tfo Try.prog 112 1 = some (1, 3) := by kernel_rfl
theorem tfl112 : tflds Try.prog 112 = true := by kernel_rfl
theorem tze112 : tzero Try.prog 112 = some [Value.int IntKind.i64 0, Value.int IntKind.i64 0] := by kernel_rfl
theorem tin112 : tints Try.prog 112 = some 2 := by kernel_rfl
theorem tsz113 : tsz Try.prog 113 = 2 := by kernel_rfl
theorem inf113 : (Try.prog.info? 113).isSome = true := by kernel_rfl
theorem agg113 : aggO Try.prog 113 = some true := by kernel_rfl
theorem ifc113 : isIface Try.prog 113 = some false := by kernel_rfl
theorem tce113 : tce Try.prog 113 = [0, 0] := by kernel_rfl
theorem zvl113 : zvals Try.prog 113 = some [.sc (Value.int IntKind.i64 0), .sc (Value.int IntKind.i64 0)] := by kernel_rfl
theorem zfl113 : zflat Try.prog 113 = some (.agg [.sc (Value.int IntKind.i64 0), .sc (Value.int IntKind.i64 0)]) := by kernel_rfl
theorem tfo113_0 : tfo Try.prog 113 0 = some (0, 3) := by kernel_rfl
theorem tfo113_1 : tfo Try.prog 113 1 = some (1, 3) := by kernel_rfl
theorem tfl113 : tflds Try.prog 113 = true := by kernel_rfl
theorem tze113 : tzero Try.prog 113 = some [Value.int IntKind.i64 0, Value.int IntKind.i64 0] := by kernel_rfl
theorem tin113 : tints Try.prog 113 = some 2 := by kernel_rfl
theorem tsz114 : tsz Try.prog 114 = 2 := by kernel_rfl
theorem inf114 : (Try.prog.info? 114).isSome = true := by kernel_rfl
theorem agg114 : aggO Try.prog 114 = some true := by kernel_rfl
theorem ifc114 : isIface Try.prog 114 = some false := by kernel_rfl
theorem tce114 : tce Try.prog 114 = [0, 0] := by kernel_rfl
theorem zvl114 : zvals Try.prog 114 = some [.sc (Value.int IntKind.i64 0), .sc (Value.int IntKind.i64 0)] := by kernel_rfl
theorem zfl114 : zflat Try.prog 114 = some (.agg [.sc (Value.int IntKind.i64 0), .sc (Value.int IntKind.i64 0)]) := by kernel_rfl
theorem tfo114_0 : tfo Try.prog 114 0 = some (0, 3) := by kernel_rfl
theorem tfo114_1 : tfo Try.prog 114 1 = some (1, 3) := by kernel_rfl
theorem tfl114 : tflds Try.prog 114 = true := by kernel_rfl
theorem tze114 : tzero Try.prog 114 = some [Value.int IntKind.i64 0, Value.int IntKind.i64 0] := by kernel_rfl
theorem tin114 : tints Try.prog 114 = some 2 := by kernel_rfl
theorem tsz115 : tsz Try.prog 115 = 2 := by kernel_rfl
theorem inf115 : (Try.prog.info? 115).isSome = true := by kernel_rfl
theorem agg115 : aggO Try.prog 115 = some true := by kernel_rfl
theorem ifc115 : isIface Try.prog 115 = some false := by kernel_rfl
theorem tce115 : tce Try.prog 115 = [0, 0] := by kernel_rfl
theorem zvl115 : zvals Try.prog 115 = some [.sc (Value.int IntKind.i64 0), .sc (Value.int IntKind.i64 0)] := by kernel_rfl
theorem zfl115 : zflat Try.prog 115 = some (.agg [.sc (Value.int IntKind.i64 0), .sc (Value.int IntKind.i64 0)]) := by kernel_rfl
theorem tfo115_0 : tfo Try.prog 115 0 = some (0, 3) := by kernel_rfl
theorem tfo115_1 : tfo Try.prog 115 1 = some (1, 3) := by kernel_rfl
theorem tfl115 : tflds Try.prog 115 = true := by kernel_rfl
theorem tze115 : tzero Try.prog 115 = some [Value.int IntKind.i64 0, Value.int IntKind.i64 0] := by kernel_rfl
theorem tin115 : tints Try.prog 115 = some 2 := by kernel_rfl
theorem tsz116 : tsz Try.prog 116 = 2 := by kernel_rfl
theorem inf116 : (Try.prog.info? 116).isSome = true := by kernel_rfl
theorem agg116 : aggO Try.prog 116 = some true := by kernel_rfl
theorem ifc116 : isIface Try.prog 116 = some false := by kernel_rfl
theorem tce116 : tce Try.prog 116 = [0, 0] := by kernel_rfl
theorem zvl116 : zvals Try.prog 116 = some [.sc (Value.int IntKind.i64 0), .sc (Value.int IntKind.i64 0)] := by kernel_rfl
theorem zfl116 : zflat Try.prog 116 = some (.agg [.sc (Value.int IntKind.i64 0), .sc (Value.int IntKind.i64 0)]) := by kernel_rfl
theorem tfo116_0 : tfo Try.prog 116 0 = some (0, 3) := by kernel_rfl
theorem tfo116_1 : tfo Try.prog 116 1 = some (1, 3) := by kernel_rfl
theorem tfl116 : tflds Try.prog 116 = true := by kernel_rfl
theorem tze116 : tzero Try.prog 116 = some [Value.int IntKind.i64 0, Value.int IntKind.i64 0] := by kernel_rfl
theorem tin116 : tints Try.prog 116 = some 2 := by kernel_rfl
theorem tsz117 : tsz Try.prog 117 = 1 := by kernel_rfl
theorem inf117 : (Try.prog.info? 117).isSome = true := by kernel_rfl
theorem agg117 : aggO Try.prog 117 = some true := by kernel_rfl
theorem ifc117 : isIface Try.prog 117 = some false := by kernel_rfl
theorem tce117 : tce Try.prog 117 = [0] := by kernel_rfl
theorem zvl117 : zvals Try.prog 117 = some [.sc (Value.int IntKind.i64 0)] := by kernel_rfl
theorem zfl117 : zflat Try.prog 117 = some (.agg [.sc (Value.int IntKind.i64 0)]) := by kernel_rfl
theorem tfo117_0 : tfo Try.prog 117 0 = some (0, 3) := by kernel_rfl
theorem tfl117 : tflds Try.prog 117 = true := by kernel_rfl
theorem tze117 : tzero Try.prog 117 = some [Value.int IntKind.i64 0] := by kernel_rfl
theorem tin117 : tints Try.prog 117 = some 1 := by kernel_rfl
theorem tsz118 : tsz Try.prog 118 = 1 := by kernel_rfl
theorem inf118 : (Try.prog.info? 118).isSome = true := by kernel_rfl
theorem agg118 : aggO Try.prog 118 = some true := by kernel_rfl
theorem ifc118 : isIface Try.prog 118 = some false := by kernel_rfl
theorem tce118 : tce Try.prog 118 = [0] := by kernel_rfl
theorem zvl118 : zvals Try.prog 118 = some [.sc (Value.int IntKind.i64 0)] := by kernel_rfl
theorem zfl118 : zflat Try.prog 118 = some (.agg [.sc (Value.int IntKind.i64 0)]) := by kernel_rfl
theorem tfo118_0 : tfo Try.prog 118 0 = some (0, 3) := by kernel_rfl
theorem tfl118 : tflds Try.prog 118 = true := by kernel_rfl
theorem tze118 : tzero Try.prog 118 = some [Value.int IntKind.i64 0] := by kernel_rfl
theorem tin118 : tints Try.prog 118 = some 1 := by kernel_rfl
theorem tsz119 : tsz Try.prog 119 = 1 := by kernel_rfl
theorem inf119 : (Try.prog.info? 119).isSome = true := by kernel_rfl
theorem agg119 : aggO Try.prog 119 = some true := by kernel_rfl
theorem ifc119 : isIface Try.prog 119 = some false := by kernel_rfl
theorem tce119 : tce Try.prog 119 = [0] := by kernel_rfl
theorem zvl119 : zvals Try.prog 119 = some [.sc (Value.int IntKind.i64 0)] := by kernel_rfl
theorem zfl119 : zflat Try.prog 119 = some (.agg [.sc (Value.int IntKind.i64 0)]) := by kernel_rfl
theorem tfo119_0 : tfo Try.prog 119 0 = some (0, 3) := by kernel_rfl
theorem tfl119 : tflds Try.prog 119 = true := by kernel_rfl
theorem tze119 : tzero Try.prog 119 = some [Value.int IntKind.i64 0] := by kernel_rfl
theorem tin119 : tints Try.prog 119 = some 1 := by kernel_rfl
theorem tsz120 : tsz Try.prog 120 = 2 := by kernel_rfl
theorem inf120 : (Try.prog.info? 120).isSome = true := by kernel_rfl
theorem agg120 : aggO Try.prog 120 = some true := by kernel_rfl
theorem ifc120 : isIface Try.prog 120 = some false := by kernel_rfl
theorem tce120 : tce Try.prog 120 = [1, 0] := by kernel_rfl
theorem zvl120 : zvals Try.prog 120 = some [.sc (Value.slice none 0 0), .sc (Value.int IntKind.i64 0)] := by kernel_rfl
theorem zfl120 : zflat Try.prog 120 = some (.agg [.sc (Value.slice none 0 0), .sc (Value.int IntKind.i64 0)]) := by kernel_rfl
theorem tfo120_0 : tfo Try.prog 120 0 = some (0, 37) := by kernel_rfl
theorem tfo120_1 : tfo Try.prog 120 1 = some (1, 3) := by kernel_rfl
theorem tfl120 : tflds Try.prog 120 = true := by kernel_rfl
theorem tze120 : tzero Try.prog 120 = some [Value.slice none 0 0, Value.int IntKind.i64 0] := by kernel_rfl
theorem tsz121 : tsz Try.prog 121 = 2 := by kernel_rfl
theorem inf121 : (Try.prog.info? 121).isSome = true := by kernel_rfl
theorem agg121 : aggO Try.prog 121 = some true := by kernel_rfl
theorem ifc121 : isIface Try.prog 121 = some false := by kernel_rfl
theorem tce121 : tce Try.prog 121 = [1, 0] := by kernel_rfl
theorem zvl121 : zvals Try.prog 121 = some [.sc (Value.slice none 0 0), .sc (Value.int IntKind.i64 0)] := by kernel_rfl
theorem zfl121 : zflat Try.prog 121 = some (.agg [.sc (Value.slice none 0 0), .sc (Value.int IntKind.i64 0)]) := by kernel_rfl
theorem tfo121_0 : tfo Try.prog 121 0 = some (0, 37) := by kernel_rfl
theorem tfo121_1 : tfo Try.prog 121 1 = some (1, 3) := by kernel_rfl
theorem tfl121 : tflds Try.prog 121 = true := by kernel_rfl
theorem tze121 : tzero Try.prog 121 = some [Value.slice none 0 0, Value.int IntKind.i64 0] := by kernel_rfl
theorem tsz123 : tsz Try.prog 123 = 7 := by kernel_rfl
theorem inf123 : (Try.prog.info? 123).isSome = true := by kernel_rfl
theorem agg123 : aggO Try.prog 123 = some true := by kernel_rfl
theorem ifc123 : isIface Try.prog 123 = some false := by kernel_rfl
theorem tce123 : tce Try.prog 123 = [0, 0, 0, 0, 0, 0, 0] := by kernel_rfl
theorem zvl123 : zvals Try.prog 123 = some [.sc (Value.int IntKind.i64 0), .sc (Value.int IntKind.i64 0), .sc (Value.int IntKind.i64 0), .sc (Value.int IntKind.i64 0), .sc (Value.int IntKind.i64 0), .sc (Value.int IntKind.i64 0), .sc (Value.int IntKind.i64 0)] := by kernel_rfl
theorem zfl123 : zflat Try.prog 123 = some (.agg [.sc (Value.int IntKind.i64 0), .sc (Value.int IntKind.i64 0), .sc (Value.int IntKind.i64 0), .sc (Value.int IntKind.i64 0), .sc (Value.int IntKind.i64 0), .sc (Value.int IntKind.i64 0), .sc (Value.int IntKind.i64 0)]) := by kernel_rfl
theorem tel123 : tel Try.prog 123 = none := by kernel_rfl
theorem tar123 : tarr Try.prog 123 = some (7, 3) := by kernel_rfl
theorem tsz125 : tsz Try.prog 125 = 2 := by kernel_rfl
theorem inf125 : (Try.prog.info? 125).isSome = true := by kernel_rfl
theorem agg125 : aggO Try.prog 125 = some true := by kernel_rfl
theorem ifc125 : isIface Try.prog 125 = some false := by kernel_rfl
theorem tce125 : tce Try.prog 125 = [0, 0] := by kernel_rfl
theorem zvl125 : zvals Try.prog 125 = some [.sc (Value.int IntKind.i64 0), .sc (Value.int IntKind.i64 0)] := by kernel_rfl
theorem zfl125 : zflat Try.prog 125 = some (.agg [.sc (Value.int IntKind.i64 0), .sc (Value.int IntKind.i64 0)]) := by kernel_rfl
theorem tfo125_0 : tfo Try.prog 125 0 = some (0, 3) := by kernel_rfl
theorem tfo125_1 : tfo Try.prog 125 1 = some (1, 3) := by kernel_rfl
theorem tfl125 : tflds Try.prog 125 = true := by kernel_rfl
theorem tze125 : tzero Try.prog 125 = some [Value.int IntKind.i64 0, Value.int IntKind.i64 0] := by kernel_rfl
theorem tin125 : tints Try.prog 125 = some 2 := by kernel_rfl
theorem tsz126 : tsz Try.prog 126 = 2 := by kernel_rfl
theorem inf126 : (Try.prog.info? 126).isSome = true := by kernel_rfl
theorem agg126 : aggO Try.prog 126 = some true := by kernel_rfl
theorem ifc126 : isIface Try.prog 126 = some false := by kernel_rfl
theorem tce126 : tce Try.prog 126 = [0, 0] := by kernel_rfl
theorem zvl126 : zvals Try.prog 126 = some [.sc (Value.int IntKind.i64 0), .sc (Value.int IntKind.i64 0)] := by kernel_rfl
theorem zfl126 : zflat Try.prog 126 = some (.agg [.sc (Value.int IntKind.i64 0), .sc (Value.int IntKind.i64 0)]) := by kernel_rfl
theorem tfo126_0 : tfo Try.prog 126 0 = some (0, 3) := by kernel_rfl
theorem tfo126_1 : tfo Try.prog 126 1 = some (1, 3) := by kernel_rfl
theorem tfl126 : tflds Try.prog 126 = true := by kernel_rfl
theorem tze126 : tzero Try.prog 126 = some [Value.int IntKind.i64 0, Value.int IntKind.i64 0] := by kernel_rfl
theorem tin126 : tints Try.prog 126 = some 2 := by kernel_rfl
theorem tsz136 : tsz Try.prog 136 = 1 := by kernel_rfl
theorem inf136 : (Try.prog.info? 136).isSome = true := by kernel_rfl
theorem agg136 : aggO Try.prog 136 = some true := by kernel_rfl
theorem ifc136 : isIface Try.prog 136 = some false := by kernel_rfl
theorem tce136 : tce Try.prog 136 = [0] := by kernel_rfl
theorem zvl136 : zvals Try.prog 136 = some [.sc (Value.int IntKind.i64 0)] := by kernel_rfl
theorem zfl136 : zflat Try.prog 136 = some (.agg [.sc (Value.int IntKind.i64 0)]) := by kernel_rfl
theorem tfo136_0 : tfo Try.prog 136 0 = some (0, 3) := by kernel_rfl
theorem tfl136 : tflds Try.prog 136 = true := by kernel_rfl
theorem tze136 : tzero Try.prog 136 = some [Value.int IntKind.i64 0] := by kernel_rfl
theorem tin136 : tints Try.prog 136 = some 1 := by kernel_rfl
theorem tsz137 : tsz Try.prog 137 = 1 := by kernel_rfl
theorem inf137 : (Try.prog.info? 137).isSome = true := by kernel_rfl
theorem agg137 : aggO Try.prog 137 = some true := by kernel_rfl
theorem ifc137 : isIface Try.prog 137 = some false := by kernel_rfl
theorem tce137 : tce Try.prog 137 = [0] := by kernel_rfl
theorem zvl137 : zvals Try.prog 137 = some [.sc (Value.int IntKind.i64 0)] := by kernel_rfl
theorem zfl137 : zflat Try.prog 137 = some (.agg [.sc (Value.int IntKind.i64 0)]) := by kernel_rfl
theorem tfo137_0 : tfo Try.prog 137 0 = some (0, 3) := by kernel_rfl
theorem tfl137 : tflds Try.prog 137 = true := by kernel_rfl
theorem tze137 : tzero Try.prog 137 = some [Value.int IntKind.i64 0] := by kernel_rfl
theorem tin137 : tints Try.prog 137 = some 1 := by kernel_rfl
theorem tsz138 : tsz Try.prog 138 = 0 := by kernel_rfl
theorem inf138 : (Try.prog.info? 138).isSome = true := by kernel_rfl
theorem agg138 : aggO Try.prog 138 = some true := by kernel_rfl
theorem ifc138 : isIface Try.prog 138 = some false := by kernel_rfl
theorem tce138 : tce Try.prog 138 = [] := by kernel_rfl
theorem zvl138 : zvals Try.prog 138 = some [] := by kernel_rfl
theorem zfl138 : zflat Try.prog 138 = some (.agg []) := by kernel_rfl
theorem tfl138 : tflds Try.prog 138 = true := by kernel_rfl
theorem tze138 : tzero Try.prog 138 = some [] := by kernel_rfl
theorem tsz139 : tsz Try.prog 139 = 0 := by kernel_rfl
theorem inf139 : (Try.prog.info? 139).isSome = true := by kernel_rfl
theorem agg139 : aggO Try.prog 139 = some true := by kernel_rfl
theorem ifc139 : isIface Try.prog 139 = some false := by kernel_rfl
theorem tce139 : tce Try.prog 139 = [] := by kernel_rfl
theorem zvl139 : zvals Try.prog 139 = some [] := by kernel_rfl
theorem zfl139 : zflat Try.prog 139 = some (.agg []) := by kernel_rfl
theorem tfl139 : tflds Try.prog 139 = true := by kernel_rfl
theorem tze139 : tzero Try.prog 139 = some [] := by kernel_rfl
theorem tsz140 : tsz Try.prog 140 = 0 := by kernel_rfl
theorem inf140 : (Try.prog.info? 140).isSome = true := by kernel_rfl
theorem agg140 : aggO Try.prog 140 = some true := by kernel_rfl
theorem ifc140 : isIface Try.prog 140 = some false := by kernel_rfl
theorem tce140 : tce Try.prog 140 = [] := by kernel_rfl
theorem zvl140 : zvals Try.prog 140 = some [] := by kernel_rfl
theorem zfl140 : zflat Try.prog 140 = some (.agg []) := by kernel_rfl
theorem tfl140 : tflds Try.prog 140 = true := by kernel_rfl
theorem tze140 : tzero Try.prog 140 = some [] := by kernel_rfl
theorem tsz145 : tsz Try.prog 145 = 4 := by kernel_rfl
theorem inf145 : (Try.prog.info? 145).isSome = true := by kernel_rfl
theorem agg145 : aggO Try.prog 145 = some true := by kernel_rfl
theorem ifc145 : isIface Try.prog 145 = some false := by kernel_rfl
theorem tce145 : tce Try.prog 145 = [0, 0, 0, 0] := by kernel_rfl
theorem zvl145 : zvals Try.prog 145 = some [.sc (Value.int IntKind.i64 0), .sc (Value.int IntKind.i64 0), .sc (Value.int IntKind.i64 0), .sc (Value.int IntKind.i64 0)] := by kernel_rfl
theorem zfl145 : zflat Try.prog 145 = some (.agg [.sc (Value.int IntKind.i64 0), .sc (Value.int IntKind.i64 0), .sc (Value.int IntKind.i64 0), .sc (Value.int IntKind.i64 0)]) := by kernel_rfl
theorem tfo145_0 : tfo Try.prog 145 0 = some (0, 3) := by kernel_rfl
theorem tfo145_1 : tfo Try.prog 145 1 = some (1, 3) := by kernel_rfl
theorem tfo145_2 : tfo Try.prog 145 2 = some (2, 3) := by kernel_rfl
theorem tfo145_3 : tfo Try.prog 145 3 = some (3, 3) := by kernel_rfl
theorem tfl145 : tflds Try.prog 145 = true := by kernel_rfl
theorem tze145 : tzero Try.prog 145 = some [Value.int IntKind.i64 0, Value.int IntKind.i64 0, Value.int IntKind.i64 0, Value.int IntKind.i64 0] := by kernel_rfl
theorem tin145 : tints Try.prog 145 = some 4 := by kernel_rfl
theorem tsz154 : tsz Try.prog 154 = 4 := by kernel_rfl
theorem inf154 : (Try.prog.info? 154).isSome = true := by kernel_rfl
theorem agg154 : aggO Try.prog 154 = some true := by kernel_rfl
theorem ifc154 : isIface Try.prog 154 = some false := by kernel_rfl
theorem tce154 : tce Try.prog 154 = [0, 0, 0, 0] := by kernel_rfl
theorem zvl154 : zvals Try.prog 154 = some [.sc (Value.pointer none), .sc (Value.pointer none), .sc (Value.pointer none), .sc (Value.string { data := #[] })] := by kernel_rfl
theorem zfl154 : zflat Try.prog 154 = some (.agg [.sc (Value.pointer none), .sc (Value.pointer none), .sc (Value.pointer none), .sc (Value.string { data := #[] })]) := by kernel_rfl
theorem tfo154_0 : tfo Try.prog 154 0 = some (0, 17) := by kernel_rfl
theorem tfo154_1 : tfo Try.prog 154 1 = some (1, 17) := by kernel_rfl
theorem tfo154_2 : tfo Try.prog 154 2 = some (2, 17) := by kernel_rfl
theorem tfo154_3 : tfo Try.prog 154 3 = some (3, 9) := by kernel_rfl
theorem tfl154 : tflds Try.prog 154 = true := by kernel_rfl
theorem tze154 : tzero Try.prog 154 = some [Value.pointer none, Value.pointer none, Value.pointer none, Value.string { data := #[] }] := by kernel_rfl
theorem tsz155 : tsz Try.prog 155 = 4 := by kernel_rfl
theorem inf155 : (Try.prog.info? 155).isSome = true := by kernel_rfl
theorem agg155 : aggO Try.prog 155 = some true := by kernel_rfl
theorem ifc155 : isIface Try.prog 155 = some false := by kernel_rfl
theorem tce155 : tce Try.prog 155 = [0, 0, 0, 0] := by kernel_rfl
theorem zvl155 : zvals Try.prog 155 = some [.sc (Value.pointer none), .sc (Value.pointer none), .sc (Value.pointer none), .sc (Value.string { data := #[] })] := by kernel_rfl
theorem zfl155 : zflat Try.prog 155 = some (.agg [.sc (Value.pointer none), .sc (Value.pointer none), .sc (Value.pointer none), .sc (Value.string { data := #[] })]) := by kernel_rfl
theorem tfo155_0 : tfo Try.prog 155 0 = some (0, 17) := by kernel_rfl
theorem tfo155_1 : tfo Try.prog 155 1 = some (1, 17) := by kernel_rfl
theorem tfo155_2 : tfo Try.prog 155 2 = some (2, 17) := by kernel_rfl
theorem tfo155_3 : tfo Try.prog 155 3 = some (3, 9) := by kernel_rfl
theorem tfl155 : tflds Try.prog 155 = true := by kernel_rfl
theorem tze155 : tzero Try.prog 155 = some [Value.pointer none, Value.pointer none, Value.pointer none, Value.string { data := #[] }] := by kernel_rfl
theorem tsz156 : tsz Try.prog 156 = 0 := by kernel_rfl
theorem inf156 : (Try.prog.info? 156).isSome = true := by kernel_rfl
theorem agg156 : aggO Try.prog 156 = some true := by kernel_rfl
theorem ifc156 : isIface Try.prog 156 = some false := by kernel_rfl
theorem tce156 : tce Try.prog 156 = [] := by kernel_rfl
theorem zvl156 : zvals Try.prog 156 = some [] := by kernel_rfl
theorem zfl156 : zflat Try.prog 156 = some (.agg []) := by kernel_rfl
theorem tel156 : tel Try.prog 156 = none := by kernel_rfl
theorem tar156 : tarr Try.prog 156 = some (0, 16) := by kernel_rfl
theorem tsz157 : tsz Try.prog 157 = 0 := by kernel_rfl
theorem inf157 : (Try.prog.info? 157).isSome = true := by kernel_rfl
theorem agg157 : aggO Try.prog 157 = some true := by kernel_rfl
theorem ifc157 : isIface Try.prog 157 = some false := by kernel_rfl
theorem tce157 : tce Try.prog 157 = [] := by kernel_rfl
theorem zvl157 : zvals Try.prog 157 = some [] := by kernel_rfl
theorem zfl157 : zflat Try.prog 157 = some (.agg []) := by kernel_rfl
theorem tfl157 : tflds Try.prog 157 = true := by kernel_rfl
theorem tze157 : tzero Try.prog 157 = some [] := by kernel_rfl
theorem tsz158 : tsz Try.prog 158 = 0 := by kernel_rfl
theorem inf158 : (Try.prog.info? 158).isSome = true := by kernel_rfl
theorem agg158 : aggO Try.prog 158 = some true := by kernel_rfl
theorem ifc158 : isIface Try.prog 158 = some false := by kernel_rfl
theorem tce158 : tce Try.prog 158 = [] := by kernel_rfl
theorem zvl158 : zvals Try.prog 158 = some [] := by kernel_rfl
theorem zfl158 : zflat Try.prog 158 = some (.agg []) := by kernel_rfl
theorem tfl158 : tflds Try.prog 158 = true := by kernel_rfl
theorem tze158 : tzero Try.prog 158 = some [] := by kernel_rfl
theorem tsz160 : tsz Try.prog 160 = 1 := by kernel_rfl
theorem inf160 : (Try.prog.info? 160).isSome = true := by kernel_rfl
theorem agg160 : aggO Try.prog 160 = some false := by kernel_rfl
theorem ifc160 : isIface Try.prog 160 = some false := by kernel_rfl
theorem tce160 : tce Try.prog 160 = [0] := by kernel_rfl
theorem zvl160 : zvals Try.prog 160 = some [.sc (Value.int IntKind.u32 0)] := by kernel_rfl
theorem zfl160 : zflat Try.prog 160 = some (.sc (Value.int IntKind.u32 0)) := by kernel_rfl
theorem tit160 : tint Try.prog 160 = some .u32 := by kernel_rfl
theorem tsz161 : tsz Try.prog 161 = 1 := by kernel_rfl
theorem inf161 : (Try.prog.info? 161).isSome = true := by kernel_rfl
theorem agg161 : aggO Try.prog 161 = some false := by kernel_rfl
theorem ifc161 : isIface Try.prog 161 = some false := by kernel_rfl
theorem tce161 : tce Try.prog 161 = [0] := by kernel_rfl
theorem zvl161 : zvals Try.prog 161 = some [.sc (Value.int IntKind.u8 0)] := by kernel_rfl
theorem zfl161 : zflat Try.prog 161 = some (.sc (Value.int IntKind.u8 0)) := by kernel_rfl
theorem tit161 : tint Try.prog 161 = some .u8 := by kernel_rfl
theorem tsz162 : tsz Try.prog 162 = 1 := by kernel_rfl
theorem inf162 : (Try.prog.info? 162).isSome = true := by kernel_rfl
theorem agg162 : aggO Try.prog 162 = some false := by kernel_rfl
theorem ifc162 : isIface Try.prog 162 = some false := by kernel_rfl
theorem tce162 : tce Try.prog 162 = [0] := by kernel_rfl
theorem zvl162 : zvals Try.prog 162 = some [.sc (Value.int IntKind.u8 0)] := by kernel_rfl
theorem zfl162 : zflat Try.prog 162 = some (.sc (Value.int IntKind.u8 0)) := by kernel_rfl
theorem tit162 : tint Try.prog 162 = some .u8 := by kernel_rfl
theorem tsz164 : tsz Try.prog 164 = 1 := by kernel_rfl
theorem inf164 : (Try.prog.info? 164).isSome = true := by kernel_rfl
theorem agg164 : aggO Try.prog 164 = some false := by kernel_rfl
theorem ifc164 : isIface Try.prog 164 = some false := by kernel_rfl
theorem tce164 : tce Try.prog 164 = [0] := by kernel_rfl
theorem zvl164 : zvals Try.prog 164 = some [.sc (Value.pointer none)] := by kernel_rfl
theorem zfl164 : zflat Try.prog 164 = some (.sc (Value.pointer none)) := by kernel_rfl
theorem tpt164 : isPtr Try.prog 164 = true := by kernel_rfl
theorem tsz165 : tsz Try.prog 165 = 1 := by kernel_rfl
theorem inf165 : (Try.prog.info? 165).isSome = true := by kernel_rfl
theorem agg165 : aggO Try.prog 165 = some false := by kernel_rfl
theorem ifc165 : isIface Try.prog 165 = some false := by kernel_rfl
theorem tce165 : tce Try.prog 165 = [0] := by kernel_rfl
theorem zvl165 : zvals Try.prog 165 = some [.sc (Value.int IntKind.i32 0)] := by kernel_rfl
theorem zfl165 : zflat Try.prog 165 = some (.sc (Value.int IntKind.i32 0)) := by kernel_rfl
theorem tit165 : tint Try.prog 165 = some .i32 := by kernel_rfl
theorem tsz166 : tsz Try.prog 166 = 1 := by kernel_rfl
theorem inf166 : (Try.prog.info? 166).isSome = true := by kernel_rfl
theorem agg166 : aggO Try.prog 166 = some false := by kernel_rfl
theorem ifc166 : isIface Try.prog 166 = some false := by kernel_rfl
theorem tce166 : tce Try.prog 166 = [0] := by kernel_rfl
theorem zvl166 : zvals Try.prog 166 = some [.sc (Value.int IntKind.i32 0)] := by kernel_rfl
theorem zfl166 : zflat Try.prog 166 = some (.sc (Value.int IntKind.i32 0)) := by kernel_rfl
theorem tit166 : tint Try.prog 166 = some .i32 := by kernel_rfl
theorem tsz167 : tsz Try.prog 167 = 11 := by kernel_rfl
theorem inf167 : (Try.prog.info? 167).isSome = true := by kernel_rfl
theorem agg167 : aggO Try.prog 167 = some true := by kernel_rfl
theorem ifc167 : isIface Try.prog 167 = some false := by kernel_rfl
theorem tce167 : tce Try.prog 167 = [0, 0, 0, 0, 0, 0, 0, 0, 0, 0, 0] := by kernel_rfl
theorem zvl167 : zvals Try.prog 167 = some [.sc (Value.int IntKind.u64 0), .sc (Value.int IntKind.u64 0), .sc (Value.int IntKind.u32 0), .sc (Value.int IntKind.u8 0), .sc (Value.int IntKind.u8 0), .sc (Value.int IntKind.u8 0), .sc (Value.int IntKind.u8 0), .sc (Value.nilFunc), .sc (Value.pointer none), .sc (Value.int IntKind.i32 0), .sc (Value.int IntKind.i32 0)] := by kernel_rfl
theorem zfl167 : zflat Try.prog 167 = some (.agg [.sc (Value.int IntKind.u64 0), .sc (Value.int IntKind.u64 0), .sc (Value.int IntKind.u32 0), .sc (Value.int IntKind.u8 0), .sc (Value.int IntKind.u8 0), .sc (Value.int IntKind.u8 0), .sc (Value.int IntKind.u8 0), .sc (Value.nilFunc), .sc (Value.pointer none), .sc (Value.int IntKind.i32 0), .sc (Value.int IntKind.i32 0)]) := by kernel_rfl
theorem tfo167_0 : tfo Try.prog 167 0 = some (0, 12) := by kernel_rfl
theorem tfo167_1 : tfo Try.prog 167 1 = some (1, 12) := by kernel_rfl
theorem tfo167_2 : tfo Try.prog 167 2 = some (2, 160) := by kernel_rfl
theorem tfo167_3 : tfo Try.prog 167 3 = some (3, 161) := by kernel_rfl
theorem tfo167_4 : tfo Try.prog 167 4 = some (4, 5) := by kernel_rfl
theorem tfo167_5 : tfo Try.prog 167 5 = some (5, 5) := by kernel_rfl
theorem tfo167_6 : tfo Try.prog 167 6 = some (6, 162) := by kernel_rfl
theorem tfo167_7 : tfo Try.prog 167 7 = some (7, 163) := by kernel_rfl
theorem tfo167_8 : tfo Try.prog 167 8 = some (8, 164) := by kernel_rfl
theorem tfo167_9 : tfo Try.prog 167 9 = some (9, 165) := by kernel_rfl
theorem tfo167_10 : tfo Try.prog 167 10 = some (10, 166) := by kernel_rfl
theorem tfl167 : tflds Try.prog 167 = true := by kernel_rfl
theorem tze167 : tzero Try.prog 167 = some [Value.int IntKind.u64 0, Value.int IntKind.u64 0, Value.int IntKind.u32 0, Value.int IntKind.u8 0, Value.int IntKind.u8 0, Value.int IntKind.u8 0, Value.int IntKind.u8 0, Value.nilFunc, Value.pointer none, Value.int IntKind.i32 0, Value.int IntKind.i32 0] := by kernel_rfl
theorem tsz168 : tsz Try.prog 168 = 11 := by kernel_rfl
theorem inf168 : (Try.prog.info? 168).isSome = true := by kernel_rfl
theorem agg168 : aggO Try.prog 168 = some true := by kernel_rfl
theorem ifc168 : isIface Try.prog 168 = some false := by kernel_rfl
theorem tce168 : tce Try.prog 168 = [0, 0, 0, 0, 0, 0, 0, 0, 0, 0, 0] := by kernel_rfl
theorem zvl168 : zvals Try.prog 168 = some [.sc (Value.int IntKind.u64 0), .sc (Value.int IntKind.u64 0), .sc (Value.int IntKind.u32 0), .sc (Value.int IntKind.u8 0), .sc (Value.int IntKind.u8 0), .sc (Value.int IntKind.u8 0), .sc (Value.int IntKind.u8 0), .sc (Value.nilFunc), .sc (Value.pointer none), .sc (Value.int IntKind.i32 0), .sc (Value.int IntKind.i32 0)] := by kernel_rfl
theorem zfl168 : zflat Try.prog 168 = some (.agg [.sc (Value.int IntKind.u64 0), .sc (Value.int IntKind.u64 0), .sc (Value.int IntKind.u32 0), .sc (Value.int IntKind.u8 0), .sc (Value.int IntKind.u8 0), .sc (Value.int IntKind.u8 0), .sc (Value.int IntKind.u8 0), .sc (Value.nilFunc), .sc (Value.pointer none), .sc (Value.int IntKind.i32 0), .sc (Value.int IntKind.i32 0)]) := by kernel_rfl
theorem tfo168_0 : tfo Try.prog 168 0 = some (0, 12) := by kernel_rfl
theorem tfo168_1 : tfo Try.prog 168 1 = some (1, 12) := by kernel_rfl
theorem tfo168_2 : tfo Try.prog 168 2 = some (2, 160) := by kernel_rfl
theorem tfo168_3 : tfo Try.prog 168 3 = some (3, 161) := by kernel_rfl
theorem tfo168_4 : tfo Try.prog 168 4 = some (4, 5) := by kernel_rfl
theorem tfo168_5 : tfo Try.prog 168 5 = some (5, 5) := by kernel_rfl
theorem tfo168_6 : tfo Try.prog 168 6 = some (6, 162) := by kernel_rfl
theorem tfo168_7 : tfo Try.prog 168 7 = some (7, 163) := by kernel_rfl
theorem tfo168_8 : tfo Try.prog 168 8 = some (8, 164) := by kernel_rfl
theorem tfo168_9 : tfo Try.prog 168 9 = some (9, 165) := by kernel_rfl
theorem tfo168_10 : tfo Try.prog 168 10 = some (10, 166) := by kernel_rfl
theorem tfl168 : tflds Try.prog 168 = true := by kernel_rfl
theorem tze168 : tzero Try.prog 168 = some [Value.int IntKind.u64 0, Value.int IntKind.u64 0, Value.int IntKind.u32 0, Value.int IntKind.u8 0, Value.int IntKind.u8 0, Value.int IntKind.u8 0, Value.int IntKind.u8 0, Value.nilFunc, Value.pointer none, Value.int IntKind.i32 0, Value.int IntKind.i32 0] := by kernel_rfl
theorem tsz169 : tsz Try.prog 169 = 1 := by kernel_rfl
theorem inf169 : (Try.prog.info? 169).isSome = true := by kernel_rfl
theorem agg169 : aggO Try.prog 169 = some false := by kernel_rfl
theorem ifc169 : isIface Try.prog 169 = some false := by kernel_rfl
theorem tce169 : tce Try.prog 169 = [0] := by kernel_rfl
theorem zvl169 : zvals Try.prog 169 = some [.sc (Value.pointer none)] := by kernel_rfl
theorem zfl169 : zflat Try.prog 169 = some (.sc (Value.pointer none)) := by kernel_rfl
attribute [simp] tsz2 inf2 agg2 ifc2 tce2 zvl2 zfl2 tit2 tsz3 inf3 agg3 ifc3 tce3 zvl3 zfl3 tit3 tsz4 inf4 agg4 ifc4 tce4 zvl4 zfl4 tbo4 tsz5 inf5 agg5 ifc5 tce5 zvl5 zfl5 tit5 tsz6 inf6 agg6 ifc6 tce6 zvl6 zfl6 tit6 tsz7 inf7 agg7 ifc7 tce7 zvl7 zfl7 tfo7_0 tfo7_1 tfo7_2 tfo7_3 tfl7 tze7 tsz8 inf8 agg8 ifc8 tce8 zvl8 zfl8 tfo8_0 tfo8_1 tfo8_2 tfo8_3 tfl8 tze8 tsz9 inf9 agg9 ifc9 tce9 zvl9 zfl9 tst9 tsz10 inf10 agg10 ifc10 tce10 zvl10 zfl10 tst10 tsz11 inf11 agg11 ifc11 tce11 zvl11 zfl11 tst11 tsz12 inf12 agg12 ifc12 tce12 zvl12 zfl12 tit12 tsz13 inf13 agg13 ifc13 tce13 zvl13 zfl13 tfo13_0 tfo13_1 tfl13 tze13 tsz14 inf14 agg14 ifc14 tce14 zvl14 zfl14 tfo14_0 tfo14_1 tfl14 tze14 tsz15 inf15 agg15 ifc15 tce15 zvl15 zfl15 tpt15 tsz16 inf16 agg16 ifc16 tce16 zvl16 zfl16 tpt16 tsz17 inf17 agg17 ifc17 tce17 zvl17 zfl17 tpt17 tsz18 inf18 agg18 ifc18 tce18 zvl18 zfl18 tfo18_0 tfl18 tze18 tsz19 inf19 agg19 ifc19 tce19 zvl19 zfl19 tfo19_0 tfl19 tze19 tsz20 inf20 agg20 ifc20 tce20 zvl20 tif20 tsz21 inf21 agg21 ifc21 tce21 zvl21 zfl21 tit21 tsz22 inf22 agg22 ifc22 tce22 zvl22 zfl22 tel22 tsl22 tap22 tst22 tsz23 inf23 agg23 ifc23 tce23 zvl23 zfl23 tfo23_0 tfl23 tze23 tsz24 inf24 agg24 ifc24 tce24 zvl24 zfl24 tfo24_0 tfl24 tze24 tsz26 inf26 agg26 ifc26 tce26 zvl26 zfl26 tel26 tsl26 tap26 tst26 tsz27 inf27 agg27 ifc27 tce27 zvl27 zfl27 tfo27_0 tfl27 tze27 tsz28 inf28 agg28 ifc28 tce28 zvl28 zfl28 tfo28_0 tfl28 tze28 tsz37 inf37 agg37 ifc37 tce37 zvl37 zfl37 tel37 tsl37 tap37 tst37 tsz41 inf41 agg41 ifc41 tce41 zvl41 zfl41 tel41 tsl41 tap41 tst41 tsz47 inf47 agg47 ifc47 tce47 zvl47 zfl47 tel47 tsl47 tap47 tst47 tsz49 inf49 agg49 ifc49 tce49 zvl49 zfl49 tfo49_0 tfo49_1 tfo49_2 tfo49_3 tfl49 tze49 tsz50 inf50 agg50 ifc50 tce50 zvl50 zfl50 tfo50_0 tfo50_1 tfo50_2 tfo50_3 tfl50 tze50 tsz52 inf52 agg52 ifc52 tce52 zvl52 zfl52 tel52 tsl52 tap52 tst52 tsz55 inf55 agg55 ifc55 tce55 zvl55 zfl55 tel55 tsl55 tap55 tst55 tsz57 inf57 agg57 ifc57 tce57 zvl57 zfl57 tpt57 tsz59 inf59 agg59 ifc59 tce59 zvl59 zfl59 tel59 tsl59 tap59 tst59 tsz68 inf68 agg68 ifc68 tce68 zvl68 zfl68 tfo68_0 tfo68_1 tfo68_2 tfo68_3 tfl68 tze68 tin68 tsz69 inf69 agg69 ifc69 tce69 zvl69 zfl69 tfo69_0 tfo69_1 tfo69_2 tfo69_3 tfl69 tze69 tin69 tsz74 inf74 agg74 ifc74 tce74 zvl74 zfl74 tpt74 tsz81 inf81 agg81 ifc81 tce81 zvl81 zfl81 tel81 tar81 tsz82 inf82 agg82 ifc82 tce82 zvl82 zfl82 tel82 tar82 tsz88 inf88 agg88 ifc88 tce88 zvl88 zfl88 tel88 tsl88 tap88 tst88 tsz89 inf89 agg89 ifc89 tce89 zvl89 zfl89 tfo89_0 tfo89_1 tfo89_2 tfo89_3 tfl89 tze89 tsz90 inf90 agg90 ifc90 tce90 zvl90 zfl90 tfo90_0 tfo90_1 tfo90_2 tfo90_3 tfl90 tze90 tsz97 inf97 agg97 ifc97 tce97 zvl97 zfl97 tfo97_0 tfo97_1 tfo97_2 tfo97_3 tfo97_4 tfo97_5 tfo97_6 tfo97_7 tfl97 tze97 tsz98 inf98 agg98 ifc98 tce98 zvl98 zfl98 tfo98_0 tfo98_1 tfo98_2 tfo98_3 tfo98_4 tfo98_5 tfo98_6 tfo98_7 tfl98 tze98 tsz104 inf104 agg104 ifc104 tce104 zvl104 zfl104 tpt104 tsz106 inf106 agg106 ifc106 tce106 zvl106 tif106 tsz107 inf107 agg107 ifc107 tce107 zvl107 tif107 tsz109 inf109 agg109 ifc109 tce109 zvl109 zfl109 tfo109_0 tfl109 tze109 tin109 tsz110 inf110 agg110 ifc110 tce110 zvl110 zfl110 tfo110_0 tfl110 tze110 tin110 tsz111 inf111 agg111 ifc111 tce111 zvl111 zfl111 tfo111_0 tfo111_1 tfl111 tze111 tin111 tsz112 inf112 agg112 ifc112 tce112 zvl112 zfl112 tfo112_0 tfo112_1 tfl112 tze112 tin112 tsz113 inf113 agg113 ifc113 tce113 zvl113 zfl113 tfo113_0 tfo113_1 tfl113 tze113 tin113 tsz114 inf114 agg114 ifc114 tce114 zvl114 zfl114 tfo114_0 tfo114_1 tfl114 tze114 tin114 tsz115 inf115 agg115 ifc115 tce115 zvl115 zfl115 tfo115_0 tfo115_1 tfl115 tze115 tin115 tsz116 inf116 agg116 ifc116 tce116 zvl116 zfl116 tfo116_0 tfo116_1 tfl116 tze116 tin116 tsz117 inf117 agg117 ifc117 tce117 zvl117 zfl117 tfo117_0 tfl117 tze117 tin117 tsz118 inf118 agg118 ifc118 tce118 zvl118 zfl118 tfo118_0 tfl118 tze118 tin118 tsz119 inf119 agg119 ifc119 tce119 zvl119 zfl119 tfo119_0 tfl119 tze119 tin119 tsz120 inf120 agg120 ifc120 tce120 zvl120 zfl120 tfo120_0 tfo120_1 tfl120 tze120 tsz121 inf121 agg121 ifc121 tce121 zvl121 zfl121 tfo121_0 tfo121_1 tfl121 tze121 tsz123 inf123 agg123 ifc123 tce123 zvl123 zfl123 tel123 tar123 tsz125 inf125 agg125 ifc125 tce125 zvl125 zfl125 tfo125_0 tfo125_1 tfl125 tze125 tin125 tsz126 inf126 agg126 ifc126 tce126 zvl126 zfl126 tfo126_0 tfo126_1 tfl126 tze126 tin126 tsz136 inf136 agg136 ifc136 tce136 zvl136 zfl136 tfo136_0 tfl136 tze136 tin136 tsz137 inf137 agg137 ifc137 tce137 zvl137 zfl137 tfo137_0 tfl137 tze137 tin137 tsz138 inf138 agg138 ifc138 tce138 zvl138 zfl138 tfl138 tze138 tsz139 inf139 agg139 ifc139 tce139 zvl139 zfl139 tfl139 tze139 tsz140 inf140 agg140 ifc140 tce140 zvl140 zfl140 tfl140 tze140 tsz145 inf145 agg145 ifc145 tce145 zvl145 zfl145 tfo145_0 tfo145_1 tfo145_2 tfo145_3 tfl145 tze145 tin145 tsz154 inf154 agg154 ifc154 tce154 zvl154 zfl154 tfo154_0 tfo154_1 tfo154_2 tfo154_3 tfl154 tze154 tsz155 inf155 agg155 ifc155 tce155 zvl155 zfl155 tfo155_0 tfo155_1 tfo155_2 tfo155_3 tfl155 tze155 tsz156 inf156 agg156 ifc156 tce156 zvl156 zfl156 tel156 tar156 tsz157 inf157 agg157 ifc157 tce157 zvl157 zfl157 tfl157 tze157 tsz158 inf158 agg158 ifc158 tce158 zvl158 zfl158 tfl158 tze158 tsz160 inf160 agg160 ifc160 tce160 zvl160 zfl160 tit160 tsz161 inf161 agg161 ifc161 tce161 zvl161 zfl161 tit161 tsz162 inf162 agg162 ifc162 tce162 zvl162 zfl162 tit162 tsz164 inf164 agg164 ifc164 tce164 zvl164 zfl164 tpt164 tsz165 inf165 agg165 ifc165 tce165 zvl165 zfl165 tit165 tsz166 inf166 agg166 ifc166 tce166 zvl166 zfl166 tit166 tsz167 inf167 agg167 ifc167 tce167 zvl167 zfl167 tfo167_0 tfo167_1 tfo167_2 tfo167_3 tfo167_4 tfo167_5 tfo167_6 tfo167_7 tfo167_8 tfo167_9 tfo167_10 tfl167 tze167 tsz168 inf168 agg168 ifc168 tce168 zvl168 zfl168 tfo168_0 tfo168_1 tfo168_2 tfo168_3 tfo168_4 tfo168_5 tfo168_6 tfo168_7 tfo168_8 tfo168_9 tfo168_10 tfl168 tze168 tsz169 inf169 agg169 ifc169 tce169 zvl169 zfl169
theorem mixed : Try.prog.follows .mixedOrders = true := by kernel_rfl
end Go.Proofs.Ytopgafhjmbfaoaa
end
