import Derived.Test.YtgecghkendfabaaDoorAb19
import Derived.Test.YtgecghkendfabaaDoorProg
namespace Go.Abs
set_option linter.unusedSimpArgs false
set_option linter.unusedVariables false
set_option maxRecDepth 20000
open Go.Proofs
@[go_sem] theorem z2 : szP Tryd.prog 2 = some (false, 1) := id rfl
@[go_sem] theorem a2 : arP Tryd.prog 2 = none := id rfl
@[go_sem] theorem un2 : (Tryd.prog.underlying 2).isSome = true := id rfl
@[go_sem] theorem i2 : intT Tryd.prog 2 = some .i64 := id rfl
theorem zt2 : zeroT Tryd.prog 2 = some (.s (.int .i64 0)) := id rfl
@[go_sem] theorem zr2 : zeroP Tryd.prog 2 = some [.s (.int .i64 0)] := id rfl
@[go_sem] theorem z3 : szP Tryd.prog 3 = some (false, 1) := id rfl
@[go_sem] theorem a3 : arP Tryd.prog 3 = none := id rfl
@[go_sem] theorem un3 : (Tryd.prog.underlying 3).isSome = true := id rfl
@[go_sem] theorem i3 : intT Tryd.prog 3 = some .i64 := id rfl
theorem zt3 : zeroT Tryd.prog 3 = some (.s (.int .i64 0)) := id rfl
@[go_sem] theorem zr3 : zeroP Tryd.prog 3 = some [.s (.int .i64 0)] := id rfl
@[go_sem] theorem z4 : szP Tryd.prog 4 = some (false, 1) := id rfl
@[go_sem] theorem a4 : arP Tryd.prog 4 = none := id rfl
@[go_sem] theorem s4 : isBoolT Tryd.prog 4 = true := id rfl
theorem zt4 : zeroT Tryd.prog 4 = some (.s (.bool false)) := id rfl
@[go_sem] theorem zr4 : zeroP Tryd.prog 4 = some [.s (.bool false)] := id rfl
@[go_sem] theorem z5 : szP Tryd.prog 5 = some (false, 1) := id rfl
@[go_sem] theorem a5 : arP Tryd.prog 5 = none := id rfl
@[go_sem] theorem un5 : (Tryd.prog.underlying 5).isSome = true := id rfl
@[go_sem] theorem i5 : intT Tryd.prog 5 = some .u8 := id rfl
theorem zt5 : zeroT Tryd.prog 5 = some (.s (.int .u8 0)) := id rfl
@[go_sem] theorem zr5 : zeroP Tryd.prog 5 = some [.s (.int .u8 0)] := id rfl
@[go_sem] theorem z6 : szP Tryd.prog 6 = some (false, 1) := id rfl
@[go_sem] theorem a6 : arP Tryd.prog 6 = none := id rfl
@[go_sem] theorem un6 : (Tryd.prog.underlying 6).isSome = true := id rfl
@[go_sem] theorem i6 : intT Tryd.prog 6 = some .u8 := id rfl
theorem zt6 : zeroT Tryd.prog 6 = some (.s (.int .u8 0)) := id rfl
@[go_sem] theorem zr6 : zeroP Tryd.prog 6 = some [.s (.int .u8 0)] := id rfl
@[go_sem] theorem z7 : szP Tryd.prog 7 = some (true, 4) := id rfl
@[go_sem] theorem a7 : arP Tryd.prog 7 = none := id rfl
@[go_sem] theorem f7_0 : fldP Tryd.prog 7 0 = some (0, false, 1) := id rfl
@[go_sem] theorem pl7_0 : placeP Tryd.prog 7 0 = some (0, 1) := id rfl
@[go_sem] theorem f7_1 : fldP Tryd.prog 7 1 = some (1, false, 1) := id rfl
@[go_sem] theorem pl7_1 : placeP Tryd.prog 7 1 = some (1, 1) := id rfl
@[go_sem] theorem f7_2 : fldP Tryd.prog 7 2 = some (2, false, 1) := id rfl
@[go_sem] theorem pl7_2 : placeP Tryd.prog 7 2 = some (2, 1) := id rfl
@[go_sem] theorem f7_3 : fldP Tryd.prog 7 3 = some (3, false, 1) := id rfl
@[go_sem] theorem pl7_3 : placeP Tryd.prog 7 3 = some (3, 1) := id rfl
@[go_sem] theorem sd7 : sized Tryd.prog 7 = true := id rfl
theorem zt7 : zeroT Tryd.prog 7 = some (.agg [.s (.int .i64 0), .s (.int .i64 0), .s (.bool false), .s (.int .u8 0)]) := id rfl
@[go_sem] theorem zr7 : zeroP Tryd.prog 7 = some [.s (.int .i64 0), .s (.int .i64 0), .s (.bool false), .s (.int .u8 0)] := id rfl
@[go_sem] theorem z8 : szP Tryd.prog 8 = some (true, 4) := id rfl
@[go_sem] theorem a8 : arP Tryd.prog 8 = none := id rfl
@[go_sem] theorem f8_0 : fldP Tryd.prog 8 0 = some (0, false, 1) := id rfl
@[go_sem] theorem pl8_0 : placeP Tryd.prog 8 0 = some (0, 1) := id rfl
@[go_sem] theorem f8_1 : fldP Tryd.prog 8 1 = some (1, false, 1) := id rfl
@[go_sem] theorem pl8_1 : placeP Tryd.prog 8 1 = some (1, 1) := id rfl
@[go_sem] theorem f8_2 : fldP Tryd.prog 8 2 = some (2, false, 1) := id rfl
@[go_sem] theorem pl8_2 : placeP Tryd.prog 8 2 = some (2, 1) := id rfl
@[go_sem] theorem f8_3 : fldP Tryd.prog 8 3 = some (3, false, 1) := id rfl
@[go_sem] theorem pl8_3 : placeP Tryd.prog 8 3 = some (3, 1) := id rfl
@[go_sem] theorem sd8 : sized Tryd.prog 8 = true := id rfl
theorem zt8 : zeroT Tryd.prog 8 = some (.agg [.s (.int .i64 0), .s (.int .i64 0), .s (.bool false), .s (.int .u8 0)]) := id rfl
@[go_sem] theorem zr8 : zeroP Tryd.prog 8 = some [.s (.int .i64 0), .s (.int .i64 0), .s (.bool false), .s (.int .u8 0)] := id rfl
@[go_sem] theorem z9 : szP Tryd.prog 9 = some (false, 1) := id rfl
@[go_sem] theorem a9 : arP Tryd.prog 9 = none := id rfl
@[go_sem] theorem s9 : isStr Tryd.prog 9 = true := id rfl
theorem zt9 : zeroT Tryd.prog 9 = some (.s (.string ByteArray.empty)) := id rfl
@[go_sem] theorem zr9 : zeroP Tryd.prog 9 = some [.s (.string ByteArray.empty)] := id rfl
@[go_sem] theorem z10 : szP Tryd.prog 10 = some (false, 1) := id rfl
@[go_sem] theorem a10 : arP Tryd.prog 10 = none := id rfl
@[go_sem] theorem s10 : isStr Tryd.prog 10 = true := id rfl
theorem zt10 : zeroT Tryd.prog 10 = some (.s (.string ByteArray.empty)) := id rfl
@[go_sem] theorem zr10 : zeroP Tryd.prog 10 = some [.s (.string ByteArray.empty)] := id rfl
@[go_sem] theorem z11 : szP Tryd.prog 11 = some (false, 1) := id rfl
@[go_sem] theorem a11 : arP Tryd.prog 11 = none := id rfl
@[go_sem] theorem s11 : isStr Tryd.prog 11 = true := id rfl
theorem zt11 : zeroT Tryd.prog 11 = some (.s (.string ByteArray.empty)) := id rfl
@[go_sem] theorem zr11 : zeroP Tryd.prog 11 = some [.s (.string ByteArray.empty)] := id rfl
@[go_sem] theorem z12 : szP Tryd.prog 12 = some (false, 1) := id rfl
@[go_sem] theorem a12 : arP Tryd.prog 12 = none := id rfl
@[go_sem] theorem un12 : (Tryd.prog.underlying 12).isSome = true := id rfl
@[go_sem] theorem i12 : intT Tryd.prog 12 = some .u64 := id rfl
theorem zt12 : zeroT Tryd.prog 12 = some (.s (.int .u64 0)) := id rfl
@[go_sem] theorem zr12 : zeroP Tryd.prog 12 = some [.s (.int .u64 0)] := id rfl
@[go_sem] theorem z13 : szP Tryd.prog 13 = some (true, 2) := id rfl
@[go_sem] theorem a13 : arP Tryd.prog 13 = none := id rfl
@[go_sem] theorem f13_0 : fldP Tryd.prog 13 0 = some (0, false, 1) := id rfl
@[go_sem] theorem pl13_0 : placeP Tryd.prog 13 0 = some (0, 1) := id rfl
@[go_sem] theorem f13_1 : fldP Tryd.prog 13 1 = some (1, false, 1) := id rfl
@[go_sem] theorem pl13_1 : placeP Tryd.prog 13 1 = some (1, 1) := id rfl
@[go_sem] theorem sd13 : sized Tryd.prog 13 = true := id rfl
theorem zt13 : zeroT Tryd.prog 13 = some (.agg [.s (.string ByteArray.empty), .s (.int .u64 0)]) := id rfl
@[go_sem] theorem zr13 : zeroP Tryd.prog 13 = some [.s (.string ByteArray.empty), .s (.int .u64 0)] := id rfl
@[go_sem] theorem z14 : szP Tryd.prog 14 = some (true, 2) := id rfl
@[go_sem] theorem a14 : arP Tryd.prog 14 = none := id rfl
@[go_sem] theorem f14_0 : fldP Tryd.prog 14 0 = some (0, false, 1) := id rfl
@[go_sem] theorem pl14_0 : placeP Tryd.prog 14 0 = some (0, 1) := id rfl
@[go_sem] theorem f14_1 : fldP Tryd.prog 14 1 = some (1, false, 1) := id rfl
@[go_sem] theorem pl14_1 : placeP Tryd.prog 14 1 = some (1, 1) := id rfl
@[go_sem] theorem sd14 : sized Tryd.prog 14 = true := id rfl
theorem zt14 : zeroT Tryd.prog 14 = some (.agg [.s (.string ByteArray.empty), .s (.int .u64 0)]) := id rfl
@[go_sem] theorem zr14 : zeroP Tryd.prog 14 = some [.s (.string ByteArray.empty), .s (.int .u64 0)] := id rfl
@[go_sem] theorem z15 : szP Tryd.prog 15 = some (false, 1) := id rfl
@[go_sem] theorem a15 : arP Tryd.prog 15 = none := id rfl
@[go_sem] theorem s15 : isPtrT Tryd.prog 15 = true := id rfl
theorem zt15 : zeroT Tryd.prog 15 = some (.s (.pointer none)) := id rfl
@[go_sem] theorem zr15 : zeroP Tryd.prog 15 = some [.s (.pointer none)] := id rfl
@[go_sem] theorem z16 : szP Tryd.prog 16 = some (false, 1) := id rfl
@[go_sem] theorem a16 : arP Tryd.prog 16 = none := id rfl
@[go_sem] theorem s16 : isPtrT Tryd.prog 16 = true := id rfl
theorem zt16 : zeroT Tryd.prog 16 = some (.s (.pointer none)) := id rfl
@[go_sem] theorem zr16 : zeroP Tryd.prog 16 = some [.s (.pointer none)] := id rfl
@[go_sem] theorem z17 : szP Tryd.prog 17 = some (false, 1) := id rfl
@[go_sem] theorem a17 : arP Tryd.prog 17 = none := id rfl
@[go_sem] theorem s17 : isPtrT Tryd.prog 17 = true := id rfl
theorem zt17 : zeroT Tryd.prog 17 = some (.s (.pointer none)) := id rfl
@[go_sem] theorem zr17 : zeroP Tryd.prog 17 = some [.s (.pointer none)] := id rfl
@[go_sem] theorem z18 : szP Tryd.prog 18 = some (true, 1) := id rfl
@[go_sem] theorem a18 : arP Tryd.prog 18 = none := id rfl
@[go_sem] theorem f18_0 : fldP Tryd.prog 18 0 = some (0, false, 1) := id rfl
@[go_sem] theorem pl18_0 : placeP Tryd.prog 18 0 = some (0, 1) := id rfl
@[go_sem] theorem sd18 : sized Tryd.prog 18 = true := id rfl
theorem zt18 : zeroT Tryd.prog 18 = some (.agg [.s (.pointer none)]) := id rfl
@[go_sem] theorem zr18 : zeroP Tryd.prog 18 = some [.s (.pointer none)] := id rfl
@[go_sem] theorem z19 : szP Tryd.prog 19 = some (true, 1) := id rfl
@[go_sem] theorem a19 : arP Tryd.prog 19 = none := id rfl
@[go_sem] theorem f19_0 : fldP Tryd.prog 19 0 = some (0, false, 1) := id rfl
@[go_sem] theorem pl19_0 : placeP Tryd.prog 19 0 = some (0, 1) := id rfl
@[go_sem] theorem sd19 : sized Tryd.prog 19 = true := id rfl
theorem zt19 : zeroT Tryd.prog 19 = some (.agg [.s (.pointer none)]) := id rfl
@[go_sem] theorem zr19 : zeroP Tryd.prog 19 = some [.s (.pointer none)] := id rfl
@[go_sem] theorem z21 : szP Tryd.prog 21 = some (false, 1) := id rfl
@[go_sem] theorem a21 : arP Tryd.prog 21 = none := id rfl
@[go_sem] theorem un21 : (Tryd.prog.underlying 21).isSome = true := id rfl
@[go_sem] theorem i21 : intT Tryd.prog 21 = some .i32 := id rfl
theorem zt21 : zeroT Tryd.prog 21 = some (.s (.int .i32 0)) := id rfl
@[go_sem] theorem zr21 : zeroP Tryd.prog 21 = some [.s (.int .i32 0)] := id rfl
@[go_sem] theorem z22 : szP Tryd.prog 22 = some (false, 1) := id rfl
@[go_sem] theorem a22 : arP Tryd.prog 22 = none := id rfl
@[go_sem] theorem e22 : elP Tryd.prog 22 = some 1 := id rfl
@[go_sem] theorem nb22 : nilOk Tryd.prog 22 = true := id rfl
theorem us22 : Tryd.prog.underlying 22 = some (.slice 9) := id rfl
theorem ap22 : apP Tryd.prog 22 = some (1, 16) := id rfl
theorem zt22 : zeroT Tryd.prog 22 = some (.nils) := id rfl
@[go_sem] theorem zr22 : zeroP Tryd.prog 22 = some [.nils] := id rfl
@[go_sem] theorem z23 : szP Tryd.prog 23 = some (false, 1) := id rfl
@[go_sem] theorem a23 : arP Tryd.prog 23 = none := id rfl
@[go_sem] theorem e23 : elP Tryd.prog 23 = some 1 := id rfl
@[go_sem] theorem nb23 : nilOk Tryd.prog 23 = true := id rfl
theorem us23 : Tryd.prog.underlying 23 = some (.slice 44) := id rfl
theorem ap23 : apP Tryd.prog 23 = some (1, 4) := id rfl
theorem zt23 : zeroT Tryd.prog 23 = some (.nils) := id rfl
@[go_sem] theorem zr23 : zeroP Tryd.prog 23 = some [.nils] := id rfl
@[go_sem] theorem z24 : szP Tryd.prog 24 = some (false, 1) := id rfl
@[go_sem] theorem a24 : arP Tryd.prog 24 = none := id rfl
@[go_sem] theorem e24 : elP Tryd.prog 24 = some 3 := id rfl
@[go_sem] theorem nb24 : nilOk Tryd.prog 24 = true := id rfl
theorem us24 : Tryd.prog.underlying 24 = some (.slice 43) := id rfl
theorem ap24 : apP Tryd.prog 24 = some (3, 6) := id rfl
theorem zt24 : zeroT Tryd.prog 24 = some (.nils) := id rfl
@[go_sem] theorem zr24 : zeroP Tryd.prog 24 = some [.nils] := id rfl
@[go_sem] theorem z25 : szP Tryd.prog 25 = some (true, 6) := id rfl
@[go_sem] theorem a25 : arP Tryd.prog 25 = none := id rfl
@[go_sem] theorem f25_0 : fldP Tryd.prog 25 0 = some (0, false, 1) := id rfl
@[go_sem] theorem pl25_0 : placeP Tryd.prog 25 0 = some (0, 1) := id rfl
@[go_sem] theorem f25_1 : fldP Tryd.prog 25 1 = some (1, false, 1) := id rfl
@[go_sem] theorem pl25_1 : placeP Tryd.prog 25 1 = some (1, 1) := id rfl
@[go_sem] theorem f25_2 : fldP Tryd.prog 25 2 = some (2, false, 1) := id rfl
@[go_sem] theorem pl25_2 : placeP Tryd.prog 25 2 = some (2, 1) := id rfl
@[go_sem] theorem f25_3 : fldP Tryd.prog 25 3 = some (3, false, 1) := id rfl
@[go_sem] theorem pl25_3 : placeP Tryd.prog 25 3 = some (3, 1) := id rfl
@[go_sem] theorem f25_4 : fldP Tryd.prog 25 4 = some (4, false, 1) := id rfl
@[go_sem] theorem pl25_4 : placeP Tryd.prog 25 4 = some (4, 1) := id rfl
@[go_sem] theorem f25_5 : fldP Tryd.prog 25 5 = some (5, false, 1) := id rfl
@[go_sem] theorem pl25_5 : placeP Tryd.prog 25 5 = some (5, 1) := id rfl
@[go_sem] theorem sd25 : sized Tryd.prog 25 = true := id rfl
theorem zt25 : zeroT Tryd.prog 25 = some (.agg [.s (.string ByteArray.empty), .nils, .nils, .nils, .nils, .nils]) := id rfl
@[go_sem] theorem zr25 : zeroP Tryd.prog 25 = some [.s (.string ByteArray.empty), .nils, .nils, .nils, .nils, .nils] := id rfl
@[go_sem] theorem z26 : szP Tryd.prog 26 = some (true, 6) := id rfl
@[go_sem] theorem a26 : arP Tryd.prog 26 = none := id rfl
@[go_sem] theorem f26_0 : fldP Tryd.prog 26 0 = some (0, false, 1) := id rfl
@[go_sem] theorem pl26_0 : placeP Tryd.prog 26 0 = some (0, 1) := id rfl
@[go_sem] theorem f26_1 : fldP Tryd.prog 26 1 = some (1, false, 1) := id rfl
@[go_sem] theorem pl26_1 : placeP Tryd.prog 26 1 = some (1, 1) := id rfl
@[go_sem] theorem f26_2 : fldP Tryd.prog 26 2 = some (2, false, 1) := id rfl
@[go_sem] theorem pl26_2 : placeP Tryd.prog 26 2 = some (2, 1) := id rfl
@[go_sem] theorem f26_3 : fldP Tryd.prog 26 3 = some (3, false, 1) := id rfl
@[go_sem] theorem pl26_3 : placeP Tryd.prog 26 3 = some (3, 1) := id rfl
@[go_sem] theorem f26_4 : fldP Tryd.prog 26 4 = some (4, false, 1) := id rfl
@[go_sem] theorem pl26_4 : placeP Tryd.prog 26 4 = some (4, 1) := id rfl
@[go_sem] theorem f26_5 : fldP Tryd.prog 26 5 = some (5, false, 1) := id rfl
@[go_sem] theorem pl26_5 : placeP Tryd.prog 26 5 = some (5, 1) := id rfl
@[go_sem] theorem sd26 : sized Tryd.prog 26 = true := id rfl
theorem zt26 : zeroT Tryd.prog 26 = some (.agg [.s (.string ByteArray.empty), .nils, .nils, .nils, .nils, .nils]) := id rfl
@[go_sem] theorem zr26 : zeroP Tryd.prog 26 = some [.s (.string ByteArray.empty), .nils, .nils, .nils, .nils, .nils] := id rfl
@[go_sem] theorem z30 : szP Tryd.prog 30 = some (false, 1) := id rfl
@[go_sem] theorem a30 : arP Tryd.prog 30 = none := id rfl
@[go_sem] theorem un30 : (Tryd.prog.underlying 30).isSome = true := id rfl
@[go_sem] theorem i30 : intT Tryd.prog 30 = some .u8 := id rfl
theorem zt30 : zeroT Tryd.prog 30 = some (.s (.int .u8 0)) := id rfl
@[go_sem] theorem zr30 : zeroP Tryd.prog 30 = some [.s (.int .u8 0)] := id rfl
@[go_sem] theorem z35 : szP Tryd.prog 35 = some (false, 1) := id rfl
@[go_sem] theorem a35 : arP Tryd.prog 35 = none := id rfl
@[go_sem] theorem un35 : (Tryd.prog.underlying 35).isSome = true := id rfl
@[go_sem] theorem i35 : intT Tryd.prog 35 = some .i64 := id rfl
theorem zt35 : zeroT Tryd.prog 35 = some (.s (.int .i64 0)) := id rfl
@[go_sem] theorem zr35 : zeroP Tryd.prog 35 = some [.s (.int .i64 0)] := id rfl
@[go_sem] theorem z39 : szP Tryd.prog 39 = some (false, 1) := id rfl
@[go_sem] theorem a39 : arP Tryd.prog 39 = none := id rfl
theorem um39 : Tryd.prog.underlying 39 = some (.map 3 4) := id rfl
theorem zt39 : zeroT Tryd.prog 39 = some (.s (.map none)) := id rfl
@[go_sem] theorem zr39 : zeroP Tryd.prog 39 = some [.s (.map none)] := id rfl
@[go_sem] theorem z40 : szP Tryd.prog 40 = some (false, 1) := id rfl
@[go_sem] theorem a40 : arP Tryd.prog 40 = none := id rfl
@[go_sem] theorem un40 : (Tryd.prog.underlying 40).isSome = true := id rfl
@[go_sem] theorem i40 : intT Tryd.prog 40 = some .u8 := id rfl
theorem zt40 : zeroT Tryd.prog 40 = some (.s (.int .u8 0)) := id rfl
@[go_sem] theorem zr40 : zeroP Tryd.prog 40 = some [.s (.int .u8 0)] := id rfl
@[go_sem] theorem z41 : szP Tryd.prog 41 = some (false, 1) := id rfl
@[go_sem] theorem a41 : arP Tryd.prog 41 = none := id rfl
@[go_sem] theorem un41 : (Tryd.prog.underlying 41).isSome = true := id rfl
@[go_sem] theorem i41 : intT Tryd.prog 41 = some .u16 := id rfl
theorem zt41 : zeroT Tryd.prog 41 = some (.s (.int .u16 0)) := id rfl
@[go_sem] theorem zr41 : zeroP Tryd.prog 41 = some [.s (.int .u16 0)] := id rfl
@[go_sem] theorem z42 : szP Tryd.prog 42 = some (true, 3) := id rfl
@[go_sem] theorem a42 : arP Tryd.prog 42 = none := id rfl
@[go_sem] theorem f42_0 : fldP Tryd.prog 42 0 = some (0, false, 1) := id rfl
@[go_sem] theorem pl42_0 : placeP Tryd.prog 42 0 = some (0, 1) := id rfl
@[go_sem] theorem f42_1 : fldP Tryd.prog 42 1 = some (1, false, 1) := id rfl
@[go_sem] theorem pl42_1 : placeP Tryd.prog 42 1 = some (1, 1) := id rfl
@[go_sem] theorem f42_2 : fldP Tryd.prog 42 2 = some (2, false, 1) := id rfl
@[go_sem] theorem pl42_2 : placeP Tryd.prog 42 2 = some (2, 1) := id rfl
@[go_sem] theorem sd42 : sized Tryd.prog 42 = true := id rfl
theorem zt42 : zeroT Tryd.prog 42 = some (.agg [.s (.int .u8 0), .s (.int .u16 0), .s (.int .u16 0)]) := id rfl
@[go_sem] theorem zr42 : zeroP Tryd.prog 42 = some [.s (.int .u8 0), .s (.int .u16 0), .s (.int .u16 0)] := id rfl
@[go_sem] theorem z43 : szP Tryd.prog 43 = some (true, 3) := id rfl
@[go_sem] theorem a43 : arP Tryd.prog 43 = none := id rfl
@[go_sem] theorem f43_0 : fldP Tryd.prog 43 0 = some (0, false, 1) := id rfl
@[go_sem] theorem pl43_0 : placeP Tryd.prog 43 0 = some (0, 1) := id rfl
@[go_sem] theorem f43_1 : fldP Tryd.prog 43 1 = some (1, false, 1) := id rfl
@[go_sem] theorem pl43_1 : placeP Tryd.prog 43 1 = some (1, 1) := id rfl
@[go_sem] theorem f43_2 : fldP Tryd.prog 43 2 = some (2, false, 1) := id rfl
@[go_sem] theorem pl43_2 : placeP Tryd.prog 43 2 = some (2, 1) := id rfl
@[go_sem] theorem sd43 : sized Tryd.prog 43 = true := id rfl
theorem zt43 : zeroT Tryd.prog 43 = some (.agg [.s (.int .u8 0), .s (.int .u16 0), .s (.int .u16 0)]) := id rfl
@[go_sem] theorem zr43 : zeroP Tryd.prog 43 = some [.s (.int .u8 0), .s (.int .u16 0), .s (.int .u16 0)] := id rfl
@[go_sem] theorem z44 : szP Tryd.prog 44 = some (false, 1) := id rfl
@[go_sem] theorem a44 : arP Tryd.prog 44 = none := id rfl
@[go_sem] theorem un44 : (Tryd.prog.underlying 44).isSome = true := id rfl
@[go_sem] theorem i44 : intT Tryd.prog 44 = some .u32 := id rfl
theorem zt44 : zeroT Tryd.prog 44 = some (.s (.int .u32 0)) := id rfl
@[go_sem] theorem zr44 : zeroP Tryd.prog 44 = some [.s (.int .u32 0)] := id rfl
@[go_sem] theorem z45 : szP Tryd.prog 45 = some (false, 1) := id rfl
@[go_sem] theorem a45 : arP Tryd.prog 45 = none := id rfl
@[go_sem] theorem un45 : (Tryd.prog.underlying 45).isSome = true := id rfl
@[go_sem] theorem i45 : intT Tryd.prog 45 = some .u8 := id rfl
theorem zt45 : zeroT Tryd.prog 45 = some (.s (.int .u8 0)) := id rfl
@[go_sem] theorem zr45 : zeroP Tryd.prog 45 = some [.s (.int .u8 0)] := id rfl
@[go_sem] theorem z46 : szP Tryd.prog 46 = some (true, 5) := id rfl
@[go_sem] theorem a46 : arP Tryd.prog 46 = none := id rfl
@[go_sem] theorem f46_0 : fldP Tryd.prog 46 0 = some (0, false, 1) := id rfl
@[go_sem] theorem pl46_0 : placeP Tryd.prog 46 0 = some (0, 1) := id rfl
@[go_sem] theorem f46_1 : fldP Tryd.prog 46 1 = some (1, false, 1) := id rfl
@[go_sem] theorem pl46_1 : placeP Tryd.prog 46 1 = some (1, 1) := id rfl
@[go_sem] theorem f46_2 : fldP Tryd.prog 46 2 = some (2, false, 1) := id rfl
@[go_sem] theorem pl46_2 : placeP Tryd.prog 46 2 = some (2, 1) := id rfl
@[go_sem] theorem f46_3 : fldP Tryd.prog 46 3 = some (3, false, 1) := id rfl
@[go_sem] theorem pl46_3 : placeP Tryd.prog 46 3 = some (3, 1) := id rfl
@[go_sem] theorem f46_4 : fldP Tryd.prog 46 4 = some (4, false, 1) := id rfl
@[go_sem] theorem pl46_4 : placeP Tryd.prog 46 4 = some (4, 1) := id rfl
@[go_sem] theorem sd46 : sized Tryd.prog 46 = true := id rfl
theorem zt46 : zeroT Tryd.prog 46 = some (.agg [.s (.int .u8 0), .s (.int .u8 0), .s (.int .u8 0), .s (.int .u8 0), .s (.int .i32 0)]) := id rfl
@[go_sem] theorem zr46 : zeroP Tryd.prog 46 = some [.s (.int .u8 0), .s (.int .u8 0), .s (.int .u8 0), .s (.int .u8 0), .s (.int .i32 0)] := id rfl
@[go_sem] theorem z47 : szP Tryd.prog 47 = some (true, 5) := id rfl
@[go_sem] theorem a47 : arP Tryd.prog 47 = none := id rfl
@[go_sem] theorem f47_0 : fldP Tryd.prog 47 0 = some (0, false, 1) := id rfl
@[go_sem] theorem pl47_0 : placeP Tryd.prog 47 0 = some (0, 1) := id rfl
@[go_sem] theorem f47_1 : fldP Tryd.prog 47 1 = some (1, false, 1) := id rfl
@[go_sem] theorem pl47_1 : placeP Tryd.prog 47 1 = some (1, 1) := id rfl
@[go_sem] theorem f47_2 : fldP Tryd.prog 47 2 = some (2, false, 1) := id rfl
@[go_sem] theorem pl47_2 : placeP Tryd.prog 47 2 = some (2, 1) := id rfl
@[go_sem] theorem f47_3 : fldP Tryd.prog 47 3 = some (3, false, 1) := id rfl
@[go_sem] theorem pl47_3 : placeP Tryd.prog 47 3 = some (3, 1) := id rfl
@[go_sem] theorem f47_4 : fldP Tryd.prog 47 4 = some (4, false, 1) := id rfl
@[go_sem] theorem pl47_4 : placeP Tryd.prog 47 4 = some (4, 1) := id rfl
@[go_sem] theorem sd47 : sized Tryd.prog 47 = true := id rfl
theorem zt47 : zeroT Tryd.prog 47 = some (.agg [.s (.int .u8 0), .s (.int .u8 0), .s (.int .u8 0), .s (.int .u8 0), .s (.int .i32 0)]) := id rfl
@[go_sem] theorem zr47 : zeroP Tryd.prog 47 = some [.s (.int .u8 0), .s (.int .u8 0), .s (.int .u8 0), .s (.int .u8 0), .s (.int .i32 0)] := id rfl
@[go_sem] theorem z54 : szP Tryd.prog 54 = some (false, 1) := id rfl
@[go_sem] theorem a54 : arP Tryd.prog 54 = none := id rfl
@[go_sem] theorem e54 : elP Tryd.prog 54 = some 1 := id rfl
@[go_sem] theorem nb54 : nilOk Tryd.prog 54 = true := id rfl
theorem us54 : Tryd.prog.underlying 54 = some (.slice 3) := id rfl
theorem ap54 : apP Tryd.prog 54 = some (1, 8) := id rfl
theorem zt54 : zeroT Tryd.prog 54 = some (.nils) := id rfl
@[go_sem] theorem zr54 : zeroP Tryd.prog 54 = some [.nils] := id rfl
@[go_sem] theorem z70 : szP Tryd.prog 70 = some (false, 1) := id rfl
@[go_sem] theorem a70 : arP Tryd.prog 70 = none := id rfl
theorem um70 : Tryd.prog.underlying 70 = some (.map 72 4) := id rfl
theorem zt70 : zeroT Tryd.prog 70 = some (.s (.map none)) := id rfl
@[go_sem] theorem zr70 : zeroP Tryd.prog 70 = some [.s (.map none)] := id rfl
@[go_sem] theorem z71 : szP Tryd.prog 71 = some (true, 2) := id rfl
@[go_sem] theorem a71 : arP Tryd.prog 71 = none := id rfl
@[go_sem] theorem f71_0 : fldP Tryd.prog 71 0 = some (0, false, 1) := id rfl
@[go_sem] theorem pl71_0 : placeP Tryd.prog 71 0 = some (0, 1) := id rfl
@[go_sem] theorem f71_1 : fldP Tryd.prog 71 1 = some (1, false, 1) := id rfl
@[go_sem] theorem pl71_1 : placeP Tryd.prog 71 1 = some (1, 1) := id rfl
@[go_sem] theorem sd71 : sized Tryd.prog 71 = true := id rfl
theorem zt71 : zeroT Tryd.prog 71 = some (.agg [.s (.bool false), .s (.int .u16 0)]) := id rfl
@[go_sem] theorem zr71 : zeroP Tryd.prog 71 = some [.s (.bool false), .s (.int .u16 0)] := id rfl
@[go_sem] theorem z72 : szP Tryd.prog 72 = some (true, 2) := id rfl
@[go_sem] theorem a72 : arP Tryd.prog 72 = none := id rfl
@[go_sem] theorem f72_0 : fldP Tryd.prog 72 0 = some (0, false, 1) := id rfl
@[go_sem] theorem pl72_0 : placeP Tryd.prog 72 0 = some (0, 1) := id rfl
@[go_sem] theorem f72_1 : fldP Tryd.prog 72 1 = some (1, false, 1) := id rfl
@[go_sem] theorem pl72_1 : placeP Tryd.prog 72 1 = some (1, 1) := id rfl
@[go_sem] theorem sd72 : sized Tryd.prog 72 = true := id rfl
theorem zt72 : zeroT Tryd.prog 72 = some (.agg [.s (.bool false), .s (.int .u16 0)]) := id rfl
@[go_sem] theorem zr72 : zeroP Tryd.prog 72 = some [.s (.bool false), .s (.int .u16 0)] := id rfl
@[go_sem] theorem z87 : szP Tryd.prog 87 = some (false, 1) := id rfl
@[go_sem] theorem a87 : arP Tryd.prog 87 = none := id rfl
@[go_sem] theorem e87 : elP Tryd.prog 87 = some 1 := id rfl
@[go_sem] theorem nb87 : nilOk Tryd.prog 87 = true := id rfl
theorem us87 : Tryd.prog.underlying 87 = some (.slice 22) := id rfl
theorem ap87 : apP Tryd.prog 87 = some (1, 24) := id rfl
theorem zt87 : zeroT Tryd.prog 87 = some (.nils) := id rfl
@[go_sem] theorem zr87 : zeroP Tryd.prog 87 = some [.nils] := id rfl
@[go_sem] theorem z94 : szP Tryd.prog 94 = some (true, 4) := id rfl
@[go_sem] theorem a94 : arP Tryd.prog 94 = some (4, false, 1) := id rfl
@[go_sem] theorem sd94 : sized Tryd.prog 94 = true := id rfl
@[go_sem] theorem pl94 (i : Nat) : placeP Tryd.prog 94 i = some (i * 1, 1) := id rfl
theorem zt94 : zeroT Tryd.prog 94 = some (.agg [.s (.bool false), .s (.bool false), .s (.bool false), .s (.bool false)]) := id rfl
@[go_sem] theorem zr94 : zeroP Tryd.prog 94 = some [.s (.bool false), .s (.bool false), .s (.bool false), .s (.bool false)] := id rfl
@[go_sem] theorem z105 : szP Tryd.prog 105 = some (false, 1) := id rfl
@[go_sem] theorem a105 : arP Tryd.prog 105 = none := id rfl
@[go_sem] theorem un105 : (Tryd.prog.underlying 105).isSome = true := id rfl
@[go_sem] theorem i105 : intT Tryd.prog 105 = some .u64 := id rfl
theorem zt105 : zeroT Tryd.prog 105 = some (.s (.int .u64 0)) := id rfl
@[go_sem] theorem zr105 : zeroP Tryd.prog 105 = some [.s (.int .u64 0)] := id rfl
@[go_sem] theorem z115 : szP Tryd.prog 115 = some (true, 256) := id rfl
@[go_sem] theorem a115 : arP Tryd.prog 115 = some (256, false, 1) := id rfl
@[go_sem] theorem sd115 : sized Tryd.prog 115 = true := id rfl
@[go_sem] theorem pl115 (i : Nat) : placeP Tryd.prog 115 i = some (i * 1, 1) := id rfl
@[go_sem] theorem z116 : szP Tryd.prog 116 = some (true, 2) := id rfl
@[go_sem] theorem a116 : arP Tryd.prog 116 = none := id rfl
@[go_sem] theorem f116_0 : fldP Tryd.prog 116 0 = some (0, false, 1) := id rfl
@[go_sem] theorem pl116_0 : placeP Tryd.prog 116 0 = some (0, 1) := id rfl
@[go_sem] theorem f116_1 : fldP Tryd.prog 116 1 = some (1, false, 1) := id rfl
@[go_sem] theorem pl116_1 : placeP Tryd.prog 116 1 = some (1, 1) := id rfl
@[go_sem] theorem sd116 : sized Tryd.prog 116 = true := id rfl
theorem zt116 : zeroT Tryd.prog 116 = some (.agg [.s (.int .u8 0), .s (.int .u8 0)]) := id rfl
@[go_sem] theorem zr116 : zeroP Tryd.prog 116 = some [.s (.int .u8 0), .s (.int .u8 0)] := id rfl
@[go_sem] theorem z117 : szP Tryd.prog 117 = some (true, 2) := id rfl
@[go_sem] theorem a117 : arP Tryd.prog 117 = none := id rfl
@[go_sem] theorem f117_0 : fldP Tryd.prog 117 0 = some (0, false, 1) := id rfl
@[go_sem] theorem pl117_0 : placeP Tryd.prog 117 0 = some (0, 1) := id rfl
@[go_sem] theorem f117_1 : fldP Tryd.prog 117 1 = some (1, false, 1) := id rfl
@[go_sem] theorem pl117_1 : placeP Tryd.prog 117 1 = some (1, 1) := id rfl
@[go_sem] theorem sd117 : sized Tryd.prog 117 = true := id rfl
theorem zt117 : zeroT Tryd.prog 117 = some (.agg [.s (.int .u8 0), .s (.int .u8 0)]) := id rfl
@[go_sem] theorem zr117 : zeroP Tryd.prog 117 = some [.s (.int .u8 0), .s (.int .u8 0)] := id rfl
@[go_sem] theorem z118 : szP Tryd.prog 118 = some (true, 32) := id rfl
@[go_sem] theorem a118 : arP Tryd.prog 118 = some (16, true, 2) := id rfl
@[go_sem] theorem sd118 : sized Tryd.prog 118 = true := id rfl
@[go_sem] theorem pl118 (i : Nat) : placeP Tryd.prog 118 i = some (i * 2, 2) := id rfl
theorem zt118 : zeroT Tryd.prog 118 = some (.agg [.s (.int .u8 0), .s (.int .u8 0), .s (.int .u8 0), .s (.int .u8 0), .s (.int .u8 0), .s (.int .u8 0), .s (.int .u8 0), .s (.int .u8 0), .s (.int .u8 0), .s (.int .u8 0), .s (.int .u8 0), .s (.int .u8 0), .s (.int .u8 0), .s (.int .u8 0), .s (.int .u8 0), .s (.int .u8 0), .s (.int .u8 0), .s (.int .u8 0), .s (.int .u8 0), .s (.int .u8 0), .s (.int .u8 0), .s (.int .u8 0), .s (.int .u8 0), .s (.int .u8 0), .s (.int .u8 0), .s (.int .u8 0), .s (.int .u8 0), .s (.int .u8 0), .s (.int .u8 0), .s (.int .u8 0), .s (.int .u8 0), .s (.int .u8 0)]) := id rfl
@[go_sem] theorem zr118 : zeroP Tryd.prog 118 = some [.s (.int .u8 0), .s (.int .u8 0), .s (.int .u8 0), .s (.int .u8 0), .s (.int .u8 0), .s (.int .u8 0), .s (.int .u8 0), .s (.int .u8 0), .s (.int .u8 0), .s (.int .u8 0), .s (.int .u8 0), .s (.int .u8 0), .s (.int .u8 0), .s (.int .u8 0), .s (.int .u8 0), .s (.int .u8 0), .s (.int .u8 0), .s (.int .u8 0), .s (.int .u8 0), .s (.int .u8 0), .s (.int .u8 0), .s (.int .u8 0), .s (.int .u8 0), .s (.int .u8 0), .s (.int .u8 0), .s (.int .u8 0), .s (.int .u8 0), .s (.int .u8 0), .s (.int .u8 0), .s (.int .u8 0), .s (.int .u8 0), .s (.int .u8 0)] := id rfl
@[go_sem] theorem z122 : szP Tryd.prog 122 = some (true, 4) := id rfl
@[go_sem] theorem a122 : arP Tryd.prog 122 = none := id rfl
@[go_sem] theorem f122_0 : fldP Tryd.prog 122 0 = some (0, false, 1) := id rfl
@[go_sem] theorem pl122_0 : placeP Tryd.prog 122 0 = some (0, 1) := id rfl
@[go_sem] theorem f122_1 : fldP Tryd.prog 122 1 = some (1, false, 1) := id rfl
@[go_sem] theorem pl122_1 : placeP Tryd.prog 122 1 = some (1, 1) := id rfl
@[go_sem] theorem f122_2 : fldP Tryd.prog 122 2 = some (2, false, 1) := id rfl
@[go_sem] theorem pl122_2 : placeP Tryd.prog 122 2 = some (2, 1) := id rfl
@[go_sem] theorem f122_3 : fldP Tryd.prog 122 3 = some (3, false, 1) := id rfl
@[go_sem] theorem pl122_3 : placeP Tryd.prog 122 3 = some (3, 1) := id rfl
@[go_sem] theorem sd122 : sized Tryd.prog 122 = true := id rfl
theorem zt122 : zeroT Tryd.prog 122 = some (.agg [.s (.pointer none), .s (.pointer none), .s (.pointer none), .s (.string ByteArray.empty)]) := id rfl
@[go_sem] theorem zr122 : zeroP Tryd.prog 122 = some [.s (.pointer none), .s (.pointer none), .s (.pointer none), .s (.string ByteArray.empty)] := id rfl
@[go_sem] theorem z123 : szP Tryd.prog 123 = some (true, 4) := id rfl
@[go_sem] theorem a123 : arP Tryd.prog 123 = none := id rfl
@[go_sem] theorem f123_0 : fldP Tryd.prog 123 0 = some (0, false, 1) := id rfl
@[go_sem] theorem pl123_0 : placeP Tryd.prog 123 0 = some (0, 1) := id rfl
@[go_sem] theorem f123_1 : fldP Tryd.prog 123 1 = some (1, false, 1) := id rfl
@[go_sem] theorem pl123_1 : placeP Tryd.prog 123 1 = some (1, 1) := id rfl
@[go_sem] theorem f123_2 : fldP Tryd.prog 123 2 = some (2, false, 1) := id rfl
@[go_sem] theorem pl123_2 : placeP Tryd.prog 123 2 = some (2, 1) := id rfl
@[go_sem] theorem f123_3 : fldP Tryd.prog 123 3 = some (3, false, 1) := id rfl
@[go_sem] theorem pl123_3 : placeP Tryd.prog 123 3 = some (3, 1) := id rfl
@[go_sem] theorem sd123 : sized Tryd.prog 123 = true := id rfl
theorem zt123 : zeroT Tryd.prog 123 = some (.agg [.s (.pointer none), .s (.pointer none), .s (.pointer none), .s (.string ByteArray.empty)]) := id rfl
@[go_sem] theorem zr123 : zeroP Tryd.prog 123 = some [.s (.pointer none), .s (.pointer none), .s (.pointer none), .s (.string ByteArray.empty)] := id rfl
@[go_sem] theorem z124 : szP Tryd.prog 124 = some (true, 0) := id rfl
@[go_sem] theorem a124 : arP Tryd.prog 124 = some (0, false, 1) := id rfl
@[go_sem] theorem sd124 : sized Tryd.prog 124 = true := id rfl
@[go_sem] theorem pl124 (i : Nat) : placeP Tryd.prog 124 i = some (i * 1, 1) := id rfl
theorem zt124 : zeroT Tryd.prog 124 = some (.agg []) := id rfl
@[go_sem] theorem zr124 : zeroP Tryd.prog 124 = some [] := id rfl
@[go_sem] theorem z125 : szP Tryd.prog 125 = some (true, 0) := id rfl
@[go_sem] theorem a125 : arP Tryd.prog 125 = none := id rfl
@[go_sem] theorem pl125_0 : placeP Tryd.prog 125 0 = some (0, 0) := id rfl
@[go_sem] theorem sd125 : sized Tryd.prog 125 = true := id rfl
theorem zt125 : zeroT Tryd.prog 125 = some (.agg []) := id rfl
@[go_sem] theorem zr125 : zeroP Tryd.prog 125 = some [] := id rfl
@[go_sem] theorem z126 : szP Tryd.prog 126 = some (true, 0) := id rfl
@[go_sem] theorem a126 : arP Tryd.prog 126 = none := id rfl
@[go_sem] theorem pl126_0 : placeP Tryd.prog 126 0 = some (0, 0) := id rfl
@[go_sem] theorem sd126 : sized Tryd.prog 126 = true := id rfl
theorem zt126 : zeroT Tryd.prog 126 = some (.agg []) := id rfl
@[go_sem] theorem zr126 : zeroP Tryd.prog 126 = some [] := id rfl
@[go_sem] theorem z128 : szP Tryd.prog 128 = some (false, 1) := id rfl
@[go_sem] theorem a128 : arP Tryd.prog 128 = none := id rfl
@[go_sem] theorem un128 : (Tryd.prog.underlying 128).isSome = true := id rfl
@[go_sem] theorem i128 : intT Tryd.prog 128 = some .u8 := id rfl
theorem zt128 : zeroT Tryd.prog 128 = some (.s (.int .u8 0)) := id rfl
@[go_sem] theorem zr128 : zeroP Tryd.prog 128 = some [.s (.int .u8 0)] := id rfl
@[go_sem] theorem z129 : szP Tryd.prog 129 = some (false, 1) := id rfl
@[go_sem] theorem a129 : arP Tryd.prog 129 = none := id rfl
@[go_sem] theorem un129 : (Tryd.prog.underlying 129).isSome = true := id rfl
@[go_sem] theorem i129 : intT Tryd.prog 129 = some .u8 := id rfl
theorem zt129 : zeroT Tryd.prog 129 = some (.s (.int .u8 0)) := id rfl
@[go_sem] theorem zr129 : zeroP Tryd.prog 129 = some [.s (.int .u8 0)] := id rfl
@[go_sem] theorem z131 : szP Tryd.prog 131 = some (false, 1) := id rfl
@[go_sem] theorem a131 : arP Tryd.prog 131 = none := id rfl
@[go_sem] theorem s131 : isPtrT Tryd.prog 131 = true := id rfl
theorem zt131 : zeroT Tryd.prog 131 = some (.s (.pointer none)) := id rfl
@[go_sem] theorem zr131 : zeroP Tryd.prog 131 = some [.s (.pointer none)] := id rfl
@[go_sem] theorem z132 : szP Tryd.prog 132 = some (false, 1) := id rfl
@[go_sem] theorem a132 : arP Tryd.prog 132 = none := id rfl
@[go_sem] theorem un132 : (Tryd.prog.underlying 132).isSome = true := id rfl
@[go_sem] theorem i132 : intT Tryd.prog 132 = some .i32 := id rfl
theorem zt132 : zeroT Tryd.prog 132 = some (.s (.int .i32 0)) := id rfl
@[go_sem] theorem zr132 : zeroP Tryd.prog 132 = some [.s (.int .i32 0)] := id rfl
@[go_sem] theorem z133 : szP Tryd.prog 133 = some (false, 1) := id rfl
@[go_sem] theorem a133 : arP Tryd.prog 133 = none := id rfl
@[go_sem] theorem un133 : (Tryd.prog.underlying 133).isSome = true := id rfl
@[go_sem] theorem i133 : intT Tryd.prog 133 = some .i32 := id rfl
theorem zt133 : zeroT Tryd.prog 133 = some (.s (.int .i32 0)) := id rfl
@[go_sem] theorem zr133 : zeroP Tryd.prog 133 = some [.s (.int .i32 0)] := id rfl
@[go_sem] theorem z134 : szP Tryd.prog 134 = some (true, 11) := id rfl
@[go_sem] theorem a134 : arP Tryd.prog 134 = none := id rfl
@[go_sem] theorem f134_0 : fldP Tryd.prog 134 0 = some (0, false, 1) := id rfl
@[go_sem] theorem pl134_0 : placeP Tryd.prog 134 0 = some (0, 1) := id rfl
@[go_sem] theorem f134_1 : fldP Tryd.prog 134 1 = some (1, false, 1) := id rfl
@[go_sem] theorem pl134_1 : placeP Tryd.prog 134 1 = some (1, 1) := id rfl
@[go_sem] theorem f134_2 : fldP Tryd.prog 134 2 = some (2, false, 1) := id rfl
@[go_sem] theorem pl134_2 : placeP Tryd.prog 134 2 = some (2, 1) := id rfl
@[go_sem] theorem f134_3 : fldP Tryd.prog 134 3 = some (3, false, 1) := id rfl
@[go_sem] theorem pl134_3 : placeP Tryd.prog 134 3 = some (3, 1) := id rfl
@[go_sem] theorem f134_4 : fldP Tryd.prog 134 4 = some (4, false, 1) := id rfl
@[go_sem] theorem pl134_4 : placeP Tryd.prog 134 4 = some (4, 1) := id rfl
@[go_sem] theorem f134_5 : fldP Tryd.prog 134 5 = some (5, false, 1) := id rfl
@[go_sem] theorem pl134_5 : placeP Tryd.prog 134 5 = some (5, 1) := id rfl
@[go_sem] theorem f134_6 : fldP Tryd.prog 134 6 = some (6, false, 1) := id rfl
@[go_sem] theorem pl134_6 : placeP Tryd.prog 134 6 = some (6, 1) := id rfl
@[go_sem] theorem f134_7 : fldP Tryd.prog 134 7 = some (7, false, 1) := id rfl
@[go_sem] theorem pl134_7 : placeP Tryd.prog 134 7 = some (7, 1) := id rfl
@[go_sem] theorem f134_8 : fldP Tryd.prog 134 8 = some (8, false, 1) := id rfl
@[go_sem] theorem pl134_8 : placeP Tryd.prog 134 8 = some (8, 1) := id rfl
@[go_sem] theorem f134_9 : fldP Tryd.prog 134 9 = some (9, false, 1) := id rfl
@[go_sem] theorem pl134_9 : placeP Tryd.prog 134 9 = some (9, 1) := id rfl
@[go_sem] theorem f134_10 : fldP Tryd.prog 134 10 = some (10, false, 1) := id rfl
@[go_sem] theorem pl134_10 : placeP Tryd.prog 134 10 = some (10, 1) := id rfl
@[go_sem] theorem sd134 : sized Tryd.prog 134 = true := id rfl
theorem zt134 : zeroT Tryd.prog 134 = some (.agg [.s (.int .u64 0), .s (.int .u64 0), .s (.int .u32 0), .s (.int .u8 0), .s (.int .u8 0), .s (.int .u8 0), .s (.int .u8 0), .s .nilFunc, .s (.pointer none), .s (.int .i32 0), .s (.int .i32 0)]) := id rfl
@[go_sem] theorem zr134 : zeroP Tryd.prog 134 = some [.s (.int .u64 0), .s (.int .u64 0), .s (.int .u32 0), .s (.int .u8 0), .s (.int .u8 0), .s (.int .u8 0), .s (.int .u8 0), .s .nilFunc, .s (.pointer none), .s (.int .i32 0), .s (.int .i32 0)] := id rfl
@[go_sem] theorem z135 : szP Tryd.prog 135 = some (true, 11) := id rfl
@[go_sem] theorem a135 : arP Tryd.prog 135 = none := id rfl
@[go_sem] theorem f135_0 : fldP Tryd.prog 135 0 = some (0, false, 1) := id rfl
@[go_sem] theorem pl135_0 : placeP Tryd.prog 135 0 = some (0, 1) := id rfl
@[go_sem] theorem f135_1 : fldP Tryd.prog 135 1 = some (1, false, 1) := id rfl
@[go_sem] theorem pl135_1 : placeP Tryd.prog 135 1 = some (1, 1) := id rfl
@[go_sem] theorem f135_2 : fldP Tryd.prog 135 2 = some (2, false, 1) := id rfl
@[go_sem] theorem pl135_2 : placeP Tryd.prog 135 2 = some (2, 1) := id rfl
@[go_sem] theorem f135_3 : fldP Tryd.prog 135 3 = some (3, false, 1) := id rfl
@[go_sem] theorem pl135_3 : placeP Tryd.prog 135 3 = some (3, 1) := id rfl
@[go_sem] theorem f135_4 : fldP Tryd.prog 135 4 = some (4, false, 1) := id rfl
@[go_sem] theorem pl135_4 : placeP Tryd.prog 135 4 = some (4, 1) := id rfl
@[go_sem] theorem f135_5 : fldP Tryd.prog 135 5 = some (5, false, 1) := id rfl
@[go_sem] theorem pl135_5 : placeP Tryd.prog 135 5 = some (5, 1) := id rfl
@[go_sem] theorem f135_6 : fldP Tryd.prog 135 6 = some (6, false, 1) := id rfl
@[go_sem] theorem pl135_6 : placeP Tryd.prog 135 6 = some (6, 1) := id rfl
@[go_sem] theorem f135_7 : fldP Tryd.prog 135 7 = some (7, false, 1) := id rfl
@[go_sem] theorem pl135_7 : placeP Tryd.prog 135 7 = some (7, 1) := id rfl
@[go_sem] theorem f135_8 : fldP Tryd.prog 135 8 = some (8, false, 1) := id rfl
@[go_sem] theorem pl135_8 : placeP Tryd.prog 135 8 = some (8, 1) := id rfl
@[go_sem] theorem f135_9 : fldP Tryd.prog 135 9 = some (9, false, 1) := id rfl
@[go_sem] theorem pl135_9 : placeP Tryd.prog 135 9 = some (9, 1) := id rfl
@[go_sem] theorem f135_10 : fldP Tryd.prog 135 10 = some (10, false, 1) := id rfl
@[go_sem] theorem pl135_10 : placeP Tryd.prog 135 10 = some (10, 1) := id rfl
@[go_sem] theorem sd135 : sized Tryd.prog 135 = true := id rfl
theorem zt135 : zeroT Tryd.prog 135 = some (.agg [.s (.int .u64 0), .s (.int .u64 0), .s (.int .u32 0), .s (.int .u8 0), .s (.int .u8 0), .s (.int .u8 0), .s (.int .u8 0), .s .nilFunc, .s (.pointer none), .s (.int .i32 0), .s (.int .i32 0)]) := id rfl
@[go_sem] theorem zr135 : zeroP Tryd.prog 135 = some [.s (.int .u64 0), .s (.int .u64 0), .s (.int .u32 0), .s (.int .u8 0), .s (.int .u8 0), .s (.int .u8 0), .s (.int .u8 0), .s .nilFunc, .s (.pointer none), .s (.int .i32 0), .s (.int .i32 0)] := id rfl
@[go_sem] theorem z136 : szP Tryd.prog 136 = some (false, 1) := id rfl
@[go_sem] theorem a136 : arP Tryd.prog 136 = none := id rfl
theorem zt136 : zeroT Tryd.prog 136 = some (.s (.pointer none)) := id rfl
@[go_sem] theorem zr136 : zeroP Tryd.prog 136 = some [.s (.pointer none)] := id rfl
end Go.Abs
