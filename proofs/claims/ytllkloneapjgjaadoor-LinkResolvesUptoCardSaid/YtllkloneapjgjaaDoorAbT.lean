import Derived.Test.YtllkloneapjgjaaDoorAb24
import Derived.Test.YtllkloneapjgjaaDoorProg
namespace Go.Abs
set_option linter.unusedSimpArgs false
set_option linter.unusedVariables false
set_option maxRecDepth 20000
open Go.Proofs
@[go_sem] theorem z2 : szP Tryd.prog 2 = some (false, 1) := id rfl
@[go_sem] theorem a2 : arP Tryd.prog 2 = none := id rfl
@[go_sem] theorem un2 : (Tryd.prog.underlying 2).isSome = true := id rfl
@[go_sem] theorem i2 : intT Tryd.prog 2 = some .i64 := id rfl
theorem zt2 : zeroT Tryd.prog 2 = some (.s (.int .i64 0)) := id rfl
@[go_sem] theorem zr2 : zeroP Tryd.prog 2 = some [.s (.int .i64 0)] := id rfl
@[go_sem] theorem z3 : szP Tryd.prog 3 = some (false, 1) := id rfl
@[go_sem] theorem a3 : arP Tryd.prog 3 = none := id rfl
@[go_sem] theorem un3 : (Tryd.prog.underlying 3).isSome = true := id rfl
@[go_sem] theorem i3 : intT Tryd.prog 3 = some .i64 := id rfl
theorem zt3 : zeroT Tryd.prog 3 = some (.s (.int .i64 0)) := id rfl
@[go_sem] theorem zr3 : zeroP Tryd.prog 3 = some [.s (.int .i64 0)] := id rfl
@[go_sem] theorem z4 : szP Tryd.prog 4 = some (false, 1) := id rfl
@[go_sem] theorem a4 : arP Tryd.prog 4 = none := id rfl
@[go_sem] theorem s4 : isBoolT Tryd.prog 4 = true := id rfl
theorem zt4 : zeroT Tryd.prog 4 = some (.s (.bool false)) := id rfl
@[go_sem] theorem zr4 : zeroP Tryd.prog 4 = some [.s (.bool false)] := id rfl
@[go_sem] theorem z5 : szP Tryd.prog 5 = some (false, 1) := id rfl
@[go_sem] theorem a5 : arP Tryd.prog 5 = none := id rfl
@[go_sem] theorem un5 : (Tryd.prog.underlying 5).isSome = true := id rfl
@[go_sem] theorem i5 : intT Tryd.prog 5 = some .u8 := id rfl
theorem zt5 : zeroT Tryd.prog 5 = some (.s (.int .u8 0)) := id rfl
@[go_sem] theorem zr5 : zeroP Tryd.prog 5 = some [.s (.int .u8 0)] := id rfl
@[go_sem] theorem z6 : szP Tryd.prog 6 = some (false, 1) := id rfl
@[go_sem] theorem a6 : arP Tryd.prog 6 = none := id rfl
@[go_sem] theorem un6 : (Tryd.prog.underlying 6).isSome = true := id rfl
@[go_sem] theorem i6 : intT Tryd.prog 6 = some .u8 := id rfl
theorem zt6 : zeroT Tryd.prog 6 = some (.s (.int .u8 0)) := id rfl
@[go_sem] theorem zr6 : zeroP Tryd.prog 6 = some [.s (.int .u8 0)] := id rfl
@[go_sem] theorem z7 : szP Tryd.prog 7 = some (true, 4) := id rfl
@[go_sem] theorem a7 : arP Tryd.prog 7 = none := id rfl
@[go_sem] theorem f7_0 : fldP Tryd.prog 7 0 = some (0, false, 1) := id rfl
@[go_sem] theorem pl7_0 : placeP Tryd.prog 7 0 = some (0, 1) := id rfl
@[go_sem] theorem f7_1 : fldP Tryd.prog 7 1 = some (1, false, 1) := id rfl
@[go_sem] theorem pl7_1 : placeP Tryd.prog 7 1 = some (1, 1) := id rfl
@[go_sem] theorem f7_2 : fldP Tryd.prog 7 2 = some (2, false, 1) := id rfl
@[go_sem] theorem pl7_2 : placeP Tryd.prog 7 2 = some (2, 1) := id rfl
@[go_sem] theorem f7_3 : fldP Tryd.prog 7 3 = some (3, false, 1) := id rfl
@[go_sem] theorem pl7_3 : placeP Tryd.prog 7 3 = some (3, 1) := id rfl
@[go_sem] theorem sd7 : sized Tryd.prog 7 = true := id rfl
theorem zt7 : zeroT Tryd.prog 7 = some (.agg [.s (.int .i64 0), .s (.int .i64 0), .s (.bool false), .s (.int .u8 0)]) := id rfl
@[go_sem] theorem zr7 : zeroP Tryd.prog 7 = some [.s (.int .i64 0), .s (.int .i64 0), .s (.bool false), .s (.int .u8 0)] := id rfl
@[go_sem] theorem z8 : szP Tryd.prog 8 = some (true, 4) := id rfl
@[go_sem] theorem a8 : arP Tryd.prog 8 = none := id rfl
@[go_sem] theorem f8_0 : fldP Tryd.prog 8 0 = some (0, false, 1) := id rfl
@[go_sem] theorem pl8_0 : placeP Tryd.prog 8 0 = some (0, 1) := id rfl
@[go_sem] theorem f8_1 : fldP Tryd.prog 8 1 = some (1, false, 1) := id rfl
@[go_sem] theorem pl8_1 : placeP Tryd.prog 8 1 = some (1, 1) := id rfl
@[go_sem] theorem f8_2 : fldP Tryd.prog 8 2 = some (2, false, 1) := id rfl
@[go_sem] theorem pl8_2 : placeP Tryd.prog 8 2 = some (2, 1) := id rfl
@[go_sem] theorem f8_3 : fldP Tryd.prog 8 3 = some (3, false, 1) := id rfl
@[go_sem] theorem pl8_3 : placeP Tryd.prog 8 3 = some (3, 1) := id rfl
@[go_sem] theorem sd8 : sized Tryd.prog 8 = true := id rfl
theorem zt8 : zeroT Tryd.prog 8 = some (.agg [.s (.int .i64 0), .s (.int .i64 0), .s (.bool false), .s (.int .u8 0)]) := id rfl
@[go_sem] theorem zr8 : zeroP Tryd.prog 8 = some [.s (.int .i64 0), .s (.int .i64 0), .s (.bool false), .s (.int .u8 0)] := id rfl
@[go_sem] theorem z9 : szP Tryd.prog 9 = some (false, 1) := id rfl
@[go_sem] theorem a9 : arP Tryd.prog 9 = none := id rfl
@[go_sem] theorem s9 : isStr Tryd.prog 9 = true := id rfl
theorem zt9 : zeroT Tryd.prog 9 = some (.s (.string ByteArray.empty)) := id rfl
@[go_sem] theorem zr9 : zeroP Tryd.prog 9 = some [.s (.string ByteArray.empty)] := id rfl
@[go_sem] theorem z10 : szP Tryd.prog 10 = some (false, 1) := id rfl
@[go_sem] theorem a10 : arP Tryd.prog 10 = none := id rfl
@[go_sem] theorem s10 : isStr Tryd.prog 10 = true := id rfl
theorem zt10 : zeroT Tryd.prog 10 = some (.s (.string ByteArray.empty)) := id rfl
@[go_sem] theorem zr10 : zeroP Tryd.prog 10 = some [.s (.string ByteArray.empty)] := id rfl
@[go_sem] theorem z11 : szP Tryd.prog 11 = some (false, 1) := id rfl
@[go_sem] theorem a11 : arP Tryd.prog 11 = none := id rfl
@[go_sem] theorem s11 : isStr Tryd.prog 11 = true := id rfl
theorem zt11 : zeroT Tryd.prog 11 = some (.s (.string ByteArray.empty)) := id rfl
@[go_sem] theorem zr11 : zeroP Tryd.prog 11 = some [.s (.string ByteArray.empty)] := id rfl
@[go_sem] theorem z12 : szP Tryd.prog 12 = some (false, 1) := id rfl
@[go_sem] theorem a12 : arP Tryd.prog 12 = none := id rfl
@[go_sem] theorem un12 : (Tryd.prog.underlying 12).isSome = true := id rfl
@[go_sem] theorem i12 : intT Tryd.prog 12 = some .u64 := id rfl
theorem zt12 : zeroT Tryd.prog 12 = some (.s (.int .u64 0)) := id rfl
@[go_sem] theorem zr12 : zeroP Tryd.prog 12 = some [.s (.int .u64 0)] := id rfl
@[go_sem] theorem z13 : szP Tryd.prog 13 = some (true, 2) := id rfl
@[go_sem] theorem a13 : arP Tryd.prog 13 = none := id rfl
@[go_sem] theorem f13_0 : fldP Tryd.prog 13 0 = some (0, false, 1) := id rfl
@[go_sem] theorem pl13_0 : placeP Tryd.prog 13 0 = some (0, 1) := id rfl
@[go_sem] theorem f13_1 : fldP Tryd.prog 13 1 = some (1, false, 1) := id rfl
@[go_sem] theorem pl13_1 : placeP Tryd.prog 13 1 = some (1, 1) := id rfl
@[go_sem] theorem sd13 : sized Tryd.prog 13 = true := id rfl
theorem zt13 : zeroT Tryd.prog 13 = some (.agg [.s (.string ByteArray.empty), .s (.int .u64 0)]) := id rfl
@[go_sem] theorem zr13 : zeroP Tryd.prog 13 = some [.s (.string ByteArray.empty), .s (.int .u64 0)] := id rfl
@[go_sem] theorem z14 : szP Tryd.prog 14 = some (true, 2) := id rfl
@[go_sem] theorem a14 : arP Tryd.prog 14 = none := id rfl
@[go_sem] theorem f14_0 : fldP Tryd.prog 14 0 = some (0, false, 1) := id rfl
@[go_sem] theorem pl14_0 : placeP Tryd.prog 14 0 = some (0, 1) := id rfl
@[go_sem] theorem f14_1 : fldP Tryd.prog 14 1 = some (1, false, 1) := id rfl
@[go_sem] theorem pl14_1 : placeP Tryd.prog 14 1 = some (1, 1) := id rfl
@[go_sem] theorem sd14 : sized Tryd.prog 14 = true := id rfl
theorem zt14 : zeroT Tryd.prog 14 = some (.agg [.s (.string ByteArray.empty), .s (.int .u64 0)]) := id rfl
@[go_sem] theorem zr14 : zeroP Tryd.prog 14 = some [.s (.string ByteArray.empty), .s (.int .u64 0)] := id rfl
@[go_sem] theorem z15 : szP Tryd.prog 15 = some (false, 1) := id rfl
@[go_sem] theorem a15 : arP Tryd.prog 15 = none := id rfl
@[go_sem] theorem s15 : isPtrT Tryd.prog 15 = true := id rfl
theorem zt15 : zeroT Tryd.prog 15 = some (.s (.pointer none)) := id rfl
@[go_sem] theorem zr15 : zeroP Tryd.prog 15 = some [.s (.pointer none)] := id rfl
@[go_sem] theorem z16 : szP Tryd.prog 16 = some (false, 1) := id rfl
@[go_sem] theorem a16 : arP Tryd.prog 16 = none := id rfl
@[go_sem] theorem s16 : isPtrT Tryd.prog 16 = true := id rfl
theorem zt16 : zeroT Tryd.prog 16 = some (.s (.pointer none)) := id rfl
@[go_sem] theorem zr16 : zeroP Tryd.prog 16 = some [.s (.pointer none)] := id rfl
@[go_sem] theorem z17 : szP Tryd.prog 17 = some (false, 1) := id rfl
@[go_sem] theorem a17 : arP Tryd.prog 17 = none := id rfl
@[go_sem] theorem s17 : isPtrT Tryd.prog 17 = true := id rfl
theorem zt17 : zeroT Tryd.prog 17 = some (.s (.pointer none)) := id rfl
@[go_sem] theorem zr17 : zeroP Tryd.prog 17 = some [.s (.pointer none)] := id rfl
@[go_sem] theorem z18 : szP Tryd.prog 18 = some (true, 1) := id rfl
@[go_sem] theorem a18 : arP Tryd.prog 18 = none := id rfl
@[go_sem] theorem f18_0 : fldP Tryd.prog 18 0 = some (0, false, 1) := id rfl
@[go_sem] theorem pl18_0 : placeP Tryd.prog 18 0 = some (0, 1) := id rfl
@[go_sem] theorem sd18 : sized Tryd.prog 18 = true := id rfl
theorem zt18 : zeroT Tryd.prog 18 = some (.agg [.s (.pointer none)]) := id rfl
@[go_sem] theorem zr18 : zeroP Tryd.prog 18 = some [.s (.pointer none)] := id rfl
@[go_sem] theorem z19 : szP Tryd.prog 19 = some (true, 1) := id rfl
@[go_sem] theorem a19 : arP Tryd.prog 19 = none := id rfl
@[go_sem] theorem f19_0 : fldP Tryd.prog 19 0 = some (0, false, 1) := id rfl
@[go_sem] theorem pl19_0 : placeP Tryd.prog 19 0 = some (0, 1) := id rfl
@[go_sem] theorem sd19 : sized Tryd.prog 19 = true := id rfl
theorem zt19 : zeroT Tryd.prog 19 = some (.agg [.s (.pointer none)]) := id rfl
@[go_sem] theorem zr19 : zeroP Tryd.prog 19 = some [.s (.pointer none)] := id rfl
@[go_sem] theorem z21 : szP Tryd.prog 21 = some (false, 1) := id rfl
@[go_sem] theorem a21 : arP Tryd.prog 21 = none := id rfl
@[go_sem] theorem un21 : (Tryd.prog.underlying 21).isSome = true := id rfl
@[go_sem] theorem i21 : intT Tryd.prog 21 = some .i32 := id rfl
theorem zt21 : zeroT Tryd.prog 21 = some (.s (.int .i32 0)) := id rfl
@[go_sem] theorem zr21 : zeroP Tryd.prog 21 = some [.s (.int .i32 0)] := id rfl
@[go_sem] theorem z22 : szP Tryd.prog 22 = some (false, 1) := id rfl
@[go_sem] theorem a22 : arP Tryd.prog 22 = none := id rfl
@[go_sem] theorem e22 : elP Tryd.prog 22 = some 3 := id rfl
@[go_sem] theorem nb22 : nilOk Tryd.prog 22 = true := id rfl
theorem us22 : Tryd.prog.underlying 22 = some (.slice 31) := id rfl
theorem ap22 : apP Tryd.prog 22 = some (3, 48) := id rfl
theorem zt22 : zeroT Tryd.prog 22 = some (.nils) := id rfl
@[go_sem] theorem zr22 : zeroP Tryd.prog 22 = some [.nils] := id rfl
@[go_sem] theorem z23 : szP Tryd.prog 23 = some (false, 1) := id rfl
@[go_sem] theorem a23 : arP Tryd.prog 23 = none := id rfl
@[go_sem] theorem e23 : elP Tryd.prog 23 = some 1 := id rfl
@[go_sem] theorem nb23 : nilOk Tryd.prog 23 = true := id rfl
theorem us23 : Tryd.prog.underlying 23 = some (.slice 9) := id rfl
theorem ap23 : apP Tryd.prog 23 = some (1, 16) := id rfl
theorem zt23 : zeroT Tryd.prog 23 = some (.nils) := id rfl
@[go_sem] theorem zr23 : zeroP Tryd.prog 23 = some [.nils] := id rfl
@[go_sem] theorem z25 : szP Tryd.prog 25 = some (false, 1) := id rfl
@[go_sem] theorem a25 : arP Tryd.prog 25 = none := id rfl
@[go_sem] theorem s25 : isPtrT Tryd.prog 25 = true := id rfl
theorem zt25 : zeroT Tryd.prog 25 = some (.s (.pointer none)) := id rfl
@[go_sem] theorem zr25 : zeroP Tryd.prog 25 = some [.s (.pointer none)] := id rfl
@[go_sem] theorem z27 : szP Tryd.prog 27 = some (false, 1) := id rfl
@[go_sem] theorem a27 : arP Tryd.prog 27 = none := id rfl
@[go_sem] theorem e27 : elP Tryd.prog 27 = some 5 := id rfl
@[go_sem] theorem nb27 : nilOk Tryd.prog 27 = true := id rfl
theorem us27 : Tryd.prog.underlying 27 = some (.slice 80) := id rfl
theorem ap27 : apP Tryd.prog 27 = some (5, 56) := id rfl
theorem zt27 : zeroT Tryd.prog 27 = some (.nils) := id rfl
@[go_sem] theorem zr27 : zeroP Tryd.prog 27 = some [.nils] := id rfl
@[go_sem] theorem z28 : szP Tryd.prog 28 = some (true, 2) := id rfl
@[go_sem] theorem a28 : arP Tryd.prog 28 = none := id rfl
@[go_sem] theorem f28_0 : fldP Tryd.prog 28 0 = some (0, false, 1) := id rfl
@[go_sem] theorem pl28_0 : placeP Tryd.prog 28 0 = some (0, 1) := id rfl
@[go_sem] theorem f28_1 : fldP Tryd.prog 28 1 = some (1, false, 1) := id rfl
@[go_sem] theorem pl28_1 : placeP Tryd.prog 28 1 = some (1, 1) := id rfl
@[go_sem] theorem sd28 : sized Tryd.prog 28 = true := id rfl
theorem zt28 : zeroT Tryd.prog 28 = some (.agg [.nils, .nils]) := id rfl
@[go_sem] theorem zr28 : zeroP Tryd.prog 28 = some [.nils, .nils] := id rfl
@[go_sem] theorem z29 : szP Tryd.prog 29 = some (true, 2) := id rfl
@[go_sem] theorem a29 : arP Tryd.prog 29 = none := id rfl
@[go_sem] theorem f29_0 : fldP Tryd.prog 29 0 = some (0, false, 1) := id rfl
@[go_sem] theorem pl29_0 : placeP Tryd.prog 29 0 = some (0, 1) := id rfl
@[go_sem] theorem f29_1 : fldP Tryd.prog 29 1 = some (1, false, 1) := id rfl
@[go_sem] theorem pl29_1 : placeP Tryd.prog 29 1 = some (1, 1) := id rfl
@[go_sem] theorem sd29 : sized Tryd.prog 29 = true := id rfl
theorem zt29 : zeroT Tryd.prog 29 = some (.agg [.nils, .nils]) := id rfl
@[go_sem] theorem zr29 : zeroP Tryd.prog 29 = some [.nils, .nils] := id rfl
@[go_sem] theorem z30 : szP Tryd.prog 30 = some (true, 3) := id rfl
@[go_sem] theorem a30 : arP Tryd.prog 30 = none := id rfl
@[go_sem] theorem f30_0 : fldP Tryd.prog 30 0 = some (0, false, 1) := id rfl
@[go_sem] theorem pl30_0 : placeP Tryd.prog 30 0 = some (0, 1) := id rfl
@[go_sem] theorem f30_1 : fldP Tryd.prog 30 1 = some (1, false, 1) := id rfl
@[go_sem] theorem pl30_1 : placeP Tryd.prog 30 1 = some (1, 1) := id rfl
@[go_sem] theorem f30_2 : fldP Tryd.prog 30 2 = some (2, false, 1) := id rfl
@[go_sem] theorem pl30_2 : placeP Tryd.prog 30 2 = some (2, 1) := id rfl
@[go_sem] theorem sd30 : sized Tryd.prog 30 = true := id rfl
theorem zt30 : zeroT Tryd.prog 30 = some (.agg [.s (.string ByteArray.empty), .s (.int .i64 0), .nils]) := id rfl
@[go_sem] theorem zr30 : zeroP Tryd.prog 30 = some [.s (.string ByteArray.empty), .s (.int .i64 0), .nils] := id rfl
@[go_sem] theorem z31 : szP Tryd.prog 31 = some (true, 3) := id rfl
@[go_sem] theorem a31 : arP Tryd.prog 31 = none := id rfl
@[go_sem] theorem f31_0 : fldP Tryd.prog 31 0 = some (0, false, 1) := id rfl
@[go_sem] theorem pl31_0 : placeP Tryd.prog 31 0 = some (0, 1) := id rfl
@[go_sem] theorem f31_1 : fldP Tryd.prog 31 1 = some (1, false, 1) := id rfl
@[go_sem] theorem pl31_1 : placeP Tryd.prog 31 1 = some (1, 1) := id rfl
@[go_sem] theorem f31_2 : fldP Tryd.prog 31 2 = some (2, false, 1) := id rfl
@[go_sem] theorem pl31_2 : placeP Tryd.prog 31 2 = some (2, 1) := id rfl
@[go_sem] theorem sd31 : sized Tryd.prog 31 = true := id rfl
theorem zt31 : zeroT Tryd.prog 31 = some (.agg [.s (.string ByteArray.empty), .s (.int .i64 0), .nils]) := id rfl
@[go_sem] theorem zr31 : zeroP Tryd.prog 31 = some [.s (.string ByteArray.empty), .s (.int .i64 0), .nils] := id rfl
@[go_sem] theorem z32 : szP Tryd.prog 32 = some (false, 1) := id rfl
@[go_sem] theorem a32 : arP Tryd.prog 32 = none := id rfl
@[go_sem] theorem un32 : (Tryd.prog.underlying 32).isSome = true := id rfl
@[go_sem] theorem i32 : intT Tryd.prog 32 = some .i64 := id rfl
theorem zt32 : zeroT Tryd.prog 32 = some (.s (.int .i64 0)) := id rfl
@[go_sem] theorem zr32 : zeroP Tryd.prog 32 = some [.s (.int .i64 0)] := id rfl
@[go_sem] theorem z36 : szP Tryd.prog 36 = some (false, 1) := id rfl
@[go_sem] theorem a36 : arP Tryd.prog 36 = none := id rfl
@[go_sem] theorem e36 : elP Tryd.prog 36 = some 1 := id rfl
@[go_sem] theorem nb36 : nilOk Tryd.prog 36 = true := id rfl
theorem us36 : Tryd.prog.underlying 36 = some (.slice 49) := id rfl
theorem ap36 : apP Tryd.prog 36 = some (1, 4) := id rfl
theorem zt36 : zeroT Tryd.prog 36 = some (.nils) := id rfl
@[go_sem] theorem zr36 : zeroP Tryd.prog 36 = some [.nils] := id rfl
@[go_sem] theorem z43 : szP Tryd.prog 43 = some (false, 1) := id rfl
@[go_sem] theorem a43 : arP Tryd.prog 43 = none := id rfl
@[go_sem] theorem e43 : elP Tryd.prog 43 = some 3 := id rfl
@[go_sem] theorem nb43 : nilOk Tryd.prog 43 = true := id rfl
theorem us43 : Tryd.prog.underlying 43 = some (.slice 64) := id rfl
theorem ap43 : apP Tryd.prog 43 = some (3, 6) := id rfl
theorem zt43 : zeroT Tryd.prog 43 = some (.nils) := id rfl
@[go_sem] theorem zr43 : zeroP Tryd.prog 43 = some [.nils] := id rfl
@[go_sem] theorem z44 : szP Tryd.prog 44 = some (true, 6) := id rfl
@[go_sem] theorem a44 : arP Tryd.prog 44 = none := id rfl
@[go_sem] theorem f44_0 : fldP Tryd.prog 44 0 = some (0, false, 1) := id rfl
@[go_sem] theorem pl44_0 : placeP Tryd.prog 44 0 = some (0, 1) := id rfl
@[go_sem] theorem f44_1 : fldP Tryd.prog 44 1 = some (1, false, 1) := id rfl
@[go_sem] theorem pl44_1 : placeP Tryd.prog 44 1 = some (1, 1) := id rfl
@[go_sem] theorem f44_2 : fldP Tryd.prog 44 2 = some (2, false, 1) := id rfl
@[go_sem] theorem pl44_2 : placeP Tryd.prog 44 2 = some (2, 1) := id rfl
@[go_sem] theorem f44_3 : fldP Tryd.prog 44 3 = some (3, false, 1) := id rfl
@[go_sem] theorem pl44_3 : placeP Tryd.prog 44 3 = some (3, 1) := id rfl
@[go_sem] theorem f44_4 : fldP Tryd.prog 44 4 = some (4, false, 1) := id rfl
@[go_sem] theorem pl44_4 : placeP Tryd.prog 44 4 = some (4, 1) := id rfl
@[go_sem] theorem f44_5 : fldP Tryd.prog 44 5 = some (5, false, 1) := id rfl
@[go_sem] theorem pl44_5 : placeP Tryd.prog 44 5 = some (5, 1) := id rfl
@[go_sem] theorem sd44 : sized Tryd.prog 44 = true := id rfl
theorem zt44 : zeroT Tryd.prog 44 = some (.agg [.s (.string ByteArray.empty), .nils, .nils, .nils, .nils, .nils]) := id rfl
@[go_sem] theorem zr44 : zeroP Tryd.prog 44 = some [.s (.string ByteArray.empty), .nils, .nils, .nils, .nils, .nils] := id rfl
@[go_sem] theorem z45 : szP Tryd.prog 45 = some (true, 6) := id rfl
@[go_sem] theorem a45 : arP Tryd.prog 45 = none := id rfl
@[go_sem] theorem f45_0 : fldP Tryd.prog 45 0 = some (0, false, 1) := id rfl
@[go_sem] theorem pl45_0 : placeP Tryd.prog 45 0 = some (0, 1) := id rfl
@[go_sem] theorem f45_1 : fldP Tryd.prog 45 1 = some (1, false, 1) := id rfl
@[go_sem] theorem pl45_1 : placeP Tryd.prog 45 1 = some (1, 1) := id rfl
@[go_sem] theorem f45_2 : fldP Tryd.prog 45 2 = some (2, false, 1) := id rfl
@[go_sem] theorem pl45_2 : placeP Tryd.prog 45 2 = some (2, 1) := id rfl
@[go_sem] theorem f45_3 : fldP Tryd.prog 45 3 = some (3, false, 1) := id rfl
@[go_sem] theorem pl45_3 : placeP Tryd.prog 45 3 = some (3, 1) := id rfl
@[go_sem] theorem f45_4 : fldP Tryd.prog 45 4 = some (4, false, 1) := id rfl
@[go_sem] theorem pl45_4 : placeP Tryd.prog 45 4 = some (4, 1) := id rfl
@[go_sem] theorem f45_5 : fldP Tryd.prog 45 5 = some (5, false, 1) := id rfl
@[go_sem] theorem pl45_5 : placeP Tryd.prog 45 5 = some (5, 1) := id rfl
@[go_sem] theorem sd45 : sized Tryd.prog 45 = true := id rfl
theorem zt45 : zeroT Tryd.prog 45 = some (.agg [.s (.string ByteArray.empty), .nils, .nils, .nils, .nils, .nils]) := id rfl
@[go_sem] theorem zr45 : zeroP Tryd.prog 45 = some [.s (.string ByteArray.empty), .nils, .nils, .nils, .nils, .nils] := id rfl
@[go_sem] theorem z46 : szP Tryd.prog 46 = some (false, 1) := id rfl
@[go_sem] theorem a46 : arP Tryd.prog 46 = none := id rfl
@[go_sem] theorem e46 : elP Tryd.prog 46 = some 1 := id rfl
@[go_sem] theorem nb46 : nilOk Tryd.prog 46 = true := id rfl
theorem us46 : Tryd.prog.underlying 46 = some (.slice 50) := id rfl
theorem ap46 : apP Tryd.prog 46 = some (1, 2) := id rfl
theorem zt46 : zeroT Tryd.prog 46 = some (.nils) := id rfl
@[go_sem] theorem zr46 : zeroP Tryd.prog 46 = some [.nils] := id rfl
@[go_sem] theorem z49 : szP Tryd.prog 49 = some (false, 1) := id rfl
@[go_sem] theorem a49 : arP Tryd.prog 49 = none := id rfl
@[go_sem] theorem un49 : (Tryd.prog.underlying 49).isSome = true := id rfl
@[go_sem] theorem i49 : intT Tryd.prog 49 = some .u32 := id rfl
theorem zt49 : zeroT Tryd.prog 49 = some (.s (.int .u32 0)) := id rfl
@[go_sem] theorem zr49 : zeroP Tryd.prog 49 = some [.s (.int .u32 0)] := id rfl
@[go_sem] theorem z50 : szP Tryd.prog 50 = some (false, 1) := id rfl
@[go_sem] theorem a50 : arP Tryd.prog 50 = none := id rfl
@[go_sem] theorem un50 : (Tryd.prog.underlying 50).isSome = true := id rfl
@[go_sem] theorem i50 : intT Tryd.prog 50 = some .u16 := id rfl
theorem zt50 : zeroT Tryd.prog 50 = some (.s (.int .u16 0)) := id rfl
@[go_sem] theorem zr50 : zeroP Tryd.prog 50 = some [.s (.int .u16 0)] := id rfl
@[go_sem] theorem z51 : szP Tryd.prog 51 = some (true, 2) := id rfl
@[go_sem] theorem a51 : arP Tryd.prog 51 = none := id rfl
@[go_sem] theorem f51_0 : fldP Tryd.prog 51 0 = some (0, false, 1) := id rfl
@[go_sem] theorem pl51_0 : placeP Tryd.prog 51 0 = some (0, 1) := id rfl
@[go_sem] theorem f51_1 : fldP Tryd.prog 51 1 = some (1, false, 1) := id rfl
@[go_sem] theorem pl51_1 : placeP Tryd.prog 51 1 = some (1, 1) := id rfl
@[go_sem] theorem sd51 : sized Tryd.prog 51 = true := id rfl
theorem zt51 : zeroT Tryd.prog 51 = some (.agg [.s (.int .u32 0), .s (.int .u32 0)]) := id rfl
@[go_sem] theorem zr51 : zeroP Tryd.prog 51 = some [.s (.int .u32 0), .s (.int .u32 0)] := id rfl
@[go_sem] theorem z52 : szP Tryd.prog 52 = some (true, 2) := id rfl
@[go_sem] theorem a52 : arP Tryd.prog 52 = none := id rfl
@[go_sem] theorem f52_0 : fldP Tryd.prog 52 0 = some (0, false, 1) := id rfl
@[go_sem] theorem pl52_0 : placeP Tryd.prog 52 0 = some (0, 1) := id rfl
@[go_sem] theorem f52_1 : fldP Tryd.prog 52 1 = some (1, false, 1) := id rfl
@[go_sem] theorem pl52_1 : placeP Tryd.prog 52 1 = some (1, 1) := id rfl
@[go_sem] theorem sd52 : sized Tryd.prog 52 = true := id rfl
theorem zt52 : zeroT Tryd.prog 52 = some (.agg [.s (.int .u32 0), .s (.int .u32 0)]) := id rfl
@[go_sem] theorem zr52 : zeroP Tryd.prog 52 = some [.s (.int .u32 0), .s (.int .u32 0)] := id rfl
@[go_sem] theorem z55 : szP Tryd.prog 55 = some (true, 2) := id rfl
@[go_sem] theorem a55 : arP Tryd.prog 55 = none := id rfl
@[go_sem] theorem f55_0 : fldP Tryd.prog 55 0 = some (0, false, 1) := id rfl
@[go_sem] theorem pl55_0 : placeP Tryd.prog 55 0 = some (0, 1) := id rfl
@[go_sem] theorem f55_1 : fldP Tryd.prog 55 1 = some (1, false, 1) := id rfl
@[go_sem] theorem pl55_1 : placeP Tryd.prog 55 1 = some (1, 1) := id rfl
@[go_sem] theorem sd55 : sized Tryd.prog 55 = true := id rfl
theorem zt55 : zeroT Tryd.prog 55 = some (.agg [.s (.int .i64 0), .s (.int .i64 0)]) := id rfl
@[go_sem] theorem zr55 : zeroP Tryd.prog 55 = some [.s (.int .i64 0), .s (.int .i64 0)] := id rfl
@[go_sem] theorem z56 : szP Tryd.prog 56 = some (true, 2) := id rfl
@[go_sem] theorem a56 : arP Tryd.prog 56 = none := id rfl
@[go_sem] theorem f56_0 : fldP Tryd.prog 56 0 = some (0, false, 1) := id rfl
@[go_sem] theorem pl56_0 : placeP Tryd.prog 56 0 = some (0, 1) := id rfl
@[go_sem] theorem f56_1 : fldP Tryd.prog 56 1 = some (1, false, 1) := id rfl
@[go_sem] theorem pl56_1 : placeP Tryd.prog 56 1 = some (1, 1) := id rfl
@[go_sem] theorem sd56 : sized Tryd.prog 56 = true := id rfl
theorem zt56 : zeroT Tryd.prog 56 = some (.agg [.s (.int .i64 0), .s (.int .i64 0)]) := id rfl
@[go_sem] theorem zr56 : zeroP Tryd.prog 56 = some [.s (.int .i64 0), .s (.int .i64 0)] := id rfl
@[go_sem] theorem z62 : szP Tryd.prog 62 = some (false, 1) := id rfl
@[go_sem] theorem a62 : arP Tryd.prog 62 = none := id rfl
@[go_sem] theorem un62 : (Tryd.prog.underlying 62).isSome = true := id rfl
@[go_sem] theorem i62 : intT Tryd.prog 62 = some .u8 := id rfl
theorem zt62 : zeroT Tryd.prog 62 = some (.s (.int .u8 0)) := id rfl
@[go_sem] theorem zr62 : zeroP Tryd.prog 62 = some [.s (.int .u8 0)] := id rfl
@[go_sem] theorem z63 : szP Tryd.prog 63 = some (true, 3) := id rfl
@[go_sem] theorem a63 : arP Tryd.prog 63 = none := id rfl
@[go_sem] theorem f63_0 : fldP Tryd.prog 63 0 = some (0, false, 1) := id rfl
@[go_sem] theorem pl63_0 : placeP Tryd.prog 63 0 = some (0, 1) := id rfl
@[go_sem] theorem f63_1 : fldP Tryd.prog 63 1 = some (1, false, 1) := id rfl
@[go_sem] theorem pl63_1 : placeP Tryd.prog 63 1 = some (1, 1) := id rfl
@[go_sem] theorem f63_2 : fldP Tryd.prog 63 2 = some (2, false, 1) := id rfl
@[go_sem] theorem pl63_2 : placeP Tryd.prog 63 2 = some (2, 1) := id rfl
@[go_sem] theorem sd63 : sized Tryd.prog 63 = true := id rfl
theorem zt63 : zeroT Tryd.prog 63 = some (.agg [.s (.int .u8 0), .s (.int .u16 0), .s (.int .u16 0)]) := id rfl
@[go_sem] theorem zr63 : zeroP Tryd.prog 63 = some [.s (.int .u8 0), .s (.int .u16 0), .s (.int .u16 0)] := id rfl
@[go_sem] theorem z64 : szP Tryd.prog 64 = some (true, 3) := id rfl
@[go_sem] theorem a64 : arP Tryd.prog 64 = none := id rfl
@[go_sem] theorem f64_0 : fldP Tryd.prog 64 0 = some (0, false, 1) := id rfl
@[go_sem] theorem pl64_0 : placeP Tryd.prog 64 0 = some (0, 1) := id rfl
@[go_sem] theorem f64_1 : fldP Tryd.prog 64 1 = some (1, false, 1) := id rfl
@[go_sem] theorem pl64_1 : placeP Tryd.prog 64 1 = some (1, 1) := id rfl
@[go_sem] theorem f64_2 : fldP Tryd.prog 64 2 = some (2, false, 1) := id rfl
@[go_sem] theorem pl64_2 : placeP Tryd.prog 64 2 = some (2, 1) := id rfl
@[go_sem] theorem sd64 : sized Tryd.prog 64 = true := id rfl
theorem zt64 : zeroT Tryd.prog 64 = some (.agg [.s (.int .u8 0), .s (.int .u16 0), .s (.int .u16 0)]) := id rfl
@[go_sem] theorem zr64 : zeroP Tryd.prog 64 = some [.s (.int .u8 0), .s (.int .u16 0), .s (.int .u16 0)] := id rfl
@[go_sem] theorem z69 : szP Tryd.prog 69 = some (false, 1) := id rfl
@[go_sem] theorem a69 : arP Tryd.prog 69 = none := id rfl
@[go_sem] theorem mp69 : isMapT Tryd.prog 69 = true := id rfl
theorem um69 : Tryd.prog.underlying 69 = some (.map 9 4) := id rfl
theorem zt69 : zeroT Tryd.prog 69 = some (.s (.map none)) := id rfl
@[go_sem] theorem zr69 : zeroP Tryd.prog 69 = some [.s (.map none)] := id rfl
@[go_sem] theorem z70 : szP Tryd.prog 70 = some (false, 1) := id rfl
@[go_sem] theorem a70 : arP Tryd.prog 70 = none := id rfl
@[go_sem] theorem mp70 : isMapT Tryd.prog 70 = true := id rfl
theorem um70 : Tryd.prog.underlying 70 = some (.map 9 77) := id rfl
theorem zt70 : zeroT Tryd.prog 70 = some (.s (.map none)) := id rfl
@[go_sem] theorem zr70 : zeroP Tryd.prog 70 = some [.s (.map none)] := id rfl
@[go_sem] theorem z71 : szP Tryd.prog 71 = some (true, 2) := id rfl
@[go_sem] theorem a71 : arP Tryd.prog 71 = none := id rfl
@[go_sem] theorem f71_0 : fldP Tryd.prog 71 0 = some (0, false, 1) := id rfl
@[go_sem] theorem pl71_0 : placeP Tryd.prog 71 0 = some (0, 1) := id rfl
@[go_sem] theorem f71_1 : fldP Tryd.prog 71 1 = some (1, false, 1) := id rfl
@[go_sem] theorem pl71_1 : placeP Tryd.prog 71 1 = some (1, 1) := id rfl
@[go_sem] theorem sd71 : sized Tryd.prog 71 = true := id rfl
theorem zt71 : zeroT Tryd.prog 71 = some (.agg [.s (.map none), .s (.map none)]) := id rfl
@[go_sem] theorem zr71 : zeroP Tryd.prog 71 = some [.s (.map none), .s (.map none)] := id rfl
@[go_sem] theorem z72 : szP Tryd.prog 72 = some (true, 2) := id rfl
@[go_sem] theorem a72 : arP Tryd.prog 72 = none := id rfl
@[go_sem] theorem f72_0 : fldP Tryd.prog 72 0 = some (0, false, 1) := id rfl
@[go_sem] theorem pl72_0 : placeP Tryd.prog 72 0 = some (0, 1) := id rfl
@[go_sem] theorem f72_1 : fldP Tryd.prog 72 1 = some (1, false, 1) := id rfl
@[go_sem] theorem pl72_1 : placeP Tryd.prog 72 1 = some (1, 1) := id rfl
@[go_sem] theorem sd72 : sized Tryd.prog 72 = true := id rfl
theorem zt72 : zeroT Tryd.prog 72 = some (.agg [.s (.map none), .s (.map none)]) := id rfl
@[go_sem] theorem zr72 : zeroP Tryd.prog 72 = some [.s (.map none), .s (.map none)] := id rfl
@[go_sem] theorem z76 : szP Tryd.prog 76 = some (true, 5) := id rfl
@[go_sem] theorem a76 : arP Tryd.prog 76 = none := id rfl
@[go_sem] theorem f76_0 : fldP Tryd.prog 76 0 = some (0, false, 1) := id rfl
@[go_sem] theorem pl76_0 : placeP Tryd.prog 76 0 = some (0, 1) := id rfl
@[go_sem] theorem f76_1 : fldP Tryd.prog 76 1 = some (1, false, 1) := id rfl
@[go_sem] theorem pl76_1 : placeP Tryd.prog 76 1 = some (1, 1) := id rfl
@[go_sem] theorem f76_2 : fldP Tryd.prog 76 2 = some (2, false, 1) := id rfl
@[go_sem] theorem pl76_2 : placeP Tryd.prog 76 2 = some (2, 1) := id rfl
@[go_sem] theorem f76_3 : fldP Tryd.prog 76 3 = some (3, false, 1) := id rfl
@[go_sem] theorem pl76_3 : placeP Tryd.prog 76 3 = some (3, 1) := id rfl
@[go_sem] theorem f76_4 : fldP Tryd.prog 76 4 = some (4, false, 1) := id rfl
@[go_sem] theorem pl76_4 : placeP Tryd.prog 76 4 = some (4, 1) := id rfl
@[go_sem] theorem sd76 : sized Tryd.prog 76 = true := id rfl
theorem zt76 : zeroT Tryd.prog 76 = some (.agg [.s (.string ByteArray.empty), .s (.string ByteArray.empty), .s (.int .i64 0), .s (.int .i64 0), .s (.int .i64 0)]) := id rfl
@[go_sem] theorem zr76 : zeroP Tryd.prog 76 = some [.s (.string ByteArray.empty), .s (.string ByteArray.empty), .s (.int .i64 0), .s (.int .i64 0), .s (.int .i64 0)] := id rfl
@[go_sem] theorem z77 : szP Tryd.prog 77 = some (true, 5) := id rfl
@[go_sem] theorem a77 : arP Tryd.prog 77 = none := id rfl
@[go_sem] theorem f77_0 : fldP Tryd.prog 77 0 = some (0, false, 1) := id rfl
@[go_sem] theorem pl77_0 : placeP Tryd.prog 77 0 = some (0, 1) := id rfl
@[go_sem] theorem f77_1 : fldP Tryd.prog 77 1 = some (1, false, 1) := id rfl
@[go_sem] theorem pl77_1 : placeP Tryd.prog 77 1 = some (1, 1) := id rfl
@[go_sem] theorem f77_2 : fldP Tryd.prog 77 2 = some (2, false, 1) := id rfl
@[go_sem] theorem pl77_2 : placeP Tryd.prog 77 2 = some (2, 1) := id rfl
@[go_sem] theorem f77_3 : fldP Tryd.prog 77 3 = some (3, false, 1) := id rfl
@[go_sem] theorem pl77_3 : placeP Tryd.prog 77 3 = some (3, 1) := id rfl
@[go_sem] theorem f77_4 : fldP Tryd.prog 77 4 = some (4, false, 1) := id rfl
@[go_sem] theorem pl77_4 : placeP Tryd.prog 77 4 = some (4, 1) := id rfl
@[go_sem] theorem sd77 : sized Tryd.prog 77 = true := id rfl
theorem zt77 : zeroT Tryd.prog 77 = some (.agg [.s (.string ByteArray.empty), .s (.string ByteArray.empty), .s (.int .i64 0), .s (.int .i64 0), .s (.int .i64 0)]) := id rfl
@[go_sem] theorem zr77 : zeroP Tryd.prog 77 = some [.s (.string ByteArray.empty), .s (.string ByteArray.empty), .s (.int .i64 0), .s (.int .i64 0), .s (.int .i64 0)] := id rfl
@[go_sem] theorem z80 : szP Tryd.prog 80 = some (true, 5) := id rfl
@[go_sem] theorem a80 : arP Tryd.prog 80 = none := id rfl
@[go_sem] theorem f80_0 : fldP Tryd.prog 80 0 = some (0, false, 1) := id rfl
@[go_sem] theorem pl80_0 : placeP Tryd.prog 80 0 = some (0, 1) := id rfl
@[go_sem] theorem f80_1 : fldP Tryd.prog 80 1 = some (1, false, 1) := id rfl
@[go_sem] theorem pl80_1 : placeP Tryd.prog 80 1 = some (1, 1) := id rfl
@[go_sem] theorem f80_2 : fldP Tryd.prog 80 2 = some (2, false, 1) := id rfl
@[go_sem] theorem pl80_2 : placeP Tryd.prog 80 2 = some (2, 1) := id rfl
@[go_sem] theorem f80_3 : fldP Tryd.prog 80 3 = some (3, false, 1) := id rfl
@[go_sem] theorem pl80_3 : placeP Tryd.prog 80 3 = some (3, 1) := id rfl
@[go_sem] theorem f80_4 : fldP Tryd.prog 80 4 = some (4, false, 1) := id rfl
@[go_sem] theorem pl80_4 : placeP Tryd.prog 80 4 = some (4, 1) := id rfl
@[go_sem] theorem sd80 : sized Tryd.prog 80 = true := id rfl
theorem zt80 : zeroT Tryd.prog 80 = some (.agg [.s (.string ByteArray.empty), .s (.string ByteArray.empty), .s (.int .i64 0), .s (.int .i64 0), .s (.int .i64 0)]) := id rfl
@[go_sem] theorem zr80 : zeroP Tryd.prog 80 = some [.s (.string ByteArray.empty), .s (.string ByteArray.empty), .s (.int .i64 0), .s (.int .i64 0), .s (.int .i64 0)] := id rfl
@[go_sem] theorem z87 : szP Tryd.prog 87 = some (false, 1) := id rfl
@[go_sem] theorem a87 : arP Tryd.prog 87 = none := id rfl
@[go_sem] theorem e87 : elP Tryd.prog 87 = some 1 := id rfl
@[go_sem] theorem nb87 : nilOk Tryd.prog 87 = true := id rfl
theorem us87 : Tryd.prog.underlying 87 = some (.slice 3) := id rfl
theorem ap87 : apP Tryd.prog 87 = some (1, 8) := id rfl
theorem zt87 : zeroT Tryd.prog 87 = some (.nils) := id rfl
@[go_sem] theorem zr87 : zeroP Tryd.prog 87 = some [.nils] := id rfl
@[go_sem] theorem z88 : szP Tryd.prog 88 = some (false, 1) := id rfl
@[go_sem] theorem a88 : arP Tryd.prog 88 = none := id rfl
@[go_sem] theorem un88 : (Tryd.prog.underlying 88).isSome = true := id rfl
@[go_sem] theorem i88 : intT Tryd.prog 88 = some .u8 := id rfl
theorem zt88 : zeroT Tryd.prog 88 = some (.s (.int .u8 0)) := id rfl
@[go_sem] theorem zr88 : zeroP Tryd.prog 88 = some [.s (.int .u8 0)] := id rfl
@[go_sem] theorem z115 : szP Tryd.prog 115 = some (false, 1) := id rfl
@[go_sem] theorem a115 : arP Tryd.prog 115 = none := id rfl
@[go_sem] theorem un115 : (Tryd.prog.underlying 115).isSome = true := id rfl
@[go_sem] theorem i115 : intT Tryd.prog 115 = some .u8 := id rfl
theorem zt115 : zeroT Tryd.prog 115 = some (.s (.int .u8 0)) := id rfl
@[go_sem] theorem zr115 : zeroP Tryd.prog 115 = some [.s (.int .u8 0)] := id rfl
@[go_sem] theorem z116 : szP Tryd.prog 116 = some (true, 5) := id rfl
@[go_sem] theorem a116 : arP Tryd.prog 116 = none := id rfl
@[go_sem] theorem f116_0 : fldP Tryd.prog 116 0 = some (0, false, 1) := id rfl
@[go_sem] theorem pl116_0 : placeP Tryd.prog 116 0 = some (0, 1) := id rfl
@[go_sem] theorem f116_1 : fldP Tryd.prog 116 1 = some (1, false, 1) := id rfl
@[go_sem] theorem pl116_1 : placeP Tryd.prog 116 1 = some (1, 1) := id rfl
@[go_sem] theorem f116_2 : fldP Tryd.prog 116 2 = some (2, false, 1) := id rfl
@[go_sem] theorem pl116_2 : placeP Tryd.prog 116 2 = some (2, 1) := id rfl
@[go_sem] theorem f116_3 : fldP Tryd.prog 116 3 = some (3, false, 1) := id rfl
@[go_sem] theorem pl116_3 : placeP Tryd.prog 116 3 = some (3, 1) := id rfl
@[go_sem] theorem f116_4 : fldP Tryd.prog 116 4 = some (4, false, 1) := id rfl
@[go_sem] theorem pl116_4 : placeP Tryd.prog 116 4 = some (4, 1) := id rfl
@[go_sem] theorem sd116 : sized Tryd.prog 116 = true := id rfl
theorem zt116 : zeroT Tryd.prog 116 = some (.agg [.s (.int .u8 0), .s (.int .u8 0), .s (.int .u8 0), .s (.int .u8 0), .s (.int .i32 0)]) := id rfl
@[go_sem] theorem zr116 : zeroP Tryd.prog 116 = some [.s (.int .u8 0), .s (.int .u8 0), .s (.int .u8 0), .s (.int .u8 0), .s (.int .i32 0)] := id rfl
@[go_sem] theorem z117 : szP Tryd.prog 117 = some (true, 5) := id rfl
@[go_sem] theorem a117 : arP Tryd.prog 117 = none := id rfl
@[go_sem] theorem f117_0 : fldP Tryd.prog 117 0 = some (0, false, 1) := id rfl
@[go_sem] theorem pl117_0 : placeP Tryd.prog 117 0 = some (0, 1) := id rfl
@[go_sem] theorem f117_1 : fldP Tryd.prog 117 1 = some (1, false, 1) := id rfl
@[go_sem] theorem pl117_1 : placeP Tryd.prog 117 1 = some (1, 1) := id rfl
@[go_sem] theorem f117_2 : fldP Tryd.prog 117 2 = some (2, false, 1) := id rfl
@[go_sem] theorem pl117_2 : placeP Tryd.prog 117 2 = some (2, 1) := id rfl
@[go_sem] theorem f117_3 : fldP Tryd.prog 117 3 = some (3, false, 1) := id rfl
@[go_sem] theorem pl117_3 : placeP Tryd.prog 117 3 = some (3, 1) := id rfl
@[go_sem] theorem f117_4 : fldP Tryd.prog 117 4 = some (4, false, 1) := id rfl
@[go_sem] theorem pl117_4 : placeP Tryd.prog 117 4 = some (4, 1) := id rfl
@[go_sem] theorem sd117 : sized Tryd.prog 117 = true := id rfl
theorem zt117 : zeroT Tryd.prog 117 = some (.agg [.s (.int .u8 0), .s (.int .u8 0), .s (.int .u8 0), .s (.int .u8 0), .s (.int .i32 0)]) := id rfl
@[go_sem] theorem zr117 : zeroP Tryd.prog 117 = some [.s (.int .u8 0), .s (.int .u8 0), .s (.int .u8 0), .s (.int .u8 0), .s (.int .i32 0)] := id rfl
@[go_sem] theorem z120 : szP Tryd.prog 120 = some (false, 1) := id rfl
@[go_sem] theorem a120 : arP Tryd.prog 120 = none := id rfl
@[go_sem] theorem mp120 : isMapT Tryd.prog 120 = true := id rfl
theorem um120 : Tryd.prog.underlying 120 = some (.map 122 4) := id rfl
theorem zt120 : zeroT Tryd.prog 120 = some (.s (.map none)) := id rfl
@[go_sem] theorem zr120 : zeroP Tryd.prog 120 = some [.s (.map none)] := id rfl
@[go_sem] theorem z121 : szP Tryd.prog 121 = some (true, 2) := id rfl
@[go_sem] theorem a121 : arP Tryd.prog 121 = none := id rfl
@[go_sem] theorem f121_0 : fldP Tryd.prog 121 0 = some (0, false, 1) := id rfl
@[go_sem] theorem pl121_0 : placeP Tryd.prog 121 0 = some (0, 1) := id rfl
@[go_sem] theorem f121_1 : fldP Tryd.prog 121 1 = some (1, false, 1) := id rfl
@[go_sem] theorem pl121_1 : placeP Tryd.prog 121 1 = some (1, 1) := id rfl
@[go_sem] theorem sd121 : sized Tryd.prog 121 = true := id rfl
theorem zt121 : zeroT Tryd.prog 121 = some (.agg [.s (.bool false), .s (.int .u16 0)]) := id rfl
@[go_sem] theorem zr121 : zeroP Tryd.prog 121 = some [.s (.bool false), .s (.int .u16 0)] := id rfl
@[go_sem] theorem z122 : szP Tryd.prog 122 = some (true, 2) := id rfl
@[go_sem] theorem a122 : arP Tryd.prog 122 = none := id rfl
@[go_sem] theorem f122_0 : fldP Tryd.prog 122 0 = some (0, false, 1) := id rfl
@[go_sem] theorem pl122_0 : placeP Tryd.prog 122 0 = some (0, 1) := id rfl
@[go_sem] theorem f122_1 : fldP Tryd.prog 122 1 = some (1, false, 1) := id rfl
@[go_sem] theorem pl122_1 : placeP Tryd.prog 122 1 = some (1, 1) := id rfl
@[go_sem] theorem sd122 : sized Tryd.prog 122 = true := id rfl
theorem zt122 : zeroT Tryd.prog 122 = some (.agg [.s (.bool false), .s (.int .u16 0)]) := id rfl
@[go_sem] theorem zr122 : zeroP Tryd.prog 122 = some [.s (.bool false), .s (.int .u16 0)] := id rfl
@[go_sem] theorem z134 : szP Tryd.prog 134 = some (false, 1) := id rfl
@[go_sem] theorem a134 : arP Tryd.prog 134 = none := id rfl
@[go_sem] theorem e134 : elP Tryd.prog 134 = some 1 := id rfl
@[go_sem] theorem nb134 : nilOk Tryd.prog 134 = true := id rfl
theorem us134 : Tryd.prog.underlying 134 = some (.slice 23) := id rfl
theorem ap134 : apP Tryd.prog 134 = some (1, 24) := id rfl
theorem zt134 : zeroT Tryd.prog 134 = some (.nils) := id rfl
@[go_sem] theorem zr134 : zeroP Tryd.prog 134 = some [.nils] := id rfl
@[go_sem] theorem z146 : szP Tryd.prog 146 = some (false, 1) := id rfl
@[go_sem] theorem a146 : arP Tryd.prog 146 = none := id rfl
@[go_sem] theorem un146 : (Tryd.prog.underlying 146).isSome = true := id rfl
@[go_sem] theorem i146 : intT Tryd.prog 146 = some .u64 := id rfl
theorem zt146 : zeroT Tryd.prog 146 = some (.s (.int .u64 0)) := id rfl
@[go_sem] theorem zr146 : zeroP Tryd.prog 146 = some [.s (.int .u64 0)] := id rfl
@[go_sem] theorem z151 : szP Tryd.prog 151 = some (true, 256) := id rfl
@[go_sem] theorem a151 : arP Tryd.prog 151 = some (256, false, 1) := id rfl
@[go_sem] theorem sd151 : sized Tryd.prog 151 = true := id rfl
@[go_sem] theorem pl151 (i : Nat) : placeP Tryd.prog 151 i = some (i * 1, 1) := id rfl
@[go_sem] theorem z152 : szP Tryd.prog 152 = some (true, 2) := id rfl
@[go_sem] theorem a152 : arP Tryd.prog 152 = none := id rfl
@[go_sem] theorem f152_0 : fldP Tryd.prog 152 0 = some (0, false, 1) := id rfl
@[go_sem] theorem pl152_0 : placeP Tryd.prog 152 0 = some (0, 1) := id rfl
@[go_sem] theorem f152_1 : fldP Tryd.prog 152 1 = some (1, false, 1) := id rfl
@[go_sem] theorem pl152_1 : placeP Tryd.prog 152 1 = some (1, 1) := id rfl
@[go_sem] theorem sd152 : sized Tryd.prog 152 = true := id rfl
theorem zt152 : zeroT Tryd.prog 152 = some (.agg [.s (.int .u8 0), .s (.int .u8 0)]) := id rfl
@[go_sem] theorem zr152 : zeroP Tryd.prog 152 = some [.s (.int .u8 0), .s (.int .u8 0)] := id rfl
@[go_sem] theorem z153 : szP Tryd.prog 153 = some (true, 2) := id rfl
@[go_sem] theorem a153 : arP Tryd.prog 153 = none := id rfl
@[go_sem] theorem f153_0 : fldP Tryd.prog 153 0 = some (0, false, 1) := id rfl
@[go_sem] theorem pl153_0 : placeP Tryd.prog 153 0 = some (0, 1) := id rfl
@[go_sem] theorem f153_1 : fldP Tryd.prog 153 1 = some (1, false, 1) := id rfl
@[go_sem] theorem pl153_1 : placeP Tryd.prog 153 1 = some (1, 1) := id rfl
@[go_sem] theorem sd153 : sized Tryd.prog 153 = true := id rfl
theorem zt153 : zeroT Tryd.prog 153 = some (.agg [.s (.int .u8 0), .s (.int .u8 0)]) := id rfl
@[go_sem] theorem zr153 : zeroP Tryd.prog 153 = some [.s (.int .u8 0), .s (.int .u8 0)] := id rfl
@[go_sem] theorem z154 : szP Tryd.prog 154 = some (true, 32) := id rfl
@[go_sem] theorem a154 : arP Tryd.prog 154 = some (16, true, 2) := id rfl
@[go_sem] theorem sd154 : sized Tryd.prog 154 = true := id rfl
@[go_sem] theorem pl154 (i : Nat) : placeP Tryd.prog 154 i = some (i * 2, 2) := id rfl
theorem zt154 : zeroT Tryd.prog 154 = some (.agg [.s (.int .u8 0), .s (.int .u8 0), .s (.int .u8 0), .s (.int .u8 0), .s (.int .u8 0), .s (.int .u8 0), .s (.int .u8 0), .s (.int .u8 0), .s (.int .u8 0), .s (.int .u8 0), .s (.int .u8 0), .s (.int .u8 0), .s (.int .u8 0), .s (.int .u8 0), .s (.int .u8 0), .s (.int .u8 0), .s (.int .u8 0), .s (.int .u8 0), .s (.int .u8 0), .s (.int .u8 0), .s (.int .u8 0), .s (.int .u8 0), .s (.int .u8 0), .s (.int .u8 0), .s (.int .u8 0), .s (.int .u8 0), .s (.int .u8 0), .s (.int .u8 0), .s (.int .u8 0), .s (.int .u8 0), .s (.int .u8 0), .s (.int .u8 0)]) := id rfl
@[go_sem] theorem zr154 : zeroP Tryd.prog 154 = some [.s (.int .u8 0), .s (.int .u8 0), .s (.int .u8 0), .s (.int .u8 0), .s (.int .u8 0), .s (.int .u8 0), .s (.int .u8 0), .s (.int .u8 0), .s (.int .u8 0), .s (.int .u8 0), .s (.int .u8 0), .s (.int .u8 0), .s (.int .u8 0), .s (.int .u8 0), .s (.int .u8 0), .s (.int .u8 0), .s (.int .u8 0), .s (.int .u8 0), .s (.int .u8 0), .s (.int .u8 0), .s (.int .u8 0), .s (.int .u8 0), .s (.int .u8 0), .s (.int .u8 0), .s (.int .u8 0), .s (.int .u8 0), .s (.int .u8 0), .s (.int .u8 0), .s (.int .u8 0), .s (.int .u8 0), .s (.int .u8 0), .s (.int .u8 0)] := id rfl
@[go_sem] theorem z158 : szP Tryd.prog 158 = some (true, 4) := id rfl
@[go_sem] theorem a158 : arP Tryd.prog 158 = none := id rfl
@[go_sem] theorem f158_0 : fldP Tryd.prog 158 0 = some (0, false, 1) := id rfl
@[go_sem] theorem pl158_0 : placeP Tryd.prog 158 0 = some (0, 1) := id rfl
@[go_sem] theorem f158_1 : fldP Tryd.prog 158 1 = some (1, false, 1) := id rfl
@[go_sem] theorem pl158_1 : placeP Tryd.prog 158 1 = some (1, 1) := id rfl
@[go_sem] theorem f158_2 : fldP Tryd.prog 158 2 = some (2, false, 1) := id rfl
@[go_sem] theorem pl158_2 : placeP Tryd.prog 158 2 = some (2, 1) := id rfl
@[go_sem] theorem f158_3 : fldP Tryd.prog 158 3 = some (3, false, 1) := id rfl
@[go_sem] theorem pl158_3 : placeP Tryd.prog 158 3 = some (3, 1) := id rfl
@[go_sem] theorem sd158 : sized Tryd.prog 158 = true := id rfl
theorem zt158 : zeroT Tryd.prog 158 = some (.agg [.s (.pointer none), .s (.pointer none), .s (.pointer none), .s (.string ByteArray.empty)]) := id rfl
@[go_sem] theorem zr158 : zeroP Tryd.prog 158 = some [.s (.pointer none), .s (.pointer none), .s (.pointer none), .s (.string ByteArray.empty)] := id rfl
@[go_sem] theorem z159 : szP Tryd.prog 159 = some (true, 4) := id rfl
@[go_sem] theorem a159 : arP Tryd.prog 159 = none := id rfl
@[go_sem] theorem f159_0 : fldP Tryd.prog 159 0 = some (0, false, 1) := id rfl
@[go_sem] theorem pl159_0 : placeP Tryd.prog 159 0 = some (0, 1) := id rfl
@[go_sem] theorem f159_1 : fldP Tryd.prog 159 1 = some (1, false, 1) := id rfl
@[go_sem] theorem pl159_1 : placeP Tryd.prog 159 1 = some (1, 1) := id rfl
@[go_sem] theorem f159_2 : fldP Tryd.prog 159 2 = some (2, false, 1) := id rfl
@[go_sem] theorem pl159_2 : placeP Tryd.prog 159 2 = some (2, 1) := id rfl
@[go_sem] theorem f159_3 : fldP Tryd.prog 159 3 = some (3, false, 1) := id rfl
@[go_sem] theorem pl159_3 : placeP Tryd.prog 159 3 = some (3, 1) := id rfl
@[go_sem] theorem sd159 : sized Tryd.prog 159 = true := id rfl
theorem zt159 : zeroT Tryd.prog 159 = some (.agg [.s (.pointer none), .s (.pointer none), .s (.pointer none), .s (.string ByteArray.empty)]) := id rfl
@[go_sem] theorem zr159 : zeroP Tryd.prog 159 = some [.s (.pointer none), .s (.pointer none), .s (.pointer none), .s (.string ByteArray.empty)] := id rfl
@[go_sem] theorem z160 : szP Tryd.prog 160 = some (true, 0) := id rfl
@[go_sem] theorem a160 : arP Tryd.prog 160 = some (0, false, 1) := id rfl
@[go_sem] theorem sd160 : sized Tryd.prog 160 = true := id rfl
@[go_sem] theorem pl160 (i : Nat) : placeP Tryd.prog 160 i = some (i * 1, 1) := id rfl
theorem zt160 : zeroT Tryd.prog 160 = some (.agg []) := id rfl
@[go_sem] theorem zr160 : zeroP Tryd.prog 160 = some [] := id rfl
@[go_sem] theorem z161 : szP Tryd.prog 161 = some (true, 0) := id rfl
@[go_sem] theorem a161 : arP Tryd.prog 161 = none := id rfl
@[go_sem] theorem pl161_0 : placeP Tryd.prog 161 0 = some (0, 0) := id rfl
@[go_sem] theorem sd161 : sized Tryd.prog 161 = true := id rfl
theorem zt161 : zeroT Tryd.prog 161 = some (.agg []) := id rfl
@[go_sem] theorem zr161 : zeroP Tryd.prog 161 = some [] := id rfl
@[go_sem] theorem z162 : szP Tryd.prog 162 = some (true, 0) := id rfl
@[go_sem] theorem a162 : arP Tryd.prog 162 = none := id rfl
@[go_sem] theorem pl162_0 : placeP Tryd.prog 162 0 = some (0, 0) := id rfl
@[go_sem] theorem sd162 : sized Tryd.prog 162 = true := id rfl
theorem zt162 : zeroT Tryd.prog 162 = some (.agg []) := id rfl
@[go_sem] theorem zr162 : zeroP Tryd.prog 162 = some [] := id rfl
@[go_sem] theorem z164 : szP Tryd.prog 164 = some (false, 1) := id rfl
@[go_sem] theorem a164 : arP Tryd.prog 164 = none := id rfl
@[go_sem] theorem un164 : (Tryd.prog.underlying 164).isSome = true := id rfl
@[go_sem] theorem i164 : intT Tryd.prog 164 = some .u8 := id rfl
theorem zt164 : zeroT Tryd.prog 164 = some (.s (.int .u8 0)) := id rfl
@[go_sem] theorem zr164 : zeroP Tryd.prog 164 = some [.s (.int .u8 0)] := id rfl
@[go_sem] theorem z165 : szP Tryd.prog 165 = some (false, 1) := id rfl
@[go_sem] theorem a165 : arP Tryd.prog 165 = none := id rfl
@[go_sem] theorem un165 : (Tryd.prog.underlying 165).isSome = true := id rfl
@[go_sem] theorem i165 : intT Tryd.prog 165 = some .u8 := id rfl
theorem zt165 : zeroT Tryd.prog 165 = some (.s (.int .u8 0)) := id rfl
@[go_sem] theorem zr165 : zeroP Tryd.prog 165 = some [.s (.int .u8 0)] := id rfl
@[go_sem] theorem z167 : szP Tryd.prog 167 = some (false, 1) := id rfl
@[go_sem] theorem a167 : arP Tryd.prog 167 = none := id rfl
@[go_sem] theorem s167 : isPtrT Tryd.prog 167 = true := id rfl
theorem zt167 : zeroT Tryd.prog 167 = some (.s (.pointer none)) := id rfl
@[go_sem] theorem zr167 : zeroP Tryd.prog 167 = some [.s (.pointer none)] := id rfl
@[go_sem] theorem z168 : szP Tryd.prog 168 = some (false, 1) := id rfl
@[go_sem] theorem a168 : arP Tryd.prog 168 = none := id rfl
@[go_sem] theorem un168 : (Tryd.prog.underlying 168).isSome = true := id rfl
@[go_sem] theorem i168 : intT Tryd.prog 168 = some .i32 := id rfl
theorem zt168 : zeroT Tryd.prog 168 = some (.s (.int .i32 0)) := id rfl
@[go_sem] theorem zr168 : zeroP Tryd.prog 168 = some [.s (.int .i32 0)] := id rfl
@[go_sem] theorem z169 : szP Tryd.prog 169 = some (false, 1) := id rfl
@[go_sem] theorem a169 : arP Tryd.prog 169 = none := id rfl
@[go_sem] theorem un169 : (Tryd.prog.underlying 169).isSome = true := id rfl
@[go_sem] theorem i169 : intT Tryd.prog 169 = some .i32 := id rfl
theorem zt169 : zeroT Tryd.prog 169 = some (.s (.int .i32 0)) := id rfl
@[go_sem] theorem zr169 : zeroP Tryd.prog 169 = some [.s (.int .i32 0)] := id rfl
@[go_sem] theorem z170 : szP Tryd.prog 170 = some (true, 11) := id rfl
@[go_sem] theorem a170 : arP Tryd.prog 170 = none := id rfl
@[go_sem] theorem f170_0 : fldP Tryd.prog 170 0 = some (0, false, 1) := id rfl
@[go_sem] theorem pl170_0 : placeP Tryd.prog 170 0 = some (0, 1) := id rfl
@[go_sem] theorem f170_1 : fldP Tryd.prog 170 1 = some (1, false, 1) := id rfl
@[go_sem] theorem pl170_1 : placeP Tryd.prog 170 1 = some (1, 1) := id rfl
@[go_sem] theorem f170_2 : fldP Tryd.prog 170 2 = some (2, false, 1) := id rfl
@[go_sem] theorem pl170_2 : placeP Tryd.prog 170 2 = some (2, 1) := id rfl
@[go_sem] theorem f170_3 : fldP Tryd.prog 170 3 = some (3, false, 1) := id rfl
@[go_sem] theorem pl170_3 : placeP Tryd.prog 170 3 = some (3, 1) := id rfl
@[go_sem] theorem f170_4 : fldP Tryd.prog 170 4 = some (4, false, 1) := id rfl
@[go_sem] theorem pl170_4 : placeP Tryd.prog 170 4 = some (4, 1) := id rfl
@[go_sem] theorem f170_5 : fldP Tryd.prog 170 5 = some (5, false, 1) := id rfl
@[go_sem] theorem pl170_5 : placeP Tryd.prog 170 5 = some (5, 1) := id rfl
@[go_sem] theorem f170_6 : fldP Tryd.prog 170 6 = some (6, false, 1) := id rfl
@[go_sem] theorem pl170_6 : placeP Tryd.prog 170 6 = some (6, 1) := id rfl
@[go_sem] theorem f170_7 : fldP Tryd.prog 170 7 = some (7, false, 1) := id rfl
@[go_sem] theorem pl170_7 : placeP Tryd.prog 170 7 = some (7, 1) := id rfl
@[go_sem] theorem f170_8 : fldP Tryd.prog 170 8 = some (8, false, 1) := id rfl
@[go_sem] theorem pl170_8 : placeP Tryd.prog 170 8 = some (8, 1) := id rfl
@[go_sem] theorem f170_9 : fldP Tryd.prog 170 9 = some (9, false, 1) := id rfl
@[go_sem] theorem pl170_9 : placeP Tryd.prog 170 9 = some (9, 1) := id rfl
@[go_sem] theorem f170_10 : fldP Tryd.prog 170 10 = some (10, false, 1) := id rfl
@[go_sem] theorem pl170_10 : placeP Tryd.prog 170 10 = some (10, 1) := id rfl
@[go_sem] theorem sd170 : sized Tryd.prog 170 = true := id rfl
theorem zt170 : zeroT Tryd.prog 170 = some (.agg [.s (.int .u64 0), .s (.int .u64 0), .s (.int .u32 0), .s (.int .u8 0), .s (.int .u8 0), .s (.int .u8 0), .s (.int .u8 0), .s .nilFunc, .s (.pointer none), .s (.int .i32 0), .s (.int .i32 0)]) := id rfl
@[go_sem] theorem zr170 : zeroP Tryd.prog 170 = some [.s (.int .u64 0), .s (.int .u64 0), .s (.int .u32 0), .s (.int .u8 0), .s (.int .u8 0), .s (.int .u8 0), .s (.int .u8 0), .s .nilFunc, .s (.pointer none), .s (.int .i32 0), .s (.int .i32 0)] := id rfl
@[go_sem] theorem z171 : szP Tryd.prog 171 = some (true, 11) := id rfl
@[go_sem] theorem a171 : arP Tryd.prog 171 = none := id rfl
@[go_sem] theorem f171_0 : fldP Tryd.prog 171 0 = some (0, false, 1) := id rfl
@[go_sem] theorem pl171_0 : placeP Tryd.prog 171 0 = some (0, 1) := id rfl
@[go_sem] theorem f171_1 : fldP Tryd.prog 171 1 = some (1, false, 1) := id rfl
@[go_sem] theorem pl171_1 : placeP Tryd.prog 171 1 = some (1, 1) := id rfl
@[go_sem] theorem f171_2 : fldP Tryd.prog 171 2 = some (2, false, 1) := id rfl
@[go_sem] theorem pl171_2 : placeP Tryd.prog 171 2 = some (2, 1) := id rfl
@[go_sem] theorem f171_3 : fldP Tryd.prog 171 3 = some (3, false, 1) := id rfl
@[go_sem] theorem pl171_3 : placeP Tryd.prog 171 3 = some (3, 1) := id rfl
@[go_sem] theorem f171_4 : fldP Tryd.prog 171 4 = some (4, false, 1) := id rfl
@[go_sem] theorem pl171_4 : placeP Tryd.prog 171 4 = some (4, 1) := id rfl
@[go_sem] theorem f171_5 : fldP Tryd.prog 171 5 = some (5, false, 1) := id rfl
@[go_sem] theorem pl171_5 : placeP Tryd.prog 171 5 = some (5, 1) := id rfl
@[go_sem] theorem f171_6 : fldP Tryd.prog 171 6 = some (6, false, 1) := id rfl
@[go_sem] theorem pl171_6 : placeP Tryd.prog 171 6 = some (6, 1) := id rfl
@[go_sem] theorem f171_7 : fldP Tryd.prog 171 7 = some (7, false, 1) := id rfl
@[go_sem] theorem pl171_7 : placeP Tryd.prog 171 7 = some (7, 1) := id rfl
@[go_sem] theorem f171_8 : fldP Tryd.prog 171 8 = some (8, false, 1) := id rfl
@[go_sem] theorem pl171_8 : placeP Tryd.prog 171 8 = some (8, 1) := id rfl
@[go_sem] theorem f171_9 : fldP Tryd.prog 171 9 = some (9, false, 1) := id rfl
@[go_sem] theorem pl171_9 : placeP Tryd.prog 171 9 = some (9, 1) := id rfl
@[go_sem] theorem f171_10 : fldP Tryd.prog 171 10 = some (10, false, 1) := id rfl
@[go_sem] theorem pl171_10 : placeP Tryd.prog 171 10 = some (10, 1) := id rfl
@[go_sem] theorem sd171 : sized Tryd.prog 171 = true := id rfl
theorem zt171 : zeroT Tryd.prog 171 = some (.agg [.s (.int .u64 0), .s (.int .u64 0), .s (.int .u32 0), .s (.int .u8 0), .s (.int .u8 0), .s (.int .u8 0), .s (.int .u8 0), .s .nilFunc, .s (.pointer none), .s (.int .i32 0), .s (.int .i32 0)]) := id rfl
@[go_sem] theorem zr171 : zeroP Tryd.prog 171 = some [.s (.int .u64 0), .s (.int .u64 0), .s (.int .u32 0), .s (.int .u8 0), .s (.int .u8 0), .s (.int .u8 0), .s (.int .u8 0), .s .nilFunc, .s (.pointer none), .s (.int .i32 0), .s (.int .i32 0)] := id rfl
@[go_sem] theorem z172 : szP Tryd.prog 172 = some (false, 1) := id rfl
@[go_sem] theorem a172 : arP Tryd.prog 172 = none := id rfl
theorem zt172 : zeroT Tryd.prog 172 = some (.s (.pointer none)) := id rfl
@[go_sem] theorem zr172 : zeroP Tryd.prog 172 = some [.s (.pointer none)] := id rfl
end Go.Abs
