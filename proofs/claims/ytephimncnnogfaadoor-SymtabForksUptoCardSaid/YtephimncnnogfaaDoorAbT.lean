import Derived.Test.YtephimncnnogfaaDoorAb27
import Derived.Test.YtephimncnnogfaaDoorProg
namespace Go.Abs
set_option linter.unusedSimpArgs false
set_option linter.unusedVariables false
set_option maxRecDepth 20000
open Go.Proofs
@[go_sem] theorem z2 : szP Tryd.prog 2 = some (false, 1) := id rfl
@[go_sem] theorem a2 : arP Tryd.prog 2 = none := id rfl
@[go_sem] theorem un2 : (Tryd.prog.underlying 2).isSome = true := id rfl
@[go_sem] theorem i2 : intT Tryd.prog 2 = some .i64 := id rfl
theorem zt2 : zeroT Tryd.prog 2 = some (.s (.int .i64 0)) := id rfl
@[go_sem] theorem zr2 : zeroP Tryd.prog 2 = some [.s (.int .i64 0)] := id rfl
@[go_sem] theorem z3 : szP Tryd.prog 3 = some (false, 1) := id rfl
@[go_sem] theorem a3 : arP Tryd.prog 3 = none := id rfl
@[go_sem] theorem un3 : (Tryd.prog.underlying 3).isSome = true := id rfl
@[go_sem] theorem i3 : intT Tryd.prog 3 = some .i64 := id rfl
theorem zt3 : zeroT Tryd.prog 3 = some (.s (.int .i64 0)) := id rfl
@[go_sem] theorem zr3 : zeroP Tryd.prog 3 = some [.s (.int .i64 0)] := id rfl
@[go_sem] theorem z4 : szP Tryd.prog 4 = some (false, 1) := id rfl
@[go_sem] theorem a4 : arP Tryd.prog 4 = none := id rfl
@[go_sem] theorem s4 : isBoolT Tryd.prog 4 = true := id rfl
theorem zt4 : zeroT Tryd.prog 4 = some (.s (.bool false)) := id rfl
@[go_sem] theorem zr4 : zeroP Tryd.prog 4 = some [.s (.bool false)] := id rfl
@[go_sem] theorem z5 : szP Tryd.prog 5 = some (false, 1) := id rfl
@[go_sem] theorem a5 : arP Tryd.prog 5 = none := id rfl
@[go_sem] theorem un5 : (Tryd.prog.underlying 5).isSome = true := id rfl
@[go_sem] theorem i5 : intT Tryd.prog 5 = some .u8 := id rfl
theorem zt5 : zeroT Tryd.prog 5 = some (.s (.int .u8 0)) := id rfl
@[go_sem] theorem zr5 : zeroP Tryd.prog 5 = some [.s (.int .u8 0)] := id rfl
@[go_sem] theorem z6 : szP Tryd.prog 6 = some (false, 1) := id rfl
@[go_sem] theorem a6 : arP Tryd.prog 6 = none := id rfl
@[go_sem] theorem un6 : (Tryd.prog.underlying 6).isSome = true := id rfl
@[go_sem] theorem i6 : intT Tryd.prog 6 = some .u8 := id rfl
theorem zt6 : zeroT Tryd.prog 6 = some (.s (.int .u8 0)) := id rfl
@[go_sem] theorem zr6 : zeroP Tryd.prog 6 = some [.s (.int .u8 0)] := id rfl
@[go_sem] theorem z7 : szP Tryd.prog 7 = some (true, 4) := id rfl
@[go_sem] theorem a7 : arP Tryd.prog 7 = none := id rfl
@[go_sem] theorem f7_0 : fldP Tryd.prog 7 0 = some (0, false, 1) := id rfl
@[go_sem] theorem pl7_0 : placeP Tryd.prog 7 0 = some (0, 1) := id rfl
@[go_sem] theorem f7_1 : fldP Tryd.prog 7 1 = some (1, false, 1) := id rfl
@[go_sem] theorem pl7_1 : placeP Tryd.prog 7 1 = some (1, 1) := id rfl
@[go_sem] theorem f7_2 : fldP Tryd.prog 7 2 = some (2, false, 1) := id rfl
@[go_sem] theorem pl7_2 : placeP Tryd.prog 7 2 = some (2, 1) := id rfl
@[go_sem] theorem f7_3 : fldP Tryd.prog 7 3 = some (3, false, 1) := id rfl
@[go_sem] theorem pl7_3 : placeP Tryd.prog 7 3 = some (3, 1) := id rfl
@[go_sem] theorem sd7 : sized Tryd.prog 7 = true := id rfl
theorem zt7 : zeroT Tryd.prog 7 = some (.agg [.s (.int .i64 0), .s (.int .i64 0), .s (.bool false), .s (.int .u8 0)]) := id rfl
@[go_sem] theorem zr7 : zeroP Tryd.prog 7 = some [.s (.int .i64 0), .s (.int .i64 0), .s (.bool false), .s (.int .u8 0)] := id rfl
@[go_sem] theorem z8 : szP Tryd.prog 8 = some (true, 4) := id rfl
@[go_sem] theorem a8 : arP Tryd.prog 8 = none := id rfl
@[go_sem] theorem f8_0 : fldP Tryd.prog 8 0 = some (0, false, 1) := id rfl
@[go_sem] theorem pl8_0 : placeP Tryd.prog 8 0 = some (0, 1) := id rfl
@[go_sem] theorem f8_1 : fldP Tryd.prog 8 1 = some (1, false, 1) := id rfl
@[go_sem] theorem pl8_1 : placeP Tryd.prog 8 1 = some (1, 1) := id rfl
@[go_sem] theorem f8_2 : fldP Tryd.prog 8 2 = some (2, false, 1) := id rfl
@[go_sem] theorem pl8_2 : placeP Tryd.prog 8 2 = some (2, 1) := id rfl
@[go_sem] theorem f8_3 : fldP Tryd.prog 8 3 = some (3, false, 1) := id rfl
@[go_sem] theorem pl8_3 : placeP Tryd.prog 8 3 = some (3, 1) := id rfl
@[go_sem] theorem sd8 : sized Tryd.prog 8 = true := id rfl
theorem zt8 : zeroT Tryd.prog 8 = some (.agg [.s (.int .i64 0), .s (.int .i64 0), .s (.bool false), .s (.int .u8 0)]) := id rfl
@[go_sem] theorem zr8 : zeroP Tryd.prog 8 = some [.s (.int .i64 0), .s (.int .i64 0), .s (.bool false), .s (.int .u8 0)] := id rfl
@[go_sem] theorem z9 : szP Tryd.prog 9 = some (false, 1) := id rfl
@[go_sem] theorem a9 : arP Tryd.prog 9 = none := id rfl
@[go_sem] theorem s9 : isStr Tryd.prog 9 = true := id rfl
theorem zt9 : zeroT Tryd.prog 9 = some (.s (.string ByteArray.empty)) := id rfl
@[go_sem] theorem zr9 : zeroP Tryd.prog 9 = some [.s (.string ByteArray.empty)] := id rfl
@[go_sem] theorem z10 : szP Tryd.prog 10 = some (false, 1) := id rfl
@[go_sem] theorem a10 : arP Tryd.prog 10 = none := id rfl
@[go_sem] theorem s10 : isStr Tryd.prog 10 = true := id rfl
theorem zt10 : zeroT Tryd.prog 10 = some (.s (.string ByteArray.empty)) := id rfl
@[go_sem] theorem zr10 : zeroP Tryd.prog 10 = some [.s (.string ByteArray.empty)] := id rfl
@[go_sem] theorem z11 : szP Tryd.prog 11 = some (false, 1) := id rfl
@[go_sem] theorem a11 : arP Tryd.prog 11 = none := id rfl
@[go_sem] theorem s11 : isStr Tryd.prog 11 = true := id rfl
theorem zt11 : zeroT Tryd.prog 11 = some (.s (.string ByteArray.empty)) := id rfl
@[go_sem] theorem zr11 : zeroP Tryd.prog 11 = some [.s (.string ByteArray.empty)] := id rfl
@[go_sem] theorem z12 : szP Tryd.prog 12 = some (false, 1) := id rfl
@[go_sem] theorem a12 : arP Tryd.prog 12 = none := id rfl
@[go_sem] theorem un12 : (Tryd.prog.underlying 12).isSome = true := id rfl
@[go_sem] theorem i12 : intT Tryd.prog 12 = some .u64 := id rfl
theorem zt12 : zeroT Tryd.prog 12 = some (.s (.int .u64 0)) := id rfl
@[go_sem] theorem zr12 : zeroP Tryd.prog 12 = some [.s (.int .u64 0)] := id rfl
@[go_sem] theorem z13 : szP Tryd.prog 13 = some (true, 2) := id rfl
@[go_sem] theorem a13 : arP Tryd.prog 13 = none := id rfl
@[go_sem] theorem f13_0 : fldP Tryd.prog 13 0 = some (0, false, 1) := id rfl
@[go_sem] theorem pl13_0 : placeP Tryd.prog 13 0 = some (0, 1) := id rfl
@[go_sem] theorem f13_1 : fldP Tryd.prog 13 1 = some (1, false, 1) := id rfl
@[go_sem] theorem pl13_1 : placeP Tryd.prog 13 1 = some (1, 1) := id rfl
@[go_sem] theorem sd13 : sized Tryd.prog 13 = true := id rfl
theorem zt13 : zeroT Tryd.prog 13 = some (.agg [.s (.string ByteArray.empty), .s (.int .u64 0)]) := id rfl
@[go_sem] theorem zr13 : zeroP Tryd.prog 13 = some [.s (.string ByteArray.empty), .s (.int .u64 0)] := id rfl
@[go_sem] theorem z14 : szP Tryd.prog 14 = some (true, 2) := id rfl
@[go_sem] theorem a14 : arP Tryd.prog 14 = none := id rfl
@[go_sem] theorem f14_0 : fldP Tryd.prog 14 0 = some (0, false, 1) := id rfl
@[go_sem] theorem pl14_0 : placeP Tryd.prog 14 0 = some (0, 1) := id rfl
@[go_sem] theorem f14_1 : fldP Tryd.prog 14 1 = some (1, false, 1) := id rfl
@[go_sem] theorem pl14_1 : placeP Tryd.prog 14 1 = some (1, 1) := id rfl
@[go_sem] theorem sd14 : sized Tryd.prog 14 = true := id rfl
theorem zt14 : zeroT Tryd.prog 14 = some (.agg [.s (.string ByteArray.empty), .s (.int .u64 0)]) := id rfl
@[go_sem] theorem zr14 : zeroP Tryd.prog 14 = some [.s (.string ByteArray.empty), .s (.int .u64 0)] := id rfl
@[go_sem] theorem z15 : szP Tryd.prog 15 = some (false, 1) := id rfl
@[go_sem] theorem a15 : arP Tryd.prog 15 = none := id rfl
@[go_sem] theorem s15 : isPtrT Tryd.prog 15 = true := id rfl
theorem zt15 : zeroT Tryd.prog 15 = some (.s (.pointer none)) := id rfl
@[go_sem] theorem zr15 : zeroP Tryd.prog 15 = some [.s (.pointer none)] := id rfl
@[go_sem] theorem z16 : szP Tryd.prog 16 = some (false, 1) := id rfl
@[go_sem] theorem a16 : arP Tryd.prog 16 = none := id rfl
@[go_sem] theorem s16 : isPtrT Tryd.prog 16 = true := id rfl
theorem zt16 : zeroT Tryd.prog 16 = some (.s (.pointer none)) := id rfl
@[go_sem] theorem zr16 : zeroP Tryd.prog 16 = some [.s (.pointer none)] := id rfl
@[go_sem] theorem z17 : szP Tryd.prog 17 = some (false, 1) := id rfl
@[go_sem] theorem a17 : arP Tryd.prog 17 = none := id rfl
@[go_sem] theorem s17 : isPtrT Tryd.prog 17 = true := id rfl
theorem zt17 : zeroT Tryd.prog 17 = some (.s (.pointer none)) := id rfl
@[go_sem] theorem zr17 : zeroP Tryd.prog 17 = some [.s (.pointer none)] := id rfl
@[go_sem] theorem z18 : szP Tryd.prog 18 = some (true, 1) := id rfl
@[go_sem] theorem a18 : arP Tryd.prog 18 = none := id rfl
@[go_sem] theorem f18_0 : fldP Tryd.prog 18 0 = some (0, false, 1) := id rfl
@[go_sem] theorem pl18_0 : placeP Tryd.prog 18 0 = some (0, 1) := id rfl
@[go_sem] theorem sd18 : sized Tryd.prog 18 = true := id rfl
theorem zt18 : zeroT Tryd.prog 18 = some (.agg [.s (.pointer none)]) := id rfl
@[go_sem] theorem zr18 : zeroP Tryd.prog 18 = some [.s (.pointer none)] := id rfl
@[go_sem] theorem z19 : szP Tryd.prog 19 = some (true, 1) := id rfl
@[go_sem] theorem a19 : arP Tryd.prog 19 = none := id rfl
@[go_sem] theorem f19_0 : fldP Tryd.prog 19 0 = some (0, false, 1) := id rfl
@[go_sem] theorem pl19_0 : placeP Tryd.prog 19 0 = some (0, 1) := id rfl
@[go_sem] theorem sd19 : sized Tryd.prog 19 = true := id rfl
theorem zt19 : zeroT Tryd.prog 19 = some (.agg [.s (.pointer none)]) := id rfl
@[go_sem] theorem zr19 : zeroP Tryd.prog 19 = some [.s (.pointer none)] := id rfl
@[go_sem] theorem z21 : szP Tryd.prog 21 = some (false, 1) := id rfl
@[go_sem] theorem a21 : arP Tryd.prog 21 = none := id rfl
@[go_sem] theorem un21 : (Tryd.prog.underlying 21).isSome = true := id rfl
@[go_sem] theorem i21 : intT Tryd.prog 21 = some .i32 := id rfl
theorem zt21 : zeroT Tryd.prog 21 = some (.s (.int .i32 0)) := id rfl
@[go_sem] theorem zr21 : zeroP Tryd.prog 21 = some [.s (.int .i32 0)] := id rfl
@[go_sem] theorem z22 : szP Tryd.prog 22 = some (false, 1) := id rfl
@[go_sem] theorem a22 : arP Tryd.prog 22 = none := id rfl
@[go_sem] theorem e22 : elP Tryd.prog 22 = some 1 := id rfl
@[go_sem] theorem nb22 : nilOk Tryd.prog 22 = true := id rfl
theorem us22 : Tryd.prog.underlying 22 = some (.slice 9) := id rfl
theorem ap22 : apP Tryd.prog 22 = some (1, 16) := id rfl
theorem zt22 : zeroT Tryd.prog 22 = some (.nils) := id rfl
@[go_sem] theorem zr22 : zeroP Tryd.prog 22 = some [.nils] := id rfl
@[go_sem] theorem z23 : szP Tryd.prog 23 = some (false, 1) := id rfl
@[go_sem] theorem a23 : arP Tryd.prog 23 = none := id rfl
@[go_sem] theorem e23 : elP Tryd.prog 23 = some 1 := id rfl
@[go_sem] theorem nb23 : nilOk Tryd.prog 23 = true := id rfl
theorem us23 : Tryd.prog.underlying 23 = some (.slice 22) := id rfl
theorem ap23 : apP Tryd.prog 23 = some (1, 24) := id rfl
theorem zt23 : zeroT Tryd.prog 23 = some (.nils) := id rfl
@[go_sem] theorem zr23 : zeroP Tryd.prog 23 = some [.nils] := id rfl
@[go_sem] theorem z24 : szP Tryd.prog 24 = some (false, 1) := id rfl
@[go_sem] theorem a24 : arP Tryd.prog 24 = none := id rfl
@[go_sem] theorem s24 : isPtrT Tryd.prog 24 = true := id rfl
theorem zt24 : zeroT Tryd.prog 24 = some (.s (.pointer none)) := id rfl
@[go_sem] theorem zr24 : zeroP Tryd.prog 24 = some [.s (.pointer none)] := id rfl
@[go_sem] theorem z26 : szP Tryd.prog 26 = some (false, 1) := id rfl
@[go_sem] theorem a26 : arP Tryd.prog 26 = none := id rfl
@[go_sem] theorem un26 : (Tryd.prog.underlying 26).isSome = true := id rfl
@[go_sem] theorem i26 : intT Tryd.prog 26 = some .i64 := id rfl
theorem zt26 : zeroT Tryd.prog 26 = some (.s (.int .i64 0)) := id rfl
@[go_sem] theorem zr26 : zeroP Tryd.prog 26 = some [.s (.int .i64 0)] := id rfl
@[go_sem] theorem z28 : szP Tryd.prog 28 = some (false, 1) := id rfl
@[go_sem] theorem a28 : arP Tryd.prog 28 = none := id rfl
@[go_sem] theorem e28 : elP Tryd.prog 28 = some 5 := id rfl
@[go_sem] theorem nb28 : nilOk Tryd.prog 28 = true := id rfl
theorem us28 : Tryd.prog.underlying 28 = some (.slice 33) := id rfl
theorem ap28 : apP Tryd.prog 28 = some (5, 56) := id rfl
theorem zt28 : zeroT Tryd.prog 28 = some (.nils) := id rfl
@[go_sem] theorem zr28 : zeroP Tryd.prog 28 = some [.nils] := id rfl
@[go_sem] theorem z30 : szP Tryd.prog 30 = some (false, 1) := id rfl
@[go_sem] theorem a30 : arP Tryd.prog 30 = none := id rfl
@[go_sem] theorem un30 : (Tryd.prog.underlying 30).isSome = true := id rfl
@[go_sem] theorem i30 : intT Tryd.prog 30 = some .u32 := id rfl
theorem zt30 : zeroT Tryd.prog 30 = some (.s (.int .u32 0)) := id rfl
@[go_sem] theorem zr30 : zeroP Tryd.prog 30 = some [.s (.int .u32 0)] := id rfl
@[go_sem] theorem z32 : szP Tryd.prog 32 = some (true, 5) := id rfl
@[go_sem] theorem a32 : arP Tryd.prog 32 = none := id rfl
@[go_sem] theorem f32_0 : fldP Tryd.prog 32 0 = some (0, false, 1) := id rfl
@[go_sem] theorem pl32_0 : placeP Tryd.prog 32 0 = some (0, 1) := id rfl
@[go_sem] theorem f32_1 : fldP Tryd.prog 32 1 = some (1, false, 1) := id rfl
@[go_sem] theorem pl32_1 : placeP Tryd.prog 32 1 = some (1, 1) := id rfl
@[go_sem] theorem f32_2 : fldP Tryd.prog 32 2 = some (2, false, 1) := id rfl
@[go_sem] theorem pl32_2 : placeP Tryd.prog 32 2 = some (2, 1) := id rfl
@[go_sem] theorem f32_3 : fldP Tryd.prog 32 3 = some (3, false, 1) := id rfl
@[go_sem] theorem pl32_3 : placeP Tryd.prog 32 3 = some (3, 1) := id rfl
@[go_sem] theorem f32_4 : fldP Tryd.prog 32 4 = some (4, false, 1) := id rfl
@[go_sem] theorem pl32_4 : placeP Tryd.prog 32 4 = some (4, 1) := id rfl
@[go_sem] theorem sd32 : sized Tryd.prog 32 = true := id rfl
theorem zt32 : zeroT Tryd.prog 32 = some (.agg [.s (.string ByteArray.empty), .s (.string ByteArray.empty), .s (.int .i64 0), .s (.int .i64 0), .s (.int .i64 0)]) := id rfl
@[go_sem] theorem zr32 : zeroP Tryd.prog 32 = some [.s (.string ByteArray.empty), .s (.string ByteArray.empty), .s (.int .i64 0), .s (.int .i64 0), .s (.int .i64 0)] := id rfl
@[go_sem] theorem z33 : szP Tryd.prog 33 = some (true, 5) := id rfl
@[go_sem] theorem a33 : arP Tryd.prog 33 = none := id rfl
@[go_sem] theorem f33_0 : fldP Tryd.prog 33 0 = some (0, false, 1) := id rfl
@[go_sem] theorem pl33_0 : placeP Tryd.prog 33 0 = some (0, 1) := id rfl
@[go_sem] theorem f33_1 : fldP Tryd.prog 33 1 = some (1, false, 1) := id rfl
@[go_sem] theorem pl33_1 : placeP Tryd.prog 33 1 = some (1, 1) := id rfl
@[go_sem] theorem f33_2 : fldP Tryd.prog 33 2 = some (2, false, 1) := id rfl
@[go_sem] theorem pl33_2 : placeP Tryd.prog 33 2 = some (2, 1) := id rfl
@[go_sem] theorem f33_3 : fldP Tryd.prog 33 3 = some (3, false, 1) := id rfl
@[go_sem] theorem pl33_3 : placeP Tryd.prog 33 3 = some (3, 1) := id rfl
@[go_sem] theorem f33_4 : fldP Tryd.prog 33 4 = some (4, false, 1) := id rfl
@[go_sem] theorem pl33_4 : placeP Tryd.prog 33 4 = some (4, 1) := id rfl
@[go_sem] theorem sd33 : sized Tryd.prog 33 = true := id rfl
theorem zt33 : zeroT Tryd.prog 33 = some (.agg [.s (.string ByteArray.empty), .s (.string ByteArray.empty), .s (.int .i64 0), .s (.int .i64 0), .s (.int .i64 0)]) := id rfl
@[go_sem] theorem zr33 : zeroP Tryd.prog 33 = some [.s (.string ByteArray.empty), .s (.string ByteArray.empty), .s (.int .i64 0), .s (.int .i64 0), .s (.int .i64 0)] := id rfl
@[go_sem] theorem z36 : szP Tryd.prog 36 = some (false, 1) := id rfl
@[go_sem] theorem a36 : arP Tryd.prog 36 = none := id rfl
@[go_sem] theorem e36 : elP Tryd.prog 36 = some 4 := id rfl
@[go_sem] theorem nb36 : nilOk Tryd.prog 36 = true := id rfl
theorem us36 : Tryd.prog.underlying 36 = some (.slice 44) := id rfl
theorem ap36 : apP Tryd.prog 36 = some (4, 56) := id rfl
theorem zt36 : zeroT Tryd.prog 36 = some (.nils) := id rfl
@[go_sem] theorem zr36 : zeroP Tryd.prog 36 = some [.nils] := id rfl
@[go_sem] theorem z38 : szP Tryd.prog 38 = some (false, 1) := id rfl
@[go_sem] theorem a38 : arP Tryd.prog 38 = none := id rfl
@[go_sem] theorem e38 : elP Tryd.prog 38 = some 5 := id rfl
@[go_sem] theorem nb38 : nilOk Tryd.prog 38 = true := id rfl
theorem us38 : Tryd.prog.underlying 38 = some (.slice 67) := id rfl
theorem ap38 : apP Tryd.prog 38 = some (5, 56) := id rfl
theorem zt38 : zeroT Tryd.prog 38 = some (.nils) := id rfl
@[go_sem] theorem zr38 : zeroP Tryd.prog 38 = some [.nils] := id rfl
@[go_sem] theorem z39 : szP Tryd.prog 39 = some (true, 2) := id rfl
@[go_sem] theorem a39 : arP Tryd.prog 39 = none := id rfl
@[go_sem] theorem f39_0 : fldP Tryd.prog 39 0 = some (0, false, 1) := id rfl
@[go_sem] theorem pl39_0 : placeP Tryd.prog 39 0 = some (0, 1) := id rfl
@[go_sem] theorem f39_1 : fldP Tryd.prog 39 1 = some (1, false, 1) := id rfl
@[go_sem] theorem pl39_1 : placeP Tryd.prog 39 1 = some (1, 1) := id rfl
@[go_sem] theorem sd39 : sized Tryd.prog 39 = true := id rfl
theorem zt39 : zeroT Tryd.prog 39 = some (.agg [.nils, .nils]) := id rfl
@[go_sem] theorem zr39 : zeroP Tryd.prog 39 = some [.nils, .nils] := id rfl
@[go_sem] theorem z40 : szP Tryd.prog 40 = some (true, 2) := id rfl
@[go_sem] theorem a40 : arP Tryd.prog 40 = none := id rfl
@[go_sem] theorem f40_0 : fldP Tryd.prog 40 0 = some (0, false, 1) := id rfl
@[go_sem] theorem pl40_0 : placeP Tryd.prog 40 0 = some (0, 1) := id rfl
@[go_sem] theorem f40_1 : fldP Tryd.prog 40 1 = some (1, false, 1) := id rfl
@[go_sem] theorem pl40_1 : placeP Tryd.prog 40 1 = some (1, 1) := id rfl
@[go_sem] theorem sd40 : sized Tryd.prog 40 = true := id rfl
theorem zt40 : zeroT Tryd.prog 40 = some (.agg [.nils, .nils]) := id rfl
@[go_sem] theorem zr40 : zeroP Tryd.prog 40 = some [.nils, .nils] := id rfl
@[go_sem] theorem z43 : szP Tryd.prog 43 = some (true, 4) := id rfl
@[go_sem] theorem a43 : arP Tryd.prog 43 = none := id rfl
@[go_sem] theorem f43_0 : fldP Tryd.prog 43 0 = some (0, false, 1) := id rfl
@[go_sem] theorem pl43_0 : placeP Tryd.prog 43 0 = some (0, 1) := id rfl
@[go_sem] theorem f43_1 : fldP Tryd.prog 43 1 = some (1, false, 1) := id rfl
@[go_sem] theorem pl43_1 : placeP Tryd.prog 43 1 = some (1, 1) := id rfl
@[go_sem] theorem f43_2 : fldP Tryd.prog 43 2 = some (2, false, 1) := id rfl
@[go_sem] theorem pl43_2 : placeP Tryd.prog 43 2 = some (2, 1) := id rfl
@[go_sem] theorem f43_3 : fldP Tryd.prog 43 3 = some (3, false, 1) := id rfl
@[go_sem] theorem pl43_3 : placeP Tryd.prog 43 3 = some (3, 1) := id rfl
@[go_sem] theorem sd43 : sized Tryd.prog 43 = true := id rfl
theorem zt43 : zeroT Tryd.prog 43 = some (.agg [.s (.int .u8 0), .s (.string ByteArray.empty), .s (.int .i64 0), .nils]) := id rfl
@[go_sem] theorem zr43 : zeroP Tryd.prog 43 = some [.s (.int .u8 0), .s (.string ByteArray.empty), .s (.int .i64 0), .nils] := id rfl
@[go_sem] theorem z44 : szP Tryd.prog 44 = some (true, 4) := id rfl
@[go_sem] theorem a44 : arP Tryd.prog 44 = none := id rfl
@[go_sem] theorem f44_0 : fldP Tryd.prog 44 0 = some (0, false, 1) := id rfl
@[go_sem] theorem pl44_0 : placeP Tryd.prog 44 0 = some (0, 1) := id rfl
@[go_sem] theorem f44_1 : fldP Tryd.prog 44 1 = some (1, false, 1) := id rfl
@[go_sem] theorem pl44_1 : placeP Tryd.prog 44 1 = some (1, 1) := id rfl
@[go_sem] theorem f44_2 : fldP Tryd.prog 44 2 = some (2, false, 1) := id rfl
@[go_sem] theorem pl44_2 : placeP Tryd.prog 44 2 = some (2, 1) := id rfl
@[go_sem] theorem f44_3 : fldP Tryd.prog 44 3 = some (3, false, 1) := id rfl
@[go_sem] theorem pl44_3 : placeP Tryd.prog 44 3 = some (3, 1) := id rfl
@[go_sem] theorem sd44 : sized Tryd.prog 44 = true := id rfl
theorem zt44 : zeroT Tryd.prog 44 = some (.agg [.s (.int .u8 0), .s (.string ByteArray.empty), .s (.int .i64 0), .nils]) := id rfl
@[go_sem] theorem zr44 : zeroP Tryd.prog 44 = some [.s (.int .u8 0), .s (.string ByteArray.empty), .s (.int .i64 0), .nils] := id rfl
@[go_sem] theorem z55 : szP Tryd.prog 55 = some (false, 1) := id rfl
@[go_sem] theorem a55 : arP Tryd.prog 55 = none := id rfl
@[go_sem] theorem mp55 : isMapT Tryd.prog 55 = true := id rfl
theorem um55 : Tryd.prog.underlying 55 = some (.map 9 4) := id rfl
theorem zt55 : zeroT Tryd.prog 55 = some (.s (.map none)) := id rfl
@[go_sem] theorem zr55 : zeroP Tryd.prog 55 = some [.s (.map none)] := id rfl
@[go_sem] theorem z56 : szP Tryd.prog 56 = some (false, 1) := id rfl
@[go_sem] theorem a56 : arP Tryd.prog 56 = none := id rfl
@[go_sem] theorem mp56 : isMapT Tryd.prog 56 = true := id rfl
theorem um56 : Tryd.prog.underlying 56 = some (.map 9 33) := id rfl
theorem zt56 : zeroT Tryd.prog 56 = some (.s (.map none)) := id rfl
@[go_sem] theorem zr56 : zeroP Tryd.prog 56 = some [.s (.map none)] := id rfl
@[go_sem] theorem z57 : szP Tryd.prog 57 = some (true, 2) := id rfl
@[go_sem] theorem a57 : arP Tryd.prog 57 = none := id rfl
@[go_sem] theorem f57_0 : fldP Tryd.prog 57 0 = some (0, false, 1) := id rfl
@[go_sem] theorem pl57_0 : placeP Tryd.prog 57 0 = some (0, 1) := id rfl
@[go_sem] theorem f57_1 : fldP Tryd.prog 57 1 = some (1, false, 1) := id rfl
@[go_sem] theorem pl57_1 : placeP Tryd.prog 57 1 = some (1, 1) := id rfl
@[go_sem] theorem sd57 : sized Tryd.prog 57 = true := id rfl
theorem zt57 : zeroT Tryd.prog 57 = some (.agg [.s (.map none), .s (.map none)]) := id rfl
@[go_sem] theorem zr57 : zeroP Tryd.prog 57 = some [.s (.map none), .s (.map none)] := id rfl
@[go_sem] theorem z58 : szP Tryd.prog 58 = some (true, 2) := id rfl
@[go_sem] theorem a58 : arP Tryd.prog 58 = none := id rfl
@[go_sem] theorem f58_0 : fldP Tryd.prog 58 0 = some (0, false, 1) := id rfl
@[go_sem] theorem pl58_0 : placeP Tryd.prog 58 0 = some (0, 1) := id rfl
@[go_sem] theorem f58_1 : fldP Tryd.prog 58 1 = some (1, false, 1) := id rfl
@[go_sem] theorem pl58_1 : placeP Tryd.prog 58 1 = some (1, 1) := id rfl
@[go_sem] theorem sd58 : sized Tryd.prog 58 = true := id rfl
theorem zt58 : zeroT Tryd.prog 58 = some (.agg [.s (.map none), .s (.map none)]) := id rfl
@[go_sem] theorem zr58 : zeroP Tryd.prog 58 = some [.s (.map none), .s (.map none)] := id rfl
@[go_sem] theorem z67 : szP Tryd.prog 67 = some (true, 5) := id rfl
@[go_sem] theorem a67 : arP Tryd.prog 67 = none := id rfl
@[go_sem] theorem f67_0 : fldP Tryd.prog 67 0 = some (0, false, 1) := id rfl
@[go_sem] theorem pl67_0 : placeP Tryd.prog 67 0 = some (0, 1) := id rfl
@[go_sem] theorem f67_1 : fldP Tryd.prog 67 1 = some (1, false, 1) := id rfl
@[go_sem] theorem pl67_1 : placeP Tryd.prog 67 1 = some (1, 1) := id rfl
@[go_sem] theorem f67_2 : fldP Tryd.prog 67 2 = some (2, false, 1) := id rfl
@[go_sem] theorem pl67_2 : placeP Tryd.prog 67 2 = some (2, 1) := id rfl
@[go_sem] theorem f67_3 : fldP Tryd.prog 67 3 = some (3, false, 1) := id rfl
@[go_sem] theorem pl67_3 : placeP Tryd.prog 67 3 = some (3, 1) := id rfl
@[go_sem] theorem f67_4 : fldP Tryd.prog 67 4 = some (4, false, 1) := id rfl
@[go_sem] theorem pl67_4 : placeP Tryd.prog 67 4 = some (4, 1) := id rfl
@[go_sem] theorem sd67 : sized Tryd.prog 67 = true := id rfl
theorem zt67 : zeroT Tryd.prog 67 = some (.agg [.s (.string ByteArray.empty), .s (.string ByteArray.empty), .s (.int .i64 0), .s (.int .i64 0), .s (.int .i64 0)]) := id rfl
@[go_sem] theorem zr67 : zeroP Tryd.prog 67 = some [.s (.string ByteArray.empty), .s (.string ByteArray.empty), .s (.int .i64 0), .s (.int .i64 0), .s (.int .i64 0)] := id rfl
@[go_sem] theorem z82 : szP Tryd.prog 82 = some (false, 1) := id rfl
@[go_sem] theorem a82 : arP Tryd.prog 82 = none := id rfl
@[go_sem] theorem un82 : (Tryd.prog.underlying 82).isSome = true := id rfl
@[go_sem] theorem i82 : intT Tryd.prog 82 = some .u64 := id rfl
theorem zt82 : zeroT Tryd.prog 82 = some (.s (.int .u64 0)) := id rfl
@[go_sem] theorem zr82 : zeroP Tryd.prog 82 = some [.s (.int .u64 0)] := id rfl
@[go_sem] theorem z89 : szP Tryd.prog 89 = some (false, 1) := id rfl
@[go_sem] theorem a89 : arP Tryd.prog 89 = none := id rfl
@[go_sem] theorem un89 : (Tryd.prog.underlying 89).isSome = true := id rfl
@[go_sem] theorem i89 : intT Tryd.prog 89 = some .i64 := id rfl
theorem zt89 : zeroT Tryd.prog 89 = some (.s (.int .i64 0)) := id rfl
@[go_sem] theorem zr89 : zeroP Tryd.prog 89 = some [.s (.int .i64 0)] := id rfl
@[go_sem] theorem z98 : szP Tryd.prog 98 = some (false, 1) := id rfl
@[go_sem] theorem a98 : arP Tryd.prog 98 = none := id rfl
@[go_sem] theorem un98 : (Tryd.prog.underlying 98).isSome = true := id rfl
@[go_sem] theorem i98 : intT Tryd.prog 98 = some .u64 := id rfl
theorem zt98 : zeroT Tryd.prog 98 = some (.s (.int .u64 0)) := id rfl
@[go_sem] theorem zr98 : zeroP Tryd.prog 98 = some [.s (.int .u64 0)] := id rfl
@[go_sem] theorem z103 : szP Tryd.prog 103 = some (false, 1) := id rfl
@[go_sem] theorem a103 : arP Tryd.prog 103 = none := id rfl
@[go_sem] theorem un103 : (Tryd.prog.underlying 103).isSome = true := id rfl
@[go_sem] theorem i103 : intT Tryd.prog 103 = some .u64 := id rfl
theorem zt103 : zeroT Tryd.prog 103 = some (.s (.int .u64 0)) := id rfl
@[go_sem] theorem zr103 : zeroP Tryd.prog 103 = some [.s (.int .u64 0)] := id rfl
@[go_sem] theorem z107 : szP Tryd.prog 107 = some (false, 1) := id rfl
@[go_sem] theorem a107 : arP Tryd.prog 107 = none := id rfl
@[go_sem] theorem s107 : isPtrT Tryd.prog 107 = true := id rfl
theorem zt107 : zeroT Tryd.prog 107 = some (.s (.pointer none)) := id rfl
@[go_sem] theorem zr107 : zeroP Tryd.prog 107 = some [.s (.pointer none)] := id rfl
@[go_sem] theorem z109 : szP Tryd.prog 109 = some (false, 1) := id rfl
@[go_sem] theorem a109 : arP Tryd.prog 109 = none := id rfl
@[go_sem] theorem e109 : elP Tryd.prog 109 = some 1 := id rfl
@[go_sem] theorem nb109 : nilOk Tryd.prog 109 = true := id rfl
theorem us109 : Tryd.prog.underlying 109 = some (.slice 3) := id rfl
theorem ap109 : apP Tryd.prog 109 = some (1, 8) := id rfl
theorem zt109 : zeroT Tryd.prog 109 = some (.nils) := id rfl
@[go_sem] theorem zr109 : zeroP Tryd.prog 109 = some [.nils] := id rfl
@[go_sem] theorem z115 : szP Tryd.prog 115 = some (false, 1) := id rfl
@[go_sem] theorem a115 : arP Tryd.prog 115 = none := id rfl
@[go_sem] theorem s115 : isPtrT Tryd.prog 115 = true := id rfl
theorem zt115 : zeroT Tryd.prog 115 = some (.s (.pointer none)) := id rfl
@[go_sem] theorem zr115 : zeroP Tryd.prog 115 = some [.s (.pointer none)] := id rfl
@[go_sem] theorem z121 : szP Tryd.prog 121 = some (true, 256) := id rfl
@[go_sem] theorem a121 : arP Tryd.prog 121 = some (256, false, 1) := id rfl
@[go_sem] theorem sd121 : sized Tryd.prog 121 = true := id rfl
@[go_sem] theorem pl121 (i : Nat) : placeP Tryd.prog 121 i = some (i * 1, 1) := id rfl
@[go_sem] theorem z122 : szP Tryd.prog 122 = some (true, 2) := id rfl
@[go_sem] theorem a122 : arP Tryd.prog 122 = none := id rfl
@[go_sem] theorem f122_0 : fldP Tryd.prog 122 0 = some (0, false, 1) := id rfl
@[go_sem] theorem pl122_0 : placeP Tryd.prog 122 0 = some (0, 1) := id rfl
@[go_sem] theorem f122_1 : fldP Tryd.prog 122 1 = some (1, false, 1) := id rfl
@[go_sem] theorem pl122_1 : placeP Tryd.prog 122 1 = some (1, 1) := id rfl
@[go_sem] theorem sd122 : sized Tryd.prog 122 = true := id rfl
theorem zt122 : zeroT Tryd.prog 122 = some (.agg [.s (.int .u8 0), .s (.int .u8 0)]) := id rfl
@[go_sem] theorem zr122 : zeroP Tryd.prog 122 = some [.s (.int .u8 0), .s (.int .u8 0)] := id rfl
@[go_sem] theorem z123 : szP Tryd.prog 123 = some (true, 2) := id rfl
@[go_sem] theorem a123 : arP Tryd.prog 123 = none := id rfl
@[go_sem] theorem f123_0 : fldP Tryd.prog 123 0 = some (0, false, 1) := id rfl
@[go_sem] theorem pl123_0 : placeP Tryd.prog 123 0 = some (0, 1) := id rfl
@[go_sem] theorem f123_1 : fldP Tryd.prog 123 1 = some (1, false, 1) := id rfl
@[go_sem] theorem pl123_1 : placeP Tryd.prog 123 1 = some (1, 1) := id rfl
@[go_sem] theorem sd123 : sized Tryd.prog 123 = true := id rfl
theorem zt123 : zeroT Tryd.prog 123 = some (.agg [.s (.int .u8 0), .s (.int .u8 0)]) := id rfl
@[go_sem] theorem zr123 : zeroP Tryd.prog 123 = some [.s (.int .u8 0), .s (.int .u8 0)] := id rfl
@[go_sem] theorem z124 : szP Tryd.prog 124 = some (true, 32) := id rfl
@[go_sem] theorem a124 : arP Tryd.prog 124 = some (16, true, 2) := id rfl
@[go_sem] theorem sd124 : sized Tryd.prog 124 = true := id rfl
@[go_sem] theorem pl124 (i : Nat) : placeP Tryd.prog 124 i = some (i * 2, 2) := id rfl
theorem zt124 : zeroT Tryd.prog 124 = some (.agg [.s (.int .u8 0), .s (.int .u8 0), .s (.int .u8 0), .s (.int .u8 0), .s (.int .u8 0), .s (.int .u8 0), .s (.int .u8 0), .s (.int .u8 0), .s (.int .u8 0), .s (.int .u8 0), .s (.int .u8 0), .s (.int .u8 0), .s (.int .u8 0), .s (.int .u8 0), .s (.int .u8 0), .s (.int .u8 0), .s (.int .u8 0), .s (.int .u8 0), .s (.int .u8 0), .s (.int .u8 0), .s (.int .u8 0), .s (.int .u8 0), .s (.int .u8 0), .s (.int .u8 0), .s (.int .u8 0), .s (.int .u8 0), .s (.int .u8 0), .s (.int .u8 0), .s (.int .u8 0), .s (.int .u8 0), .s (.int .u8 0), .s (.int .u8 0)]) := id rfl
@[go_sem] theorem zr124 : zeroP Tryd.prog 124 = some [.s (.int .u8 0), .s (.int .u8 0), .s (.int .u8 0), .s (.int .u8 0), .s (.int .u8 0), .s (.int .u8 0), .s (.int .u8 0), .s (.int .u8 0), .s (.int .u8 0), .s (.int .u8 0), .s (.int .u8 0), .s (.int .u8 0), .s (.int .u8 0), .s (.int .u8 0), .s (.int .u8 0), .s (.int .u8 0), .s (.int .u8 0), .s (.int .u8 0), .s (.int .u8 0), .s (.int .u8 0), .s (.int .u8 0), .s (.int .u8 0), .s (.int .u8 0), .s (.int .u8 0), .s (.int .u8 0), .s (.int .u8 0), .s (.int .u8 0), .s (.int .u8 0), .s (.int .u8 0), .s (.int .u8 0), .s (.int .u8 0), .s (.int .u8 0)] := id rfl
@[go_sem] theorem z129 : szP Tryd.prog 129 = some (true, 4) := id rfl
@[go_sem] theorem a129 : arP Tryd.prog 129 = none := id rfl
@[go_sem] theorem f129_0 : fldP Tryd.prog 129 0 = some (0, false, 1) := id rfl
@[go_sem] theorem pl129_0 : placeP Tryd.prog 129 0 = some (0, 1) := id rfl
@[go_sem] theorem f129_1 : fldP Tryd.prog 129 1 = some (1, false, 1) := id rfl
@[go_sem] theorem pl129_1 : placeP Tryd.prog 129 1 = some (1, 1) := id rfl
@[go_sem] theorem f129_2 : fldP Tryd.prog 129 2 = some (2, false, 1) := id rfl
@[go_sem] theorem pl129_2 : placeP Tryd.prog 129 2 = some (2, 1) := id rfl
@[go_sem] theorem f129_3 : fldP Tryd.prog 129 3 = some (3, false, 1) := id rfl
@[go_sem] theorem pl129_3 : placeP Tryd.prog 129 3 = some (3, 1) := id rfl
@[go_sem] theorem sd129 : sized Tryd.prog 129 = true := id rfl
theorem zt129 : zeroT Tryd.prog 129 = some (.agg [.s (.pointer none), .s (.pointer none), .s (.pointer none), .s (.string ByteArray.empty)]) := id rfl
@[go_sem] theorem zr129 : zeroP Tryd.prog 129 = some [.s (.pointer none), .s (.pointer none), .s (.pointer none), .s (.string ByteArray.empty)] := id rfl
@[go_sem] theorem z130 : szP Tryd.prog 130 = some (true, 4) := id rfl
@[go_sem] theorem a130 : arP Tryd.prog 130 = none := id rfl
@[go_sem] theorem f130_0 : fldP Tryd.prog 130 0 = some (0, false, 1) := id rfl
@[go_sem] theorem pl130_0 : placeP Tryd.prog 130 0 = some (0, 1) := id rfl
@[go_sem] theorem f130_1 : fldP Tryd.prog 130 1 = some (1, false, 1) := id rfl
@[go_sem] theorem pl130_1 : placeP Tryd.prog 130 1 = some (1, 1) := id rfl
@[go_sem] theorem f130_2 : fldP Tryd.prog 130 2 = some (2, false, 1) := id rfl
@[go_sem] theorem pl130_2 : placeP Tryd.prog 130 2 = some (2, 1) := id rfl
@[go_sem] theorem f130_3 : fldP Tryd.prog 130 3 = some (3, false, 1) := id rfl
@[go_sem] theorem pl130_3 : placeP Tryd.prog 130 3 = some (3, 1) := id rfl
@[go_sem] theorem sd130 : sized Tryd.prog 130 = true := id rfl
theorem zt130 : zeroT Tryd.prog 130 = some (.agg [.s (.pointer none), .s (.pointer none), .s (.pointer none), .s (.string ByteArray.empty)]) := id rfl
@[go_sem] theorem zr130 : zeroP Tryd.prog 130 = some [.s (.pointer none), .s (.pointer none), .s (.pointer none), .s (.string ByteArray.empty)] := id rfl
@[go_sem] theorem z131 : szP Tryd.prog 131 = some (true, 0) := id rfl
@[go_sem] theorem a131 : arP Tryd.prog 131 = some (0, false, 1) := id rfl
@[go_sem] theorem sd131 : sized Tryd.prog 131 = true := id rfl
@[go_sem] theorem pl131 (i : Nat) : placeP Tryd.prog 131 i = some (i * 1, 1) := id rfl
theorem zt131 : zeroT Tryd.prog 131 = some (.agg []) := id rfl
@[go_sem] theorem zr131 : zeroP Tryd.prog 131 = some [] := id rfl
@[go_sem] theorem z132 : szP Tryd.prog 132 = some (true, 0) := id rfl
@[go_sem] theorem a132 : arP Tryd.prog 132 = none := id rfl
@[go_sem] theorem pl132_0 : placeP Tryd.prog 132 0 = some (0, 0) := id rfl
@[go_sem] theorem sd132 : sized Tryd.prog 132 = true := id rfl
theorem zt132 : zeroT Tryd.prog 132 = some (.agg []) := id rfl
@[go_sem] theorem zr132 : zeroP Tryd.prog 132 = some [] := id rfl
@[go_sem] theorem z133 : szP Tryd.prog 133 = some (true, 0) := id rfl
@[go_sem] theorem a133 : arP Tryd.prog 133 = none := id rfl
@[go_sem] theorem pl133_0 : placeP Tryd.prog 133 0 = some (0, 0) := id rfl
@[go_sem] theorem sd133 : sized Tryd.prog 133 = true := id rfl
theorem zt133 : zeroT Tryd.prog 133 = some (.agg []) := id rfl
@[go_sem] theorem zr133 : zeroP Tryd.prog 133 = some [] := id rfl
@[go_sem] theorem z135 : szP Tryd.prog 135 = some (false, 1) := id rfl
@[go_sem] theorem a135 : arP Tryd.prog 135 = none := id rfl
@[go_sem] theorem un135 : (Tryd.prog.underlying 135).isSome = true := id rfl
@[go_sem] theorem i135 : intT Tryd.prog 135 = some .u8 := id rfl
theorem zt135 : zeroT Tryd.prog 135 = some (.s (.int .u8 0)) := id rfl
@[go_sem] theorem zr135 : zeroP Tryd.prog 135 = some [.s (.int .u8 0)] := id rfl
@[go_sem] theorem z136 : szP Tryd.prog 136 = some (false, 1) := id rfl
@[go_sem] theorem a136 : arP Tryd.prog 136 = none := id rfl
@[go_sem] theorem un136 : (Tryd.prog.underlying 136).isSome = true := id rfl
@[go_sem] theorem i136 : intT Tryd.prog 136 = some .u8 := id rfl
theorem zt136 : zeroT Tryd.prog 136 = some (.s (.int .u8 0)) := id rfl
@[go_sem] theorem zr136 : zeroP Tryd.prog 136 = some [.s (.int .u8 0)] := id rfl
@[go_sem] theorem z138 : szP Tryd.prog 138 = some (false, 1) := id rfl
@[go_sem] theorem a138 : arP Tryd.prog 138 = none := id rfl
@[go_sem] theorem s138 : isPtrT Tryd.prog 138 = true := id rfl
theorem zt138 : zeroT Tryd.prog 138 = some (.s (.pointer none)) := id rfl
@[go_sem] theorem zr138 : zeroP Tryd.prog 138 = some [.s (.pointer none)] := id rfl
@[go_sem] theorem z139 : szP Tryd.prog 139 = some (false, 1) := id rfl
@[go_sem] theorem a139 : arP Tryd.prog 139 = none := id rfl
@[go_sem] theorem un139 : (Tryd.prog.underlying 139).isSome = true := id rfl
@[go_sem] theorem i139 : intT Tryd.prog 139 = some .i32 := id rfl
theorem zt139 : zeroT Tryd.prog 139 = some (.s (.int .i32 0)) := id rfl
@[go_sem] theorem zr139 : zeroP Tryd.prog 139 = some [.s (.int .i32 0)] := id rfl
@[go_sem] theorem z140 : szP Tryd.prog 140 = some (false, 1) := id rfl
@[go_sem] theorem a140 : arP Tryd.prog 140 = none := id rfl
@[go_sem] theorem un140 : (Tryd.prog.underlying 140).isSome = true := id rfl
@[go_sem] theorem i140 : intT Tryd.prog 140 = some .i32 := id rfl
theorem zt140 : zeroT Tryd.prog 140 = some (.s (.int .i32 0)) := id rfl
@[go_sem] theorem zr140 : zeroP Tryd.prog 140 = some [.s (.int .i32 0)] := id rfl
@[go_sem] theorem z141 : szP Tryd.prog 141 = some (true, 11) := id rfl
@[go_sem] theorem a141 : arP Tryd.prog 141 = none := id rfl
@[go_sem] theorem f141_0 : fldP Tryd.prog 141 0 = some (0, false, 1) := id rfl
@[go_sem] theorem pl141_0 : placeP Tryd.prog 141 0 = some (0, 1) := id rfl
@[go_sem] theorem f141_1 : fldP Tryd.prog 141 1 = some (1, false, 1) := id rfl
@[go_sem] theorem pl141_1 : placeP Tryd.prog 141 1 = some (1, 1) := id rfl
@[go_sem] theorem f141_2 : fldP Tryd.prog 141 2 = some (2, false, 1) := id rfl
@[go_sem] theorem pl141_2 : placeP Tryd.prog 141 2 = some (2, 1) := id rfl
@[go_sem] theorem f141_3 : fldP Tryd.prog 141 3 = some (3, false, 1) := id rfl
@[go_sem] theorem pl141_3 : placeP Tryd.prog 141 3 = some (3, 1) := id rfl
@[go_sem] theorem f141_4 : fldP Tryd.prog 141 4 = some (4, false, 1) := id rfl
@[go_sem] theorem pl141_4 : placeP Tryd.prog 141 4 = some (4, 1) := id rfl
@[go_sem] theorem f141_5 : fldP Tryd.prog 141 5 = some (5, false, 1) := id rfl
@[go_sem] theorem pl141_5 : placeP Tryd.prog 141 5 = some (5, 1) := id rfl
@[go_sem] theorem f141_6 : fldP Tryd.prog 141 6 = some (6, false, 1) := id rfl
@[go_sem] theorem pl141_6 : placeP Tryd.prog 141 6 = some (6, 1) := id rfl
@[go_sem] theorem f141_7 : fldP Tryd.prog 141 7 = some (7, false, 1) := id rfl
@[go_sem] theorem pl141_7 : placeP Tryd.prog 141 7 = some (7, 1) := id rfl
@[go_sem] theorem f141_8 : fldP Tryd.prog 141 8 = some (8, false, 1) := id rfl
@[go_sem] theorem pl141_8 : placeP Tryd.prog 141 8 = some (8, 1) := id rfl
@[go_sem] theorem f141_9 : fldP Tryd.prog 141 9 = some (9, false, 1) := id rfl
@[go_sem] theorem pl141_9 : placeP Tryd.prog 141 9 = some (9, 1) := id rfl
@[go_sem] theorem f141_10 : fldP Tryd.prog 141 10 = some (10, false, 1) := id rfl
@[go_sem] theorem pl141_10 : placeP Tryd.prog 141 10 = some (10, 1) := id rfl
@[go_sem] theorem sd141 : sized Tryd.prog 141 = true := id rfl
theorem zt141 : zeroT Tryd.prog 141 = some (.agg [.s (.int .u64 0), .s (.int .u64 0), .s (.int .u32 0), .s (.int .u8 0), .s (.int .u8 0), .s (.int .u8 0), .s (.int .u8 0), .s .nilFunc, .s (.pointer none), .s (.int .i32 0), .s (.int .i32 0)]) := id rfl
@[go_sem] theorem zr141 : zeroP Tryd.prog 141 = some [.s (.int .u64 0), .s (.int .u64 0), .s (.int .u32 0), .s (.int .u8 0), .s (.int .u8 0), .s (.int .u8 0), .s (.int .u8 0), .s .nilFunc, .s (.pointer none), .s (.int .i32 0), .s (.int .i32 0)] := id rfl
@[go_sem] theorem z142 : szP Tryd.prog 142 = some (true, 11) := id rfl
@[go_sem] theorem a142 : arP Tryd.prog 142 = none := id rfl
@[go_sem] theorem f142_0 : fldP Tryd.prog 142 0 = some (0, false, 1) := id rfl
@[go_sem] theorem pl142_0 : placeP Tryd.prog 142 0 = some (0, 1) := id rfl
@[go_sem] theorem f142_1 : fldP Tryd.prog 142 1 = some (1, false, 1) := id rfl
@[go_sem] theorem pl142_1 : placeP Tryd.prog 142 1 = some (1, 1) := id rfl
@[go_sem] theorem f142_2 : fldP Tryd.prog 142 2 = some (2, false, 1) := id rfl
@[go_sem] theorem pl142_2 : placeP Tryd.prog 142 2 = some (2, 1) := id rfl
@[go_sem] theorem f142_3 : fldP Tryd.prog 142 3 = some (3, false, 1) := id rfl
@[go_sem] theorem pl142_3 : placeP Tryd.prog 142 3 = some (3, 1) := id rfl
@[go_sem] theorem f142_4 : fldP Tryd.prog 142 4 = some (4, false, 1) := id rfl
@[go_sem] theorem pl142_4 : placeP Tryd.prog 142 4 = some (4, 1) := id rfl
@[go_sem] theorem f142_5 : fldP Tryd.prog 142 5 = some (5, false, 1) := id rfl
@[go_sem] theorem pl142_5 : placeP Tryd.prog 142 5 = some (5, 1) := id rfl
@[go_sem] theorem f142_6 : fldP Tryd.prog 142 6 = some (6, false, 1) := id rfl
@[go_sem] theorem pl142_6 : placeP Tryd.prog 142 6 = some (6, 1) := id rfl
@[go_sem] theorem f142_7 : fldP Tryd.prog 142 7 = some (7, false, 1) := id rfl
@[go_sem] theorem pl142_7 : placeP Tryd.prog 142 7 = some (7, 1) := id rfl
@[go_sem] theorem f142_8 : fldP Tryd.prog 142 8 = some (8, false, 1) := id rfl
@[go_sem] theorem pl142_8 : placeP Tryd.prog 142 8 = some (8, 1) := id rfl
@[go_sem] theorem f142_9 : fldP Tryd.prog 142 9 = some (9, false, 1) := id rfl
@[go_sem] theorem pl142_9 : placeP Tryd.prog 142 9 = some (9, 1) := id rfl
@[go_sem] theorem f142_10 : fldP Tryd.prog 142 10 = some (10, false, 1) := id rfl
@[go_sem] theorem pl142_10 : placeP Tryd.prog 142 10 = some (10, 1) := id rfl
@[go_sem] theorem sd142 : sized Tryd.prog 142 = true := id rfl
theorem zt142 : zeroT Tryd.prog 142 = some (.agg [.s (.int .u64 0), .s (.int .u64 0), .s (.int .u32 0), .s (.int .u8 0), .s (.int .u8 0), .s (.int .u8 0), .s (.int .u8 0), .s .nilFunc, .s (.pointer none), .s (.int .i32 0), .s (.int .i32 0)]) := id rfl
@[go_sem] theorem zr142 : zeroP Tryd.prog 142 = some [.s (.int .u64 0), .s (.int .u64 0), .s (.int .u32 0), .s (.int .u8 0), .s (.int .u8 0), .s (.int .u8 0), .s (.int .u8 0), .s .nilFunc, .s (.pointer none), .s (.int .i32 0), .s (.int .i32 0)] := id rfl
@[go_sem] theorem z143 : szP Tryd.prog 143 = some (false, 1) := id rfl
@[go_sem] theorem a143 : arP Tryd.prog 143 = none := id rfl
theorem zt143 : zeroT Tryd.prog 143 = some (.s (.pointer none)) := id rfl
@[go_sem] theorem zr143 : zeroP Tryd.prog 143 = some [.s (.pointer none)] := id rfl
end Go.Abs
