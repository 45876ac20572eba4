import Derived.Test.YtoeplpkmjfecgaaGreatDoorAb29
import Derived.Test.YtoeplpkmjfecgaaGreatDoorProg
namespace Go.Abs
set_option linter.unusedSimpArgs false
set_option linter.unusedVariables false
set_option maxRecDepth 20000
open Go.Proofs
@[go_sem] theorem z2 : szP Tryz.prog 2 = some (false, 1) := id rfl
@[go_sem] theorem a2 : arP Tryz.prog 2 = none := id rfl
@[go_sem] theorem un2 : (Tryz.prog.underlying 2).isSome = true := id rfl
@[go_sem] theorem i2 : intT Tryz.prog 2 = some .i64 := id rfl
theorem zt2 : zeroT Tryz.prog 2 = some (.s (.int .i64 0)) := id rfl
@[go_sem] theorem zr2 : zeroP Tryz.prog 2 = some [.s (.int .i64 0)] := id rfl
@[go_sem] theorem z3 : szP Tryz.prog 3 = some (false, 1) := id rfl
@[go_sem] theorem a3 : arP Tryz.prog 3 = none := id rfl
@[go_sem] theorem un3 : (Tryz.prog.underlying 3).isSome = true := id rfl
@[go_sem] theorem i3 : intT Tryz.prog 3 = some .i64 := id rfl
theorem zt3 : zeroT Tryz.prog 3 = some (.s (.int .i64 0)) := id rfl
@[go_sem] theorem zr3 : zeroP Tryz.prog 3 = some [.s (.int .i64 0)] := id rfl
@[go_sem] theorem z4 : szP Tryz.prog 4 = some (false, 1) := id rfl
@[go_sem] theorem a4 : arP Tryz.prog 4 = none := id rfl
@[go_sem] theorem s4 : isBoolT Tryz.prog 4 = true := id rfl
theorem zt4 : zeroT Tryz.prog 4 = some (.s (.bool false)) := id rfl
@[go_sem] theorem zr4 : zeroP Tryz.prog 4 = some [.s (.bool false)] := id rfl
@[go_sem] theorem z5 : szP Tryz.prog 5 = some (false, 1) := id rfl
@[go_sem] theorem a5 : arP Tryz.prog 5 = none := id rfl
@[go_sem] theorem un5 : (Tryz.prog.underlying 5).isSome = true := id rfl
@[go_sem] theorem i5 : intT Tryz.prog 5 = some .u8 := id rfl
theorem zt5 : zeroT Tryz.prog 5 = some (.s (.int .u8 0)) := id rfl
@[go_sem] theorem zr5 : zeroP Tryz.prog 5 = some [.s (.int .u8 0)] := id rfl
@[go_sem] theorem z6 : szP Tryz.prog 6 = some (false, 1) := id rfl
@[go_sem] theorem a6 : arP Tryz.prog 6 = none := id rfl
@[go_sem] theorem un6 : (Tryz.prog.underlying 6).isSome = true := id rfl
@[go_sem] theorem i6 : intT Tryz.prog 6 = some .u8 := id rfl
theorem zt6 : zeroT Tryz.prog 6 = some (.s (.int .u8 0)) := id rfl
@[go_sem] theorem zr6 : zeroP Tryz.prog 6 = some [.s (.int .u8 0)] := id rfl
@[go_sem] theorem z7 : szP Tryz.prog 7 = some (true, 4) := id rfl
@[go_sem] theorem a7 : arP Tryz.prog 7 = none := id rfl
@[go_sem] theorem f7_0 : fldP Tryz.prog 7 0 = some (0, false, 1) := id rfl
@[go_sem] theorem pl7_0 : placeP Tryz.prog 7 0 = some (0, 1) := id rfl
@[go_sem] theorem f7_1 : fldP Tryz.prog 7 1 = some (1, false, 1) := id rfl
@[go_sem] theorem pl7_1 : placeP Tryz.prog 7 1 = some (1, 1) := id rfl
@[go_sem] theorem f7_2 : fldP Tryz.prog 7 2 = some (2, false, 1) := id rfl
@[go_sem] theorem pl7_2 : placeP Tryz.prog 7 2 = some (2, 1) := id rfl
@[go_sem] theorem f7_3 : fldP Tryz.prog 7 3 = some (3, false, 1) := id rfl
@[go_sem] theorem pl7_3 : placeP Tryz.prog 7 3 = some (3, 1) := id rfl
@[go_sem] theorem sd7 : sized Tryz.prog 7 = true := id rfl
theorem zt7 : zeroT Tryz.prog 7 = some (.agg [.s (.int .i64 0), .s (.int .i64 0), .s (.bool false), .s (.int .u8 0)]) := id rfl
@[go_sem] theorem zr7 : zeroP Tryz.prog 7 = some [.s (.int .i64 0), .s (.int .i64 0), .s (.bool false), .s (.int .u8 0)] := id rfl
@[go_sem] theorem z8 : szP Tryz.prog 8 = some (true, 4) := id rfl
@[go_sem] theorem a8 : arP Tryz.prog 8 = none := id rfl
@[go_sem] theorem f8_0 : fldP Tryz.prog 8 0 = some (0, false, 1) := id rfl
@[go_sem] theorem pl8_0 : placeP Tryz.prog 8 0 = some (0, 1) := id rfl
@[go_sem] theorem f8_1 : fldP Tryz.prog 8 1 = some (1, false, 1) := id rfl
@[go_sem] theorem pl8_1 : placeP Tryz.prog 8 1 = some (1, 1) := id rfl
@[go_sem] theorem f8_2 : fldP Tryz.prog 8 2 = some (2, false, 1) := id rfl
@[go_sem] theorem pl8_2 : placeP Tryz.prog 8 2 = some (2, 1) := id rfl
@[go_sem] theorem f8_3 : fldP Tryz.prog 8 3 = some (3, false, 1) := id rfl
@[go_sem] theorem pl8_3 : placeP Tryz.prog 8 3 = some (3, 1) := id rfl
@[go_sem] theorem sd8 : sized Tryz.prog 8 = true := id rfl
theorem zt8 : zeroT Tryz.prog 8 = some (.agg [.s (.int .i64 0), .s (.int .i64 0), .s (.bool false), .s (.int .u8 0)]) := id rfl
@[go_sem] theorem zr8 : zeroP Tryz.prog 8 = some [.s (.int .i64 0), .s (.int .i64 0), .s (.bool false), .s (.int .u8 0)] := id rfl
@[go_sem] theorem z9 : szP Tryz.prog 9 = some (false, 1) := id rfl
@[go_sem] theorem a9 : arP Tryz.prog 9 = none := id rfl
@[go_sem] theorem s9 : isStr Tryz.prog 9 = true := id rfl
theorem zt9 : zeroT Tryz.prog 9 = some (.s (.string ByteArray.empty)) := id rfl
@[go_sem] theorem zr9 : zeroP Tryz.prog 9 = some [.s (.string ByteArray.empty)] := id rfl
@[go_sem] theorem z10 : szP Tryz.prog 10 = some (false, 1) := id rfl
@[go_sem] theorem a10 : arP Tryz.prog 10 = none := id rfl
@[go_sem] theorem s10 : isStr Tryz.prog 10 = true := id rfl
theorem zt10 : zeroT Tryz.prog 10 = some (.s (.string ByteArray.empty)) := id rfl
@[go_sem] theorem zr10 : zeroP Tryz.prog 10 = some [.s (.string ByteArray.empty)] := id rfl
@[go_sem] theorem z11 : szP Tryz.prog 11 = some (false, 1) := id rfl
@[go_sem] theorem a11 : arP Tryz.prog 11 = none := id rfl
@[go_sem] theorem s11 : isStr Tryz.prog 11 = true := id rfl
theorem zt11 : zeroT Tryz.prog 11 = some (.s (.string ByteArray.empty)) := id rfl
@[go_sem] theorem zr11 : zeroP Tryz.prog 11 = some [.s (.string ByteArray.empty)] := id rfl
@[go_sem] theorem z12 : szP Tryz.prog 12 = some (false, 1) := id rfl
@[go_sem] theorem a12 : arP Tryz.prog 12 = none := id rfl
@[go_sem] theorem un12 : (Tryz.prog.underlying 12).isSome = true := id rfl
@[go_sem] theorem i12 : intT Tryz.prog 12 = some .u64 := id rfl
theorem zt12 : zeroT Tryz.prog 12 = some (.s (.int .u64 0)) := id rfl
@[go_sem] theorem zr12 : zeroP Tryz.prog 12 = some [.s (.int .u64 0)] := id rfl
@[go_sem] theorem z13 : szP Tryz.prog 13 = some (true, 2) := id rfl
@[go_sem] theorem a13 : arP Tryz.prog 13 = none := id rfl
@[go_sem] theorem f13_0 : fldP Tryz.prog 13 0 = some (0, false, 1) := id rfl
@[go_sem] theorem pl13_0 : placeP Tryz.prog 13 0 = some (0, 1) := id rfl
@[go_sem] theorem f13_1 : fldP Tryz.prog 13 1 = some (1, false, 1) := id rfl
@[go_sem] theorem pl13_1 : placeP Tryz.prog 13 1 = some (1, 1) := id rfl
@[go_sem] theorem sd13 : sized Tryz.prog 13 = true := id rfl
theorem zt13 : zeroT Tryz.prog 13 = some (.agg [.s (.string ByteArray.empty), .s (.int .u64 0)]) := id rfl
@[go_sem] theorem zr13 : zeroP Tryz.prog 13 = some [.s (.string ByteArray.empty), .s (.int .u64 0)] := id rfl
@[go_sem] theorem z14 : szP Tryz.prog 14 = some (true, 2) := id rfl
@[go_sem] theorem a14 : arP Tryz.prog 14 = none := id rfl
@[go_sem] theorem f14_0 : fldP Tryz.prog 14 0 = some (0, false, 1) := id rfl
@[go_sem] theorem pl14_0 : placeP Tryz.prog 14 0 = some (0, 1) := id rfl
@[go_sem] theorem f14_1 : fldP Tryz.prog 14 1 = some (1, false, 1) := id rfl
@[go_sem] theorem pl14_1 : placeP Tryz.prog 14 1 = some (1, 1) := id rfl
@[go_sem] theorem sd14 : sized Tryz.prog 14 = true := id rfl
theorem zt14 : zeroT Tryz.prog 14 = some (.agg [.s (.string ByteArray.empty), .s (.int .u64 0)]) := id rfl
@[go_sem] theorem zr14 : zeroP Tryz.prog 14 = some [.s (.string ByteArray.empty), .s (.int .u64 0)] := id rfl
@[go_sem] theorem z15 : szP Tryz.prog 15 = some (false, 1) := id rfl
@[go_sem] theorem a15 : arP Tryz.prog 15 = none := id rfl
@[go_sem] theorem s15 : isPtrT Tryz.prog 15 = true := id rfl
theorem zt15 : zeroT Tryz.prog 15 = some (.s (.pointer none)) := id rfl
@[go_sem] theorem zr15 : zeroP Tryz.prog 15 = some [.s (.pointer none)] := id rfl
@[go_sem] theorem z16 : szP Tryz.prog 16 = some (false, 1) := id rfl
@[go_sem] theorem a16 : arP Tryz.prog 16 = none := id rfl
@[go_sem] theorem s16 : isPtrT Tryz.prog 16 = true := id rfl
theorem zt16 : zeroT Tryz.prog 16 = some (.s (.pointer none)) := id rfl
@[go_sem] theorem zr16 : zeroP Tryz.prog 16 = some [.s (.pointer none)] := id rfl
@[go_sem] theorem z17 : szP Tryz.prog 17 = some (false, 1) := id rfl
@[go_sem] theorem a17 : arP Tryz.prog 17 = none := id rfl
@[go_sem] theorem s17 : isPtrT Tryz.prog 17 = true := id rfl
theorem zt17 : zeroT Tryz.prog 17 = some (.s (.pointer none)) := id rfl
@[go_sem] theorem zr17 : zeroP Tryz.prog 17 = some [.s (.pointer none)] := id rfl
@[go_sem] theorem z18 : szP Tryz.prog 18 = some (true, 1) := id rfl
@[go_sem] theorem a18 : arP Tryz.prog 18 = none := id rfl
@[go_sem] theorem f18_0 : fldP Tryz.prog 18 0 = some (0, false, 1) := id rfl
@[go_sem] theorem pl18_0 : placeP Tryz.prog 18 0 = some (0, 1) := id rfl
@[go_sem] theorem sd18 : sized Tryz.prog 18 = true := id rfl
theorem zt18 : zeroT Tryz.prog 18 = some (.agg [.s (.pointer none)]) := id rfl
@[go_sem] theorem zr18 : zeroP Tryz.prog 18 = some [.s (.pointer none)] := id rfl
@[go_sem] theorem z19 : szP Tryz.prog 19 = some (true, 1) := id rfl
@[go_sem] theorem a19 : arP Tryz.prog 19 = none := id rfl
@[go_sem] theorem f19_0 : fldP Tryz.prog 19 0 = some (0, false, 1) := id rfl
@[go_sem] theorem pl19_0 : placeP Tryz.prog 19 0 = some (0, 1) := id rfl
@[go_sem] theorem sd19 : sized Tryz.prog 19 = true := id rfl
theorem zt19 : zeroT Tryz.prog 19 = some (.agg [.s (.pointer none)]) := id rfl
@[go_sem] theorem zr19 : zeroP Tryz.prog 19 = some [.s (.pointer none)] := id rfl
@[go_sem] theorem ii20 : isIfcT Tryz.prog 20 = true := id rfl
@[go_sem] theorem z21 : szP Tryz.prog 21 = some (false, 1) := id rfl
@[go_sem] theorem a21 : arP Tryz.prog 21 = none := id rfl
@[go_sem] theorem un21 : (Tryz.prog.underlying 21).isSome = true := id rfl
@[go_sem] theorem i21 : intT Tryz.prog 21 = some .i32 := id rfl
theorem zt21 : zeroT Tryz.prog 21 = some (.s (.int .i32 0)) := id rfl
@[go_sem] theorem zr21 : zeroP Tryz.prog 21 = some [.s (.int .i32 0)] := id rfl
@[go_sem] theorem z22 : szP Tryz.prog 22 = some (false, 1) := id rfl
@[go_sem] theorem a22 : arP Tryz.prog 22 = none := id rfl
@[go_sem] theorem un22 : (Tryz.prog.underlying 22).isSome = true := id rfl
@[go_sem] theorem i22 : intT Tryz.prog 22 = some .u8 := id rfl
theorem zt22 : zeroT Tryz.prog 22 = some (.s (.int .u8 0)) := id rfl
@[go_sem] theorem zr22 : zeroP Tryz.prog 22 = some [.s (.int .u8 0)] := id rfl
@[go_sem] theorem z23 : szP Tryz.prog 23 = some (true, 5) := id rfl
@[go_sem] theorem a23 : arP Tryz.prog 23 = none := id rfl
@[go_sem] theorem f23_0 : fldP Tryz.prog 23 0 = some (0, false, 1) := id rfl
@[go_sem] theorem pl23_0 : placeP Tryz.prog 23 0 = some (0, 1) := id rfl
@[go_sem] theorem f23_1 : fldP Tryz.prog 23 1 = some (1, false, 1) := id rfl
@[go_sem] theorem pl23_1 : placeP Tryz.prog 23 1 = some (1, 1) := id rfl
@[go_sem] theorem f23_2 : fldP Tryz.prog 23 2 = some (2, false, 1) := id rfl
@[go_sem] theorem pl23_2 : placeP Tryz.prog 23 2 = some (2, 1) := id rfl
@[go_sem] theorem f23_3 : fldP Tryz.prog 23 3 = some (3, false, 1) := id rfl
@[go_sem] theorem pl23_3 : placeP Tryz.prog 23 3 = some (3, 1) := id rfl
@[go_sem] theorem f23_4 : fldP Tryz.prog 23 4 = some (4, false, 1) := id rfl
@[go_sem] theorem pl23_4 : placeP Tryz.prog 23 4 = some (4, 1) := id rfl
@[go_sem] theorem sd23 : sized Tryz.prog 23 = true := id rfl
theorem zt23 : zeroT Tryz.prog 23 = some (.agg [.s (.int .u8 0), .s (.int .u8 0), .s (.int .u8 0), .s (.int .u8 0), .s (.int .i32 0)]) := id rfl
@[go_sem] theorem zr23 : zeroP Tryz.prog 23 = some [.s (.int .u8 0), .s (.int .u8 0), .s (.int .u8 0), .s (.int .u8 0), .s (.int .i32 0)] := id rfl
@[go_sem] theorem z24 : szP Tryz.prog 24 = some (true, 5) := id rfl
@[go_sem] theorem a24 : arP Tryz.prog 24 = none := id rfl
@[go_sem] theorem f24_0 : fldP Tryz.prog 24 0 = some (0, false, 1) := id rfl
@[go_sem] theorem pl24_0 : placeP Tryz.prog 24 0 = some (0, 1) := id rfl
@[go_sem] theorem f24_1 : fldP Tryz.prog 24 1 = some (1, false, 1) := id rfl
@[go_sem] theorem pl24_1 : placeP Tryz.prog 24 1 = some (1, 1) := id rfl
@[go_sem] theorem f24_2 : fldP Tryz.prog 24 2 = some (2, false, 1) := id rfl
@[go_sem] theorem pl24_2 : placeP Tryz.prog 24 2 = some (2, 1) := id rfl
@[go_sem] theorem f24_3 : fldP Tryz.prog 24 3 = some (3, false, 1) := id rfl
@[go_sem] theorem pl24_3 : placeP Tryz.prog 24 3 = some (3, 1) := id rfl
@[go_sem] theorem f24_4 : fldP Tryz.prog 24 4 = some (4, false, 1) := id rfl
@[go_sem] theorem pl24_4 : placeP Tryz.prog 24 4 = some (4, 1) := id rfl
@[go_sem] theorem sd24 : sized Tryz.prog 24 = true := id rfl
theorem zt24 : zeroT Tryz.prog 24 = some (.agg [.s (.int .u8 0), .s (.int .u8 0), .s (.int .u8 0), .s (.int .u8 0), .s (.int .i32 0)]) := id rfl
@[go_sem] theorem zr24 : zeroP Tryz.prog 24 = some [.s (.int .u8 0), .s (.int .u8 0), .s (.int .u8 0), .s (.int .u8 0), .s (.int .i32 0)] := id rfl
@[go_sem] theorem z25 : szP Tryz.prog 25 = some (false, 1) := id rfl
@[go_sem] theorem a25 : arP Tryz.prog 25 = none := id rfl
@[go_sem] theorem un25 : (Tryz.prog.underlying 25).isSome = true := id rfl
@[go_sem] theorem i25 : intT Tryz.prog 25 = some .i64 := id rfl
theorem zt25 : zeroT Tryz.prog 25 = some (.s (.int .i64 0)) := id rfl
@[go_sem] theorem zr25 : zeroP Tryz.prog 25 = some [.s (.int .i64 0)] := id rfl
@[go_sem] theorem z38 : szP Tryz.prog 38 = some (false, 1) := id rfl
@[go_sem] theorem a38 : arP Tryz.prog 38 = none := id rfl
@[go_sem] theorem e38 : elP Tryz.prog 38 = some 1 := id rfl
@[go_sem] theorem nb38 : nilOk Tryz.prog 38 = true := id rfl
theorem us38 : Tryz.prog.underlying 38 = some (.slice 57) := id rfl
theorem ap38 : apP Tryz.prog 38 = some (1, 4) := id rfl
theorem zt38 : zeroT Tryz.prog 38 = some (.nils) := id rfl
@[go_sem] theorem zr38 : zeroP Tryz.prog 38 = some [.nils] := id rfl
@[go_sem] theorem z46 : szP Tryz.prog 46 = some (false, 1) := id rfl
@[go_sem] theorem a46 : arP Tryz.prog 46 = none := id rfl
@[go_sem] theorem e46 : elP Tryz.prog 46 = some 1 := id rfl
@[go_sem] theorem nb46 : nilOk Tryz.prog 46 = true := id rfl
theorem us46 : Tryz.prog.underlying 46 = some (.slice 9) := id rfl
theorem ap46 : apP Tryz.prog 46 = some (1, 16) := id rfl
theorem zt46 : zeroT Tryz.prog 46 = some (.nils) := id rfl
@[go_sem] theorem zr46 : zeroP Tryz.prog 46 = some [.nils] := id rfl
@[go_sem] theorem z52 : szP Tryz.prog 52 = some (true, 4) := id rfl
@[go_sem] theorem a52 : arP Tryz.prog 52 = some (4, false, 1) := id rfl
@[go_sem] theorem sd52 : sized Tryz.prog 52 = true := id rfl
@[go_sem] theorem pl52 (i : Nat) : placeP Tryz.prog 52 i = some (i * 1, 1) := id rfl
theorem zt52 : zeroT Tryz.prog 52 = some (.agg [.s (.bool false), .s (.bool false), .s (.bool false), .s (.bool false)]) := id rfl
@[go_sem] theorem zr52 : zeroP Tryz.prog 52 = some [.s (.bool false), .s (.bool false), .s (.bool false), .s (.bool false)] := id rfl
@[go_sem] theorem z54 : szP Tryz.prog 54 = some (false, 1) := id rfl
@[go_sem] theorem a54 : arP Tryz.prog 54 = none := id rfl
@[go_sem] theorem e54 : elP Tryz.prog 54 = some 1 := id rfl
@[go_sem] theorem nb54 : nilOk Tryz.prog 54 = true := id rfl
theorem us54 : Tryz.prog.underlying 54 = some (.slice 5) := id rfl
theorem ap54 : apP Tryz.prog 54 = some (1, 1) := id rfl
theorem zt54 : zeroT Tryz.prog 54 = some (.nils) := id rfl
@[go_sem] theorem zr54 : zeroP Tryz.prog 54 = some [.nils] := id rfl
@[go_sem] theorem z56 : szP Tryz.prog 56 = some (true, 22) := id rfl
@[go_sem] theorem a56 : arP Tryz.prog 56 = some (22, false, 1) := id rfl
@[go_sem] theorem sd56 : sized Tryz.prog 56 = true := id rfl
@[go_sem] theorem pl56 (i : Nat) : placeP Tryz.prog 56 i = some (i * 1, 1) := id rfl
theorem zt56 : zeroT Tryz.prog 56 = some (.agg [.s (.string ByteArray.empty), .s (.string ByteArray.empty), .s (.string ByteArray.empty), .s (.string ByteArray.empty), .s (.string ByteArray.empty), .s (.string ByteArray.empty), .s (.string ByteArray.empty), .s (.string ByteArray.empty), .s (.string ByteArray.empty), .s (.string ByteArray.empty), .s (.string ByteArray.empty), .s (.string ByteArray.empty), .s (.string ByteArray.empty), .s (.string ByteArray.empty), .s (.string ByteArray.empty), .s (.string ByteArray.empty), .s (.string ByteArray.empty), .s (.string ByteArray.empty), .s (.string ByteArray.empty), .s (.string ByteArray.empty), .s (.string ByteArray.empty), .s (.string ByteArray.empty)]) := id rfl
@[go_sem] theorem zr56 : zeroP Tryz.prog 56 = some [.s (.string ByteArray.empty), .s (.string ByteArray.empty), .s (.string ByteArray.empty), .s (.string ByteArray.empty), .s (.string ByteArray.empty), .s (.string ByteArray.empty), .s (.string ByteArray.empty), .s (.string ByteArray.empty), .s (.string ByteArray.empty), .s (.string ByteArray.empty), .s (.string ByteArray.empty), .s (.string ByteArray.empty), .s (.string ByteArray.empty), .s (.string ByteArray.empty), .s (.string ByteArray.empty), .s (.string ByteArray.empty), .s (.string ByteArray.empty), .s (.string ByteArray.empty), .s (.string ByteArray.empty), .s (.string ByteArray.empty), .s (.string ByteArray.empty), .s (.string ByteArray.empty)] := id rfl
@[go_sem] theorem z57 : szP Tryz.prog 57 = some (false, 1) := id rfl
@[go_sem] theorem a57 : arP Tryz.prog 57 = none := id rfl
@[go_sem] theorem un57 : (Tryz.prog.underlying 57).isSome = true := id rfl
@[go_sem] theorem i57 : intT Tryz.prog 57 = some .u32 := id rfl
theorem zt57 : zeroT Tryz.prog 57 = some (.s (.int .u32 0)) := id rfl
@[go_sem] theorem zr57 : zeroP Tryz.prog 57 = some [.s (.int .u32 0)] := id rfl
@[go_sem] theorem z62 : szP Tryz.prog 62 = some (true, 3) := id rfl
@[go_sem] theorem a62 : arP Tryz.prog 62 = some (3, false, 1) := id rfl
@[go_sem] theorem sd62 : sized Tryz.prog 62 = true := id rfl
@[go_sem] theorem pl62 (i : Nat) : placeP Tryz.prog 62 i = some (i * 1, 1) := id rfl
theorem zt62 : zeroT Tryz.prog 62 = some (.agg [.s (.int .u8 0), .s (.int .u8 0), .s (.int .u8 0)]) := id rfl
@[go_sem] theorem zr62 : zeroP Tryz.prog 62 = some [.s (.int .u8 0), .s (.int .u8 0), .s (.int .u8 0)] := id rfl
@[go_sem] theorem z64 : szP Tryz.prog 64 = some (false, 1) := id rfl
@[go_sem] theorem a64 : arP Tryz.prog 64 = none := id rfl
@[go_sem] theorem s64 : isPtrT Tryz.prog 64 = true := id rfl
theorem zt64 : zeroT Tryz.prog 64 = some (.s (.pointer none)) := id rfl
@[go_sem] theorem zr64 : zeroP Tryz.prog 64 = some [.s (.pointer none)] := id rfl
@[go_sem] theorem z65 : szP Tryz.prog 65 = some (true, 2) := id rfl
@[go_sem] theorem a65 : arP Tryz.prog 65 = none := id rfl
@[go_sem] theorem f65_0 : fldP Tryz.prog 65 0 = some (0, false, 1) := id rfl
@[go_sem] theorem pl65_0 : placeP Tryz.prog 65 0 = some (0, 1) := id rfl
@[go_sem] theorem f65_1 : fldP Tryz.prog 65 1 = some (1, false, 1) := id rfl
@[go_sem] theorem pl65_1 : placeP Tryz.prog 65 1 = some (1, 1) := id rfl
@[go_sem] theorem sd65 : sized Tryz.prog 65 = true := id rfl
theorem zt65 : zeroT Tryz.prog 65 = some (.agg [.s (.pointer none), .nils]) := id rfl
@[go_sem] theorem zr65 : zeroP Tryz.prog 65 = some [.s (.pointer none), .nils] := id rfl
@[go_sem] theorem z66 : szP Tryz.prog 66 = some (true, 2) := id rfl
@[go_sem] theorem a66 : arP Tryz.prog 66 = none := id rfl
@[go_sem] theorem f66_0 : fldP Tryz.prog 66 0 = some (0, false, 1) := id rfl
@[go_sem] theorem pl66_0 : placeP Tryz.prog 66 0 = some (0, 1) := id rfl
@[go_sem] theorem f66_1 : fldP Tryz.prog 66 1 = some (1, false, 1) := id rfl
@[go_sem] theorem pl66_1 : placeP Tryz.prog 66 1 = some (1, 1) := id rfl
@[go_sem] theorem sd66 : sized Tryz.prog 66 = true := id rfl
theorem zt66 : zeroT Tryz.prog 66 = some (.agg [.s (.pointer none), .nils]) := id rfl
@[go_sem] theorem zr66 : zeroP Tryz.prog 66 = some [.s (.pointer none), .nils] := id rfl
@[go_sem] theorem ii69 : isIfcT Tryz.prog 69 = true := id rfl
@[go_sem] theorem ii70 : isIfcT Tryz.prog 70 = true := id rfl
@[go_sem] theorem z83 : szP Tryz.prog 83 = some (false, 1) := id rfl
@[go_sem] theorem a83 : arP Tryz.prog 83 = none := id rfl
@[go_sem] theorem s83 : isPtrT Tryz.prog 83 = true := id rfl
theorem zt83 : zeroT Tryz.prog 83 = some (.s (.pointer none)) := id rfl
@[go_sem] theorem zr83 : zeroP Tryz.prog 83 = some [.s (.pointer none)] := id rfl
@[go_sem] theorem z92 : szP Tryz.prog 92 = some (false, 1) := id rfl
@[go_sem] theorem a92 : arP Tryz.prog 92 = none := id rfl
@[go_sem] theorem un92 : (Tryz.prog.underlying 92).isSome = true := id rfl
@[go_sem] theorem i92 : intT Tryz.prog 92 = some .u64 := id rfl
theorem zt92 : zeroT Tryz.prog 92 = some (.s (.int .u64 0)) := id rfl
@[go_sem] theorem zr92 : zeroP Tryz.prog 92 = some [.s (.int .u64 0)] := id rfl
@[go_sem] theorem z108 : szP Tryz.prog 108 = some (false, 1) := id rfl
@[go_sem] theorem a108 : arP Tryz.prog 108 = none := id rfl
theorem zt108 : zeroT Tryz.prog 108 = some (.s (.pointer none)) := id rfl
@[go_sem] theorem zr108 : zeroP Tryz.prog 108 = some [.s (.pointer none)] := id rfl
@[go_sem] theorem z112 : szP Tryz.prog 112 = some (true, 256) := id rfl
@[go_sem] theorem a112 : arP Tryz.prog 112 = some (256, false, 1) := id rfl
@[go_sem] theorem sd112 : sized Tryz.prog 112 = true := id rfl
@[go_sem] theorem pl112 (i : Nat) : placeP Tryz.prog 112 i = some (i * 1, 1) := id rfl
@[go_sem] theorem z113 : szP Tryz.prog 113 = some (true, 256) := id rfl
@[go_sem] theorem a113 : arP Tryz.prog 113 = some (256, false, 1) := id rfl
@[go_sem] theorem sd113 : sized Tryz.prog 113 = true := id rfl
@[go_sem] theorem pl113 (i : Nat) : placeP Tryz.prog 113 i = some (i * 1, 1) := id rfl
@[go_sem] theorem z117 : szP Tryz.prog 117 = some (false, 1) := id rfl
@[go_sem] theorem a117 : arP Tryz.prog 117 = none := id rfl
@[go_sem] theorem s117 : isPtrT Tryz.prog 117 = true := id rfl
theorem zt117 : zeroT Tryz.prog 117 = some (.s (.pointer none)) := id rfl
@[go_sem] theorem zr117 : zeroP Tryz.prog 117 = some [.s (.pointer none)] := id rfl
@[go_sem] theorem z118 : szP Tryz.prog 118 = some (true, 24) := id rfl
@[go_sem] theorem a118 : arP Tryz.prog 118 = some (24, false, 1) := id rfl
@[go_sem] theorem sd118 : sized Tryz.prog 118 = true := id rfl
@[go_sem] theorem pl118 (i : Nat) : placeP Tryz.prog 118 i = some (i * 1, 1) := id rfl
theorem zt118 : zeroT Tryz.prog 118 = some (.agg [.s (.int .u8 0), .s (.int .u8 0), .s (.int .u8 0), .s (.int .u8 0), .s (.int .u8 0), .s (.int .u8 0), .s (.int .u8 0), .s (.int .u8 0), .s (.int .u8 0), .s (.int .u8 0), .s (.int .u8 0), .s (.int .u8 0), .s (.int .u8 0), .s (.int .u8 0), .s (.int .u8 0), .s (.int .u8 0), .s (.int .u8 0), .s (.int .u8 0), .s (.int .u8 0), .s (.int .u8 0), .s (.int .u8 0), .s (.int .u8 0), .s (.int .u8 0), .s (.int .u8 0)]) := id rfl
@[go_sem] theorem zr118 : zeroP Tryz.prog 118 = some [.s (.int .u8 0), .s (.int .u8 0), .s (.int .u8 0), .s (.int .u8 0), .s (.int .u8 0), .s (.int .u8 0), .s (.int .u8 0), .s (.int .u8 0), .s (.int .u8 0), .s (.int .u8 0), .s (.int .u8 0), .s (.int .u8 0), .s (.int .u8 0), .s (.int .u8 0), .s (.int .u8 0), .s (.int .u8 0), .s (.int .u8 0), .s (.int .u8 0), .s (.int .u8 0), .s (.int .u8 0), .s (.int .u8 0), .s (.int .u8 0), .s (.int .u8 0), .s (.int .u8 0)] := id rfl
@[go_sem] theorem z119 : szP Tryz.prog 119 = some (false, 1) := id rfl
@[go_sem] theorem a119 : arP Tryz.prog 119 = none := id rfl
@[go_sem] theorem un119 : (Tryz.prog.underlying 119).isSome = true := id rfl
@[go_sem] theorem i119 : intT Tryz.prog 119 = some .u64 := id rfl
theorem zt119 : zeroT Tryz.prog 119 = some (.s (.int .u64 0)) := id rfl
@[go_sem] theorem zr119 : zeroP Tryz.prog 119 = some [.s (.int .u64 0)] := id rfl
@[go_sem] theorem z129 : szP Tryz.prog 129 = some (false, 1) := id rfl
@[go_sem] theorem a129 : arP Tryz.prog 129 = none := id rfl
@[go_sem] theorem un129 : (Tryz.prog.underlying 129).isSome = true := id rfl
@[go_sem] theorem i129 : intT Tryz.prog 129 = some .i64 := id rfl
theorem zt129 : zeroT Tryz.prog 129 = some (.s (.int .i64 0)) := id rfl
@[go_sem] theorem zr129 : zeroP Tryz.prog 129 = some [.s (.int .i64 0)] := id rfl
@[go_sem] theorem z132 : szP Tryz.prog 132 = some (false, 1) := id rfl
@[go_sem] theorem a132 : arP Tryz.prog 132 = none := id rfl
@[go_sem] theorem s132 : isPtrT Tryz.prog 132 = true := id rfl
theorem zt132 : zeroT Tryz.prog 132 = some (.s (.pointer none)) := id rfl
@[go_sem] theorem zr132 : zeroP Tryz.prog 132 = some [.s (.pointer none)] := id rfl
@[go_sem] theorem z139 : szP Tryz.prog 139 = some (true, 20) := id rfl
@[go_sem] theorem a139 : arP Tryz.prog 139 = some (20, false, 1) := id rfl
@[go_sem] theorem sd139 : sized Tryz.prog 139 = true := id rfl
@[go_sem] theorem pl139 (i : Nat) : placeP Tryz.prog 139 i = some (i * 1, 1) := id rfl
theorem zt139 : zeroT Tryz.prog 139 = some (.agg [.s (.int .u64 0), .s (.int .u64 0), .s (.int .u64 0), .s (.int .u64 0), .s (.int .u64 0), .s (.int .u64 0), .s (.int .u64 0), .s (.int .u64 0), .s (.int .u64 0), .s (.int .u64 0), .s (.int .u64 0), .s (.int .u64 0), .s (.int .u64 0), .s (.int .u64 0), .s (.int .u64 0), .s (.int .u64 0), .s (.int .u64 0), .s (.int .u64 0), .s (.int .u64 0), .s (.int .u64 0)]) := id rfl
@[go_sem] theorem zr139 : zeroP Tryz.prog 139 = some [.s (.int .u64 0), .s (.int .u64 0), .s (.int .u64 0), .s (.int .u64 0), .s (.int .u64 0), .s (.int .u64 0), .s (.int .u64 0), .s (.int .u64 0), .s (.int .u64 0), .s (.int .u64 0), .s (.int .u64 0), .s (.int .u64 0), .s (.int .u64 0), .s (.int .u64 0), .s (.int .u64 0), .s (.int .u64 0), .s (.int .u64 0), .s (.int .u64 0), .s (.int .u64 0), .s (.int .u64 0)] := id rfl
@[go_sem] theorem z140 : szP Tryz.prog 140 = some (true, 65) := id rfl
@[go_sem] theorem a140 : arP Tryz.prog 140 = some (65, false, 1) := id rfl
@[go_sem] theorem sd140 : sized Tryz.prog 140 = true := id rfl
@[go_sem] theorem pl140 (i : Nat) : placeP Tryz.prog 140 i = some (i * 1, 1) := id rfl
@[go_sem] theorem z145 : szP Tryz.prog 145 = some (true, 3) := id rfl
@[go_sem] theorem a145 : arP Tryz.prog 145 = none := id rfl
@[go_sem] theorem f145_0 : fldP Tryz.prog 145 0 = some (0, false, 1) := id rfl
@[go_sem] theorem pl145_0 : placeP Tryz.prog 145 0 = some (0, 1) := id rfl
@[go_sem] theorem f145_1 : fldP Tryz.prog 145 1 = some (1, false, 1) := id rfl
@[go_sem] theorem pl145_1 : placeP Tryz.prog 145 1 = some (1, 1) := id rfl
@[go_sem] theorem f145_2 : fldP Tryz.prog 145 2 = some (2, false, 1) := id rfl
@[go_sem] theorem pl145_2 : placeP Tryz.prog 145 2 = some (2, 1) := id rfl
@[go_sem] theorem sd145 : sized Tryz.prog 145 = true := id rfl
theorem zt145 : zeroT Tryz.prog 145 = some (.agg [.s (.string ByteArray.empty), .s (.string ByteArray.empty), .s .nilIface]) := id rfl
@[go_sem] theorem zr145 : zeroP Tryz.prog 145 = some [.s (.string ByteArray.empty), .s (.string ByteArray.empty), .s .nilIface] := id rfl
@[go_sem] theorem z146 : szP Tryz.prog 146 = some (true, 3) := id rfl
@[go_sem] theorem a146 : arP Tryz.prog 146 = none := id rfl
@[go_sem] theorem f146_0 : fldP Tryz.prog 146 0 = some (0, false, 1) := id rfl
@[go_sem] theorem pl146_0 : placeP Tryz.prog 146 0 = some (0, 1) := id rfl
@[go_sem] theorem f146_1 : fldP Tryz.prog 146 1 = some (1, false, 1) := id rfl
@[go_sem] theorem pl146_1 : placeP Tryz.prog 146 1 = some (1, 1) := id rfl
@[go_sem] theorem f146_2 : fldP Tryz.prog 146 2 = some (2, false, 1) := id rfl
@[go_sem] theorem pl146_2 : placeP Tryz.prog 146 2 = some (2, 1) := id rfl
@[go_sem] theorem sd146 : sized Tryz.prog 146 = true := id rfl
theorem zt146 : zeroT Tryz.prog 146 = some (.agg [.s (.string ByteArray.empty), .s (.string ByteArray.empty), .s .nilIface]) := id rfl
@[go_sem] theorem zr146 : zeroP Tryz.prog 146 = some [.s (.string ByteArray.empty), .s (.string ByteArray.empty), .s .nilIface] := id rfl
@[go_sem] theorem z150 : szP Tryz.prog 150 = some (true, 256) := id rfl
@[go_sem] theorem a150 : arP Tryz.prog 150 = some (256, false, 1) := id rfl
@[go_sem] theorem sd150 : sized Tryz.prog 150 = true := id rfl
@[go_sem] theorem pl150 (i : Nat) : placeP Tryz.prog 150 i = some (i * 1, 1) := id rfl
@[go_sem] theorem z151 : szP Tryz.prog 151 = some (true, 2) := id rfl
@[go_sem] theorem a151 : arP Tryz.prog 151 = none := id rfl
@[go_sem] theorem f151_0 : fldP Tryz.prog 151 0 = some (0, false, 1) := id rfl
@[go_sem] theorem pl151_0 : placeP Tryz.prog 151 0 = some (0, 1) := id rfl
@[go_sem] theorem f151_1 : fldP Tryz.prog 151 1 = some (1, false, 1) := id rfl
@[go_sem] theorem pl151_1 : placeP Tryz.prog 151 1 = some (1, 1) := id rfl
@[go_sem] theorem sd151 : sized Tryz.prog 151 = true := id rfl
theorem zt151 : zeroT Tryz.prog 151 = some (.agg [.s (.int .u8 0), .s (.int .u8 0)]) := id rfl
@[go_sem] theorem zr151 : zeroP Tryz.prog 151 = some [.s (.int .u8 0), .s (.int .u8 0)] := id rfl
@[go_sem] theorem z152 : szP Tryz.prog 152 = some (true, 2) := id rfl
@[go_sem] theorem a152 : arP Tryz.prog 152 = none := id rfl
@[go_sem] theorem f152_0 : fldP Tryz.prog 152 0 = some (0, false, 1) := id rfl
@[go_sem] theorem pl152_0 : placeP Tryz.prog 152 0 = some (0, 1) := id rfl
@[go_sem] theorem f152_1 : fldP Tryz.prog 152 1 = some (1, false, 1) := id rfl
@[go_sem] theorem pl152_1 : placeP Tryz.prog 152 1 = some (1, 1) := id rfl
@[go_sem] theorem sd152 : sized Tryz.prog 152 = true := id rfl
theorem zt152 : zeroT Tryz.prog 152 = some (.agg [.s (.int .u8 0), .s (.int .u8 0)]) := id rfl
@[go_sem] theorem zr152 : zeroP Tryz.prog 152 = some [.s (.int .u8 0), .s (.int .u8 0)] := id rfl
@[go_sem] theorem z153 : szP Tryz.prog 153 = some (true, 32) := id rfl
@[go_sem] theorem a153 : arP Tryz.prog 153 = some (16, true, 2) := id rfl
@[go_sem] theorem sd153 : sized Tryz.prog 153 = true := id rfl
@[go_sem] theorem pl153 (i : Nat) : placeP Tryz.prog 153 i = some (i * 2, 2) := id rfl
theorem zt153 : zeroT Tryz.prog 153 = some (.agg [.s (.int .u8 0), .s (.int .u8 0), .s (.int .u8 0), .s (.int .u8 0), .s (.int .u8 0), .s (.int .u8 0), .s (.int .u8 0), .s (.int .u8 0), .s (.int .u8 0), .s (.int .u8 0), .s (.int .u8 0), .s (.int .u8 0), .s (.int .u8 0), .s (.int .u8 0), .s (.int .u8 0), .s (.int .u8 0), .s (.int .u8 0), .s (.int .u8 0), .s (.int .u8 0), .s (.int .u8 0), .s (.int .u8 0), .s (.int .u8 0), .s (.int .u8 0), .s (.int .u8 0), .s (.int .u8 0), .s (.int .u8 0), .s (.int .u8 0), .s (.int .u8 0), .s (.int .u8 0), .s (.int .u8 0), .s (.int .u8 0), .s (.int .u8 0)]) := id rfl
@[go_sem] theorem zr153 : zeroP Tryz.prog 153 = some [.s (.int .u8 0), .s (.int .u8 0), .s (.int .u8 0), .s (.int .u8 0), .s (.int .u8 0), .s (.int .u8 0), .s (.int .u8 0), .s (.int .u8 0), .s (.int .u8 0), .s (.int .u8 0), .s (.int .u8 0), .s (.int .u8 0), .s (.int .u8 0), .s (.int .u8 0), .s (.int .u8 0), .s (.int .u8 0), .s (.int .u8 0), .s (.int .u8 0), .s (.int .u8 0), .s (.int .u8 0), .s (.int .u8 0), .s (.int .u8 0), .s (.int .u8 0), .s (.int .u8 0), .s (.int .u8 0), .s (.int .u8 0), .s (.int .u8 0), .s (.int .u8 0), .s (.int .u8 0), .s (.int .u8 0), .s (.int .u8 0), .s (.int .u8 0)] := id rfl
@[go_sem] theorem z156 : szP Tryz.prog 156 = some (false, 1) := id rfl
@[go_sem] theorem a156 : arP Tryz.prog 156 = none := id rfl
@[go_sem] theorem s156 : isPtrT Tryz.prog 156 = true := id rfl
theorem zt156 : zeroT Tryz.prog 156 = some (.s (.pointer none)) := id rfl
@[go_sem] theorem zr156 : zeroP Tryz.prog 156 = some [.s (.pointer none)] := id rfl
@[go_sem] theorem z157 : szP Tryz.prog 157 = some (true, 1) := id rfl
@[go_sem] theorem a157 : arP Tryz.prog 157 = none := id rfl
@[go_sem] theorem f157_0 : fldP Tryz.prog 157 0 = some (0, false, 1) := id rfl
@[go_sem] theorem pl157_0 : placeP Tryz.prog 157 0 = some (0, 1) := id rfl
@[go_sem] theorem sd157 : sized Tryz.prog 157 = true := id rfl
theorem zt157 : zeroT Tryz.prog 157 = some (.agg [.s (.string ByteArray.empty)]) := id rfl
@[go_sem] theorem zr157 : zeroP Tryz.prog 157 = some [.s (.string ByteArray.empty)] := id rfl
@[go_sem] theorem z158 : szP Tryz.prog 158 = some (true, 1) := id rfl
@[go_sem] theorem a158 : arP Tryz.prog 158 = none := id rfl
@[go_sem] theorem f158_0 : fldP Tryz.prog 158 0 = some (0, false, 1) := id rfl
@[go_sem] theorem pl158_0 : placeP Tryz.prog 158 0 = some (0, 1) := id rfl
@[go_sem] theorem sd158 : sized Tryz.prog 158 = true := id rfl
theorem zt158 : zeroT Tryz.prog 158 = some (.agg [.s (.string ByteArray.empty)]) := id rfl
@[go_sem] theorem zr158 : zeroP Tryz.prog 158 = some [.s (.string ByteArray.empty)] := id rfl
@[go_sem] theorem z160 : szP Tryz.prog 160 = some (true, 32) := id rfl
@[go_sem] theorem a160 : arP Tryz.prog 160 = some (32, false, 1) := id rfl
@[go_sem] theorem sd160 : sized Tryz.prog 160 = true := id rfl
@[go_sem] theorem pl160 (i : Nat) : placeP Tryz.prog 160 i = some (i * 1, 1) := id rfl
theorem zt160 : zeroT Tryz.prog 160 = some (.agg [.s (.int .u8 0), .s (.int .u8 0), .s (.int .u8 0), .s (.int .u8 0), .s (.int .u8 0), .s (.int .u8 0), .s (.int .u8 0), .s (.int .u8 0), .s (.int .u8 0), .s (.int .u8 0), .s (.int .u8 0), .s (.int .u8 0), .s (.int .u8 0), .s (.int .u8 0), .s (.int .u8 0), .s (.int .u8 0), .s (.int .u8 0), .s (.int .u8 0), .s (.int .u8 0), .s (.int .u8 0), .s (.int .u8 0), .s (.int .u8 0), .s (.int .u8 0), .s (.int .u8 0), .s (.int .u8 0), .s (.int .u8 0), .s (.int .u8 0), .s (.int .u8 0), .s (.int .u8 0), .s (.int .u8 0), .s (.int .u8 0), .s (.int .u8 0)]) := id rfl
@[go_sem] theorem zr160 : zeroP Tryz.prog 160 = some [.s (.int .u8 0), .s (.int .u8 0), .s (.int .u8 0), .s (.int .u8 0), .s (.int .u8 0), .s (.int .u8 0), .s (.int .u8 0), .s (.int .u8 0), .s (.int .u8 0), .s (.int .u8 0), .s (.int .u8 0), .s (.int .u8 0), .s (.int .u8 0), .s (.int .u8 0), .s (.int .u8 0), .s (.int .u8 0), .s (.int .u8 0), .s (.int .u8 0), .s (.int .u8 0), .s (.int .u8 0), .s (.int .u8 0), .s (.int .u8 0), .s (.int .u8 0), .s (.int .u8 0), .s (.int .u8 0), .s (.int .u8 0), .s (.int .u8 0), .s (.int .u8 0), .s (.int .u8 0), .s (.int .u8 0), .s (.int .u8 0), .s (.int .u8 0)] := id rfl
@[go_sem] theorem z161 : szP Tryz.prog 161 = some (true, 64) := id rfl
@[go_sem] theorem a161 : arP Tryz.prog 161 = some (64, false, 1) := id rfl
@[go_sem] theorem sd161 : sized Tryz.prog 161 = true := id rfl
@[go_sem] theorem pl161 (i : Nat) : placeP Tryz.prog 161 i = some (i * 1, 1) := id rfl
theorem zt161 : zeroT Tryz.prog 161 = some (.agg [.s (.int .u8 0), .s (.int .u8 0), .s (.int .u8 0), .s (.int .u8 0), .s (.int .u8 0), .s (.int .u8 0), .s (.int .u8 0), .s (.int .u8 0), .s (.int .u8 0), .s (.int .u8 0), .s (.int .u8 0), .s (.int .u8 0), .s (.int .u8 0), .s (.int .u8 0), .s (.int .u8 0), .s (.int .u8 0), .s (.int .u8 0), .s (.int .u8 0), .s (.int .u8 0), .s (.int .u8 0), .s (.int .u8 0), .s (.int .u8 0), .s (.int .u8 0), .s (.int .u8 0), .s (.int .u8 0), .s (.int .u8 0), .s (.int .u8 0), .s (.int .u8 0), .s (.int .u8 0), .s (.int .u8 0), .s (.int .u8 0), .s (.int .u8 0), .s (.int .u8 0), .s (.int .u8 0), .s (.int .u8 0), .s (.int .u8 0), .s (.int .u8 0), .s (.int .u8 0), .s (.int .u8 0), .s (.int .u8 0), .s (.int .u8 0), .s (.int .u8 0), .s (.int .u8 0), .s (.int .u8 0), .s (.int .u8 0), .s (.int .u8 0), .s (.int .u8 0), .s (.int .u8 0), .s (.int .u8 0), .s (.int .u8 0), .s (.int .u8 0), .s (.int .u8 0), .s (.int .u8 0), .s (.int .u8 0), .s (.int .u8 0), .s (.int .u8 0), .s (.int .u8 0), .s (.int .u8 0), .s (.int .u8 0), .s (.int .u8 0), .s (.int .u8 0), .s (.int .u8 0), .s (.int .u8 0), .s (.int .u8 0)]) := id rfl
@[go_sem] theorem zr161 : zeroP Tryz.prog 161 = some [.s (.int .u8 0), .s (.int .u8 0), .s (.int .u8 0), .s (.int .u8 0), .s (.int .u8 0), .s (.int .u8 0), .s (.int .u8 0), .s (.int .u8 0), .s (.int .u8 0), .s (.int .u8 0), .s (.int .u8 0), .s (.int .u8 0), .s (.int .u8 0), .s (.int .u8 0), .s (.int .u8 0), .s (.int .u8 0), .s (.int .u8 0), .s (.int .u8 0), .s (.int .u8 0), .s (.int .u8 0), .s (.int .u8 0), .s (.int .u8 0), .s (.int .u8 0), .s (.int .u8 0), .s (.int .u8 0), .s (.int .u8 0), .s (.int .u8 0), .s (.int .u8 0), .s (.int .u8 0), .s (.int .u8 0), .s (.int .u8 0), .s (.int .u8 0), .s (.int .u8 0), .s (.int .u8 0), .s (.int .u8 0), .s (.int .u8 0), .s (.int .u8 0), .s (.int .u8 0), .s (.int .u8 0), .s (.int .u8 0), .s (.int .u8 0), .s (.int .u8 0), .s (.int .u8 0), .s (.int .u8 0), .s (.int .u8 0), .s (.int .u8 0), .s (.int .u8 0), .s (.int .u8 0), .s (.int .u8 0), .s (.int .u8 0), .s (.int .u8 0), .s (.int .u8 0), .s (.int .u8 0), .s (.int .u8 0), .s (.int .u8 0), .s (.int .u8 0), .s (.int .u8 0), .s (.int .u8 0), .s (.int .u8 0), .s (.int .u8 0), .s (.int .u8 0), .s (.int .u8 0), .s (.int .u8 0), .s (.int .u8 0)] := id rfl
@[go_sem] theorem z162 : szP Tryz.prog 162 = some (true, 4) := id rfl
@[go_sem] theorem a162 : arP Tryz.prog 162 = none := id rfl
@[go_sem] theorem f162_0 : fldP Tryz.prog 162 0 = some (0, false, 1) := id rfl
@[go_sem] theorem pl162_0 : placeP Tryz.prog 162 0 = some (0, 1) := id rfl
@[go_sem] theorem f162_1 : fldP Tryz.prog 162 1 = some (1, false, 1) := id rfl
@[go_sem] theorem pl162_1 : placeP Tryz.prog 162 1 = some (1, 1) := id rfl
@[go_sem] theorem f162_2 : fldP Tryz.prog 162 2 = some (2, false, 1) := id rfl
@[go_sem] theorem pl162_2 : placeP Tryz.prog 162 2 = some (2, 1) := id rfl
@[go_sem] theorem f162_3 : fldP Tryz.prog 162 3 = some (3, false, 1) := id rfl
@[go_sem] theorem pl162_3 : placeP Tryz.prog 162 3 = some (3, 1) := id rfl
@[go_sem] theorem sd162 : sized Tryz.prog 162 = true := id rfl
theorem zt162 : zeroT Tryz.prog 162 = some (.agg [.s (.pointer none), .s (.pointer none), .s (.pointer none), .s (.string ByteArray.empty)]) := id rfl
@[go_sem] theorem zr162 : zeroP Tryz.prog 162 = some [.s (.pointer none), .s (.pointer none), .s (.pointer none), .s (.string ByteArray.empty)] := id rfl
@[go_sem] theorem z163 : szP Tryz.prog 163 = some (true, 4) := id rfl
@[go_sem] theorem a163 : arP Tryz.prog 163 = none := id rfl
@[go_sem] theorem f163_0 : fldP Tryz.prog 163 0 = some (0, false, 1) := id rfl
@[go_sem] theorem pl163_0 : placeP Tryz.prog 163 0 = some (0, 1) := id rfl
@[go_sem] theorem f163_1 : fldP Tryz.prog 163 1 = some (1, false, 1) := id rfl
@[go_sem] theorem pl163_1 : placeP Tryz.prog 163 1 = some (1, 1) := id rfl
@[go_sem] theorem f163_2 : fldP Tryz.prog 163 2 = some (2, false, 1) := id rfl
@[go_sem] theorem pl163_2 : placeP Tryz.prog 163 2 = some (2, 1) := id rfl
@[go_sem] theorem f163_3 : fldP Tryz.prog 163 3 = some (3, false, 1) := id rfl
@[go_sem] theorem pl163_3 : placeP Tryz.prog 163 3 = some (3, 1) := id rfl
@[go_sem] theorem sd163 : sized Tryz.prog 163 = true := id rfl
theorem zt163 : zeroT Tryz.prog 163 = some (.agg [.s (.pointer none), .s (.pointer none), .s (.pointer none), .s (.string ByteArray.empty)]) := id rfl
@[go_sem] theorem zr163 : zeroP Tryz.prog 163 = some [.s (.pointer none), .s (.pointer none), .s (.pointer none), .s (.string ByteArray.empty)] := id rfl
@[go_sem] theorem z164 : szP Tryz.prog 164 = some (true, 0) := id rfl
@[go_sem] theorem a164 : arP Tryz.prog 164 = some (0, false, 1) := id rfl
@[go_sem] theorem sd164 : sized Tryz.prog 164 = true := id rfl
@[go_sem] theorem pl164 (i : Nat) : placeP Tryz.prog 164 i = some (i * 1, 1) := id rfl
theorem zt164 : zeroT Tryz.prog 164 = some (.agg []) := id rfl
@[go_sem] theorem zr164 : zeroP Tryz.prog 164 = some [] := id rfl
@[go_sem] theorem z165 : szP Tryz.prog 165 = some (true, 0) := id rfl
@[go_sem] theorem a165 : arP Tryz.prog 165 = none := id rfl
@[go_sem] theorem pl165_0 : placeP Tryz.prog 165 0 = some (0, 0) := id rfl
@[go_sem] theorem sd165 : sized Tryz.prog 165 = true := id rfl
theorem zt165 : zeroT Tryz.prog 165 = some (.agg []) := id rfl
@[go_sem] theorem zr165 : zeroP Tryz.prog 165 = some [] := id rfl
@[go_sem] theorem z166 : szP Tryz.prog 166 = some (true, 0) := id rfl
@[go_sem] theorem a166 : arP Tryz.prog 166 = none := id rfl
@[go_sem] theorem pl166_0 : placeP Tryz.prog 166 0 = some (0, 0) := id rfl
@[go_sem] theorem sd166 : sized Tryz.prog 166 = true := id rfl
theorem zt166 : zeroT Tryz.prog 166 = some (.agg []) := id rfl
@[go_sem] theorem zr166 : zeroP Tryz.prog 166 = some [] := id rfl
@[go_sem] theorem z168 : szP Tryz.prog 168 = some (false, 1) := id rfl
@[go_sem] theorem a168 : arP Tryz.prog 168 = none := id rfl
@[go_sem] theorem un168 : (Tryz.prog.underlying 168).isSome = true := id rfl
@[go_sem] theorem i168 : intT Tryz.prog 168 = some .u8 := id rfl
theorem zt168 : zeroT Tryz.prog 168 = some (.s (.int .u8 0)) := id rfl
@[go_sem] theorem zr168 : zeroP Tryz.prog 168 = some [.s (.int .u8 0)] := id rfl
@[go_sem] theorem z169 : szP Tryz.prog 169 = some (false, 1) := id rfl
@[go_sem] theorem a169 : arP Tryz.prog 169 = none := id rfl
@[go_sem] theorem un169 : (Tryz.prog.underlying 169).isSome = true := id rfl
@[go_sem] theorem i169 : intT Tryz.prog 169 = some .u8 := id rfl
theorem zt169 : zeroT Tryz.prog 169 = some (.s (.int .u8 0)) := id rfl
@[go_sem] theorem zr169 : zeroP Tryz.prog 169 = some [.s (.int .u8 0)] := id rfl
@[go_sem] theorem z171 : szP Tryz.prog 171 = some (false, 1) := id rfl
@[go_sem] theorem a171 : arP Tryz.prog 171 = none := id rfl
@[go_sem] theorem un171 : (Tryz.prog.underlying 171).isSome = true := id rfl
@[go_sem] theorem i171 : intT Tryz.prog 171 = some .i32 := id rfl
theorem zt171 : zeroT Tryz.prog 171 = some (.s (.int .i32 0)) := id rfl
@[go_sem] theorem zr171 : zeroP Tryz.prog 171 = some [.s (.int .i32 0)] := id rfl
@[go_sem] theorem z172 : szP Tryz.prog 172 = some (false, 1) := id rfl
@[go_sem] theorem a172 : arP Tryz.prog 172 = none := id rfl
@[go_sem] theorem un172 : (Tryz.prog.underlying 172).isSome = true := id rfl
@[go_sem] theorem i172 : intT Tryz.prog 172 = some .i32 := id rfl
theorem zt172 : zeroT Tryz.prog 172 = some (.s (.int .i32 0)) := id rfl
@[go_sem] theorem zr172 : zeroP Tryz.prog 172 = some [.s (.int .i32 0)] := id rfl
@[go_sem] theorem z173 : szP Tryz.prog 173 = some (true, 11) := id rfl
@[go_sem] theorem a173 : arP Tryz.prog 173 = none := id rfl
@[go_sem] theorem f173_0 : fldP Tryz.prog 173 0 = some (0, false, 1) := id rfl
@[go_sem] theorem pl173_0 : placeP Tryz.prog 173 0 = some (0, 1) := id rfl
@[go_sem] theorem f173_1 : fldP Tryz.prog 173 1 = some (1, false, 1) := id rfl
@[go_sem] theorem pl173_1 : placeP Tryz.prog 173 1 = some (1, 1) := id rfl
@[go_sem] theorem f173_2 : fldP Tryz.prog 173 2 = some (2, false, 1) := id rfl
@[go_sem] theorem pl173_2 : placeP Tryz.prog 173 2 = some (2, 1) := id rfl
@[go_sem] theorem f173_3 : fldP Tryz.prog 173 3 = some (3, false, 1) := id rfl
@[go_sem] theorem pl173_3 : placeP Tryz.prog 173 3 = some (3, 1) := id rfl
@[go_sem] theorem f173_4 : fldP Tryz.prog 173 4 = some (4, false, 1) := id rfl
@[go_sem] theorem pl173_4 : placeP Tryz.prog 173 4 = some (4, 1) := id rfl
@[go_sem] theorem f173_5 : fldP Tryz.prog 173 5 = some (5, false, 1) := id rfl
@[go_sem] theorem pl173_5 : placeP Tryz.prog 173 5 = some (5, 1) := id rfl
@[go_sem] theorem f173_6 : fldP Tryz.prog 173 6 = some (6, false, 1) := id rfl
@[go_sem] theorem pl173_6 : placeP Tryz.prog 173 6 = some (6, 1) := id rfl
@[go_sem] theorem f173_7 : fldP Tryz.prog 173 7 = some (7, false, 1) := id rfl
@[go_sem] theorem pl173_7 : placeP Tryz.prog 173 7 = some (7, 1) := id rfl
@[go_sem] theorem f173_8 : fldP Tryz.prog 173 8 = some (8, false, 1) := id rfl
@[go_sem] theorem pl173_8 : placeP Tryz.prog 173 8 = some (8, 1) := id rfl
@[go_sem] theorem f173_9 : fldP Tryz.prog 173 9 = some (9, false, 1) := id rfl
@[go_sem] theorem pl173_9 : placeP Tryz.prog 173 9 = some (9, 1) := id rfl
@[go_sem] theorem f173_10 : fldP Tryz.prog 173 10 = some (10, false, 1) := id rfl
@[go_sem] theorem pl173_10 : placeP Tryz.prog 173 10 = some (10, 1) := id rfl
@[go_sem] theorem sd173 : sized Tryz.prog 173 = true := id rfl
theorem zt173 : zeroT Tryz.prog 173 = some (.agg [.s (.int .u64 0), .s (.int .u64 0), .s (.int .u32 0), .s (.int .u8 0), .s (.int .u8 0), .s (.int .u8 0), .s (.int .u8 0), .s .nilFunc, .s (.pointer none), .s (.int .i32 0), .s (.int .i32 0)]) := id rfl
@[go_sem] theorem zr173 : zeroP Tryz.prog 173 = some [.s (.int .u64 0), .s (.int .u64 0), .s (.int .u32 0), .s (.int .u8 0), .s (.int .u8 0), .s (.int .u8 0), .s (.int .u8 0), .s .nilFunc, .s (.pointer none), .s (.int .i32 0), .s (.int .i32 0)] := id rfl
@[go_sem] theorem z174 : szP Tryz.prog 174 = some (true, 11) := id rfl
@[go_sem] theorem a174 : arP Tryz.prog 174 = none := id rfl
@[go_sem] theorem f174_0 : fldP Tryz.prog 174 0 = some (0, false, 1) := id rfl
@[go_sem] theorem pl174_0 : placeP Tryz.prog 174 0 = some (0, 1) := id rfl
@[go_sem] theorem f174_1 : fldP Tryz.prog 174 1 = some (1, false, 1) := id rfl
@[go_sem] theorem pl174_1 : placeP Tryz.prog 174 1 = some (1, 1) := id rfl
@[go_sem] theorem f174_2 : fldP Tryz.prog 174 2 = some (2, false, 1) := id rfl
@[go_sem] theorem pl174_2 : placeP Tryz.prog 174 2 = some (2, 1) := id rfl
@[go_sem] theorem f174_3 : fldP Tryz.prog 174 3 = some (3, false, 1) := id rfl
@[go_sem] theorem pl174_3 : placeP Tryz.prog 174 3 = some (3, 1) := id rfl
@[go_sem] theorem f174_4 : fldP Tryz.prog 174 4 = some (4, false, 1) := id rfl
@[go_sem] theorem pl174_4 : placeP Tryz.prog 174 4 = some (4, 1) := id rfl
@[go_sem] theorem f174_5 : fldP Tryz.prog 174 5 = some (5, false, 1) := id rfl
@[go_sem] theorem pl174_5 : placeP Tryz.prog 174 5 = some (5, 1) := id rfl
@[go_sem] theorem f174_6 : fldP Tryz.prog 174 6 = some (6, false, 1) := id rfl
@[go_sem] theorem pl174_6 : placeP Tryz.prog 174 6 = some (6, 1) := id rfl
@[go_sem] theorem f174_7 : fldP Tryz.prog 174 7 = some (7, false, 1) := id rfl
@[go_sem] theorem pl174_7 : placeP Tryz.prog 174 7 = some (7, 1) := id rfl
@[go_sem] theorem f174_8 : fldP Tryz.prog 174 8 = some (8, false, 1) := id rfl
@[go_sem] theorem pl174_8 : placeP Tryz.prog 174 8 = some (8, 1) := id rfl
@[go_sem] theorem f174_9 : fldP Tryz.prog 174 9 = some (9, false, 1) := id rfl
@[go_sem] theorem pl174_9 : placeP Tryz.prog 174 9 = some (9, 1) := id rfl
@[go_sem] theorem f174_10 : fldP Tryz.prog 174 10 = some (10, false, 1) := id rfl
@[go_sem] theorem pl174_10 : placeP Tryz.prog 174 10 = some (10, 1) := id rfl
@[go_sem] theorem sd174 : sized Tryz.prog 174 = true := id rfl
theorem zt174 : zeroT Tryz.prog 174 = some (.agg [.s (.int .u64 0), .s (.int .u64 0), .s (.int .u32 0), .s (.int .u8 0), .s (.int .u8 0), .s (.int .u8 0), .s (.int .u8 0), .s .nilFunc, .s (.pointer none), .s (.int .i32 0), .s (.int .i32 0)]) := id rfl
@[go_sem] theorem zr174 : zeroP Tryz.prog 174 = some [.s (.int .u64 0), .s (.int .u64 0), .s (.int .u32 0), .s (.int .u8 0), .s (.int .u8 0), .s (.int .u8 0), .s (.int .u8 0), .s .nilFunc, .s (.pointer none), .s (.int .i32 0), .s (.int .i32 0)] := id rfl
end Go.Abs
