import Derived.Test.YtlgmboaoemlnpaaDoorAb11
import Derived.Test.YtlgmboaoemlnpaaDoorProg
namespace Go.Abs
set_option linter.unusedSimpArgs false
set_option linter.unusedVariables false
open Go.Proofs
@[go_sem] theorem z2 : szP Tryd.prog 2 = some (false, 1) := id rfl
@[go_sem] theorem a2 : arP Tryd.prog 2 = none := id rfl
@[go_sem] theorem i2 : intT Tryd.prog 2 = some .i64 := id rfl
@[go_sem] theorem zr2 : zeroP Tryd.prog 2 = some [.s (.int .i64 0)] := id rfl
@[go_sem] theorem z3 : szP Tryd.prog 3 = some (false, 1) := id rfl
@[go_sem] theorem a3 : arP Tryd.prog 3 = none := id rfl
@[go_sem] theorem i3 : intT Tryd.prog 3 = some .i64 := id rfl
@[go_sem] theorem zr3 : zeroP Tryd.prog 3 = some [.s (.int .i64 0)] := id rfl
@[go_sem] theorem z4 : szP Tryd.prog 4 = some (false, 1) := id rfl
@[go_sem] theorem a4 : arP Tryd.prog 4 = none := id rfl
@[go_sem] theorem s4 : isBoolT Tryd.prog 4 = true := id rfl
@[go_sem] theorem zr4 : zeroP Tryd.prog 4 = some [.s (.bool false)] := id rfl
@[go_sem] theorem z5 : szP Tryd.prog 5 = some (false, 1) := id rfl
@[go_sem] theorem a5 : arP Tryd.prog 5 = none := id rfl
@[go_sem] theorem i5 : intT Tryd.prog 5 = some .u8 := id rfl
@[go_sem] theorem zr5 : zeroP Tryd.prog 5 = some [.s (.int .u8 0)] := id rfl
@[go_sem] theorem z6 : szP Tryd.prog 6 = some (false, 1) := id rfl
@[go_sem] theorem a6 : arP Tryd.prog 6 = none := id rfl
@[go_sem] theorem i6 : intT Tryd.prog 6 = some .u8 := id rfl
@[go_sem] theorem zr6 : zeroP Tryd.prog 6 = some [.s (.int .u8 0)] := id rfl
@[go_sem] theorem z7 : szP Tryd.prog 7 = some (true, 4) := id rfl
@[go_sem] theorem a7 : arP Tryd.prog 7 = none := id rfl
@[go_sem] theorem f7_0 : fldP Tryd.prog 7 0 = some (0, false, 1) := id rfl
@[go_sem] theorem pl7_0 : placeP Tryd.prog 7 0 = some (0, 1) := id rfl
@[go_sem] theorem f7_1 : fldP Tryd.prog 7 1 = some (1, false, 1) := id rfl
@[go_sem] theorem pl7_1 : placeP Tryd.prog 7 1 = some (1, 1) := id rfl
@[go_sem] theorem f7_2 : fldP Tryd.prog 7 2 = some (2, false, 1) := id rfl
@[go_sem] theorem pl7_2 : placeP Tryd.prog 7 2 = some (2, 1) := id rfl
@[go_sem] theorem f7_3 : fldP Tryd.prog 7 3 = some (3, false, 1) := id rfl
@[go_sem] theorem pl7_3 : placeP Tryd.prog 7 3 = some (3, 1) := id rfl
@[go_sem] theorem sd7 : sized Tryd.prog 7 = true := id rfl
@[go_sem] theorem zr7 : zeroP Tryd.prog 7 = some [.s (.int .i64 0), .s (.int .i64 0), .s (.bool false), .s (.int .u8 0)] := id rfl
@[go_sem] theorem z8 : szP Tryd.prog 8 = some (true, 4) := id rfl
@[go_sem] theorem a8 : arP Tryd.prog 8 = none := id rfl
@[go_sem] theorem f8_0 : fldP Tryd.prog 8 0 = some (0, false, 1) := id rfl
@[go_sem] theorem pl8_0 : placeP Tryd.prog 8 0 = some (0, 1) := id rfl
@[go_sem] theorem f8_1 : fldP Tryd.prog 8 1 = some (1, false, 1) := id rfl
@[go_sem] theorem pl8_1 : placeP Tryd.prog 8 1 = some (1, 1) := id rfl
@[go_sem] theorem f8_2 : fldP Tryd.prog 8 2 = some (2, false, 1) := id rfl
@[go_sem] theorem pl8_2 : placeP Tryd.prog 8 2 = some (2, 1) := id rfl
@[go_sem] theorem f8_3 : fldP Tryd.prog 8 3 = some (3, false, 1) := id rfl
@[go_sem] theorem pl8_3 : placeP Tryd.prog 8 3 = some (3, 1) := id rfl
@[go_sem] theorem sd8 : sized Tryd.prog 8 = true := id rfl
@[go_sem] theorem zr8 : zeroP Tryd.prog 8 = some [.s (.int .i64 0), .s (.int .i64 0), .s (.bool false), .s (.int .u8 0)] := id rfl
@[go_sem] theorem z9 : szP Tryd.prog 9 = some (false, 1) := id rfl
@[go_sem] theorem a9 : arP Tryd.prog 9 = none := id rfl
@[go_sem] theorem s9 : isStr Tryd.prog 9 = true := id rfl
@[go_sem] theorem zr9 : zeroP Tryd.prog 9 = some [.s (.string ByteArray.empty)] := id rfl
@[go_sem] theorem z10 : szP Tryd.prog 10 = some (false, 1) := id rfl
@[go_sem] theorem a10 : arP Tryd.prog 10 = none := id rfl
@[go_sem] theorem s10 : isStr Tryd.prog 10 = true := id rfl
@[go_sem] theorem zr10 : zeroP Tryd.prog 10 = some [.s (.string ByteArray.empty)] := id rfl
@[go_sem] theorem z11 : szP Tryd.prog 11 = some (false, 1) := id rfl
@[go_sem] theorem a11 : arP Tryd.prog 11 = none := id rfl
@[go_sem] theorem s11 : isStr Tryd.prog 11 = true := id rfl
@[go_sem] theorem zr11 : zeroP Tryd.prog 11 = some [.s (.string ByteArray.empty)] := id rfl
@[go_sem] theorem z12 : szP Tryd.prog 12 = some (false, 1) := id rfl
@[go_sem] theorem a12 : arP Tryd.prog 12 = none := id rfl
@[go_sem] theorem i12 : intT Tryd.prog 12 = some .u64 := id rfl
@[go_sem] theorem zr12 : zeroP Tryd.prog 12 = some [.s (.int .u64 0)] := id rfl
@[go_sem] theorem z13 : szP Tryd.prog 13 = some (true, 2) := id rfl
@[go_sem] theorem a13 : arP Tryd.prog 13 = none := id rfl
@[go_sem] theorem f13_0 : fldP Tryd.prog 13 0 = some (0, false, 1) := id rfl
@[go_sem] theorem pl13_0 : placeP Tryd.prog 13 0 = some (0, 1) := id rfl
@[go_sem] theorem f13_1 : fldP Tryd.prog 13 1 = some (1, false, 1) := id rfl
@[go_sem] theorem pl13_1 : placeP Tryd.prog 13 1 = some (1, 1) := id rfl
@[go_sem] theorem sd13 : sized Tryd.prog 13 = true := id rfl
@[go_sem] theorem zr13 : zeroP Tryd.prog 13 = some [.s (.string ByteArray.empty), .s (.int .u64 0)] := id rfl
@[go_sem] theorem z14 : szP Tryd.prog 14 = some (true, 2) := id rfl
@[go_sem] theorem a14 : arP Tryd.prog 14 = none := id rfl
@[go_sem] theorem f14_0 : fldP Tryd.prog 14 0 = some (0, false, 1) := id rfl
@[go_sem] theorem pl14_0 : placeP Tryd.prog 14 0 = some (0, 1) := id rfl
@[go_sem] theorem f14_1 : fldP Tryd.prog 14 1 = some (1, false, 1) := id rfl
@[go_sem] theorem pl14_1 : placeP Tryd.prog 14 1 = some (1, 1) := id rfl
@[go_sem] theorem sd14 : sized Tryd.prog 14 = true := id rfl
@[go_sem] theorem zr14 : zeroP Tryd.prog 14 = some [.s (.string ByteArray.empty), .s (.int .u64 0)] := id rfl
@[go_sem] theorem z15 : szP Tryd.prog 15 = some (false, 1) := id rfl
@[go_sem] theorem a15 : arP Tryd.prog 15 = none := id rfl
@[go_sem] theorem s15 : isPtrT Tryd.prog 15 = true := id rfl
@[go_sem] theorem zr15 : zeroP Tryd.prog 15 = some [.s (.pointer none)] := id rfl
@[go_sem] theorem z16 : szP Tryd.prog 16 = some (false, 1) := id rfl
@[go_sem] theorem a16 : arP Tryd.prog 16 = none := id rfl
@[go_sem] theorem s16 : isPtrT Tryd.prog 16 = true := id rfl
@[go_sem] theorem zr16 : zeroP Tryd.prog 16 = some [.s (.pointer none)] := id rfl
@[go_sem] theorem z17 : szP Tryd.prog 17 = some (false, 1) := id rfl
@[go_sem] theorem a17 : arP Tryd.prog 17 = none := id rfl
@[go_sem] theorem s17 : isPtrT Tryd.prog 17 = true := id rfl
@[go_sem] theorem zr17 : zeroP Tryd.prog 17 = some [.s (.pointer none)] := id rfl
@[go_sem] theorem z18 : szP Tryd.prog 18 = some (true, 1) := id rfl
@[go_sem] theorem a18 : arP Tryd.prog 18 = none := id rfl
@[go_sem] theorem f18_0 : fldP Tryd.prog 18 0 = some (0, false, 1) := id rfl
@[go_sem] theorem pl18_0 : placeP Tryd.prog 18 0 = some (0, 1) := id rfl
@[go_sem] theorem sd18 : sized Tryd.prog 18 = true := id rfl
@[go_sem] theorem zr18 : zeroP Tryd.prog 18 = some [.s (.pointer none)] := id rfl
@[go_sem] theorem z19 : szP Tryd.prog 19 = some (true, 1) := id rfl
@[go_sem] theorem a19 : arP Tryd.prog 19 = none := id rfl
@[go_sem] theorem f19_0 : fldP Tryd.prog 19 0 = some (0, false, 1) := id rfl
@[go_sem] theorem pl19_0 : placeP Tryd.prog 19 0 = some (0, 1) := id rfl
@[go_sem] theorem sd19 : sized Tryd.prog 19 = true := id rfl
@[go_sem] theorem zr19 : zeroP Tryd.prog 19 = some [.s (.pointer none)] := id rfl
@[go_sem] theorem z21 : szP Tryd.prog 21 = some (false, 1) := id rfl
@[go_sem] theorem a21 : arP Tryd.prog 21 = none := id rfl
@[go_sem] theorem i21 : intT Tryd.prog 21 = some .i32 := id rfl
@[go_sem] theorem zr21 : zeroP Tryd.prog 21 = some [.s (.int .i32 0)] := id rfl
@[go_sem] theorem z22 : szP Tryd.prog 22 = some (false, 1) := id rfl
@[go_sem] theorem a22 : arP Tryd.prog 22 = none := id rfl
@[go_sem] theorem s22 : isPtrT Tryd.prog 22 = true := id rfl
@[go_sem] theorem zr22 : zeroP Tryd.prog 22 = some [.s (.pointer none)] := id rfl
@[go_sem] theorem z24 : szP Tryd.prog 24 = some (false, 1) := id rfl
@[go_sem] theorem a24 : arP Tryd.prog 24 = none := id rfl
@[go_sem] theorem i24 : intT Tryd.prog 24 = some .i64 := id rfl
@[go_sem] theorem zr24 : zeroP Tryd.prog 24 = some [.s (.int .i64 0)] := id rfl
@[go_sem] theorem z27 : szP Tryd.prog 27 = some (false, 1) := id rfl
@[go_sem] theorem a27 : arP Tryd.prog 27 = none := id rfl
@[go_sem] theorem e27 : elP Tryd.prog 27 = some 1 := id rfl
@[go_sem] theorem zr27 : zeroP Tryd.prog 27 = some [.nils] := id rfl
@[go_sem] theorem z28 : szP Tryd.prog 28 = some (false, 1) := id rfl
@[go_sem] theorem a28 : arP Tryd.prog 28 = none := id rfl
@[go_sem] theorem i28 : intT Tryd.prog 28 = some .u16 := id rfl
@[go_sem] theorem zr28 : zeroP Tryd.prog 28 = some [.s (.int .u16 0)] := id rfl
@[go_sem] theorem z29 : szP Tryd.prog 29 = some (false, 1) := id rfl
@[go_sem] theorem a29 : arP Tryd.prog 29 = none := id rfl
@[go_sem] theorem i29 : intT Tryd.prog 29 = some .u32 := id rfl
@[go_sem] theorem zr29 : zeroP Tryd.prog 29 = some [.s (.int .u32 0)] := id rfl
@[go_sem] theorem z30 : szP Tryd.prog 30 = some (true, 3) := id rfl
@[go_sem] theorem a30 : arP Tryd.prog 30 = none := id rfl
@[go_sem] theorem f30_0 : fldP Tryd.prog 30 0 = some (0, false, 1) := id rfl
@[go_sem] theorem pl30_0 : placeP Tryd.prog 30 0 = some (0, 1) := id rfl
@[go_sem] theorem f30_1 : fldP Tryd.prog 30 1 = some (1, false, 1) := id rfl
@[go_sem] theorem pl30_1 : placeP Tryd.prog 30 1 = some (1, 1) := id rfl
@[go_sem] theorem f30_2 : fldP Tryd.prog 30 2 = some (2, false, 1) := id rfl
@[go_sem] theorem pl30_2 : placeP Tryd.prog 30 2 = some (2, 1) := id rfl
@[go_sem] theorem sd30 : sized Tryd.prog 30 = true := id rfl
@[go_sem] theorem zr30 : zeroP Tryd.prog 30 = some [.s (.string ByteArray.empty), .s (.int .u16 0), .s (.int .u32 0)] := id rfl
@[go_sem] theorem z31 : szP Tryd.prog 31 = some (true, 3) := id rfl
@[go_sem] theorem a31 : arP Tryd.prog 31 = none := id rfl
@[go_sem] theorem f31_0 : fldP Tryd.prog 31 0 = some (0, false, 1) := id rfl
@[go_sem] theorem pl31_0 : placeP Tryd.prog 31 0 = some (0, 1) := id rfl
@[go_sem] theorem f31_1 : fldP Tryd.prog 31 1 = some (1, false, 1) := id rfl
@[go_sem] theorem pl31_1 : placeP Tryd.prog 31 1 = some (1, 1) := id rfl
@[go_sem] theorem f31_2 : fldP Tryd.prog 31 2 = some (2, false, 1) := id rfl
@[go_sem] theorem pl31_2 : placeP Tryd.prog 31 2 = some (2, 1) := id rfl
@[go_sem] theorem sd31 : sized Tryd.prog 31 = true := id rfl
@[go_sem] theorem zr31 : zeroP Tryd.prog 31 = some [.s (.string ByteArray.empty), .s (.int .u16 0), .s (.int .u32 0)] := id rfl
@[go_sem] theorem z37 : szP Tryd.prog 37 = some (false, 1) := id rfl
@[go_sem] theorem a37 : arP Tryd.prog 37 = none := id rfl
@[go_sem] theorem e37 : elP Tryd.prog 37 = some 4 := id rfl
@[go_sem] theorem zr37 : zeroP Tryd.prog 37 = some [.nils] := id rfl
@[go_sem] theorem z38 : szP Tryd.prog 38 = some (true, 3) := id rfl
@[go_sem] theorem a38 : arP Tryd.prog 38 = none := id rfl
@[go_sem] theorem f38_0 : fldP Tryd.prog 38 0 = some (0, false, 1) := id rfl
@[go_sem] theorem pl38_0 : placeP Tryd.prog 38 0 = some (0, 1) := id rfl
@[go_sem] theorem f38_1 : fldP Tryd.prog 38 1 = some (1, false, 1) := id rfl
@[go_sem] theorem pl38_1 : placeP Tryd.prog 38 1 = some (1, 1) := id rfl
@[go_sem] theorem f38_2 : fldP Tryd.prog 38 2 = some (2, false, 1) := id rfl
@[go_sem] theorem pl38_2 : placeP Tryd.prog 38 2 = some (2, 1) := id rfl
@[go_sem] theorem sd38 : sized Tryd.prog 38 = true := id rfl
@[go_sem] theorem zr38 : zeroP Tryd.prog 38 = some [.s (.string ByteArray.empty), .s (.int .u16 0), .s (.int .u32 0)] := id rfl
@[go_sem] theorem z39 : szP Tryd.prog 39 = some (true, 24) := id rfl
@[go_sem] theorem a39 : arP Tryd.prog 39 = some (8, true, 3) := id rfl
@[go_sem] theorem sd39 : sized Tryd.prog 39 = true := id rfl
@[go_sem] theorem pl39 (i : Nat) : placeP Tryd.prog 39 i = some (i * 3, 3) := id rfl
@[go_sem] theorem zr39 : zeroP Tryd.prog 39 = some [.s (.string ByteArray.empty), .s (.int .u16 0), .s (.int .u32 0), .s (.string ByteArray.empty), .s (.int .u16 0), .s (.int .u32 0), .s (.string ByteArray.empty), .s (.int .u16 0), .s (.int .u32 0), .s (.string ByteArray.empty), .s (.int .u16 0), .s (.int .u32 0), .s (.string ByteArray.empty), .s (.int .u16 0), .s (.int .u32 0), .s (.string ByteArray.empty), .s (.int .u16 0), .s (.int .u32 0), .s (.string ByteArray.empty), .s (.int .u16 0), .s (.int .u32 0), .s (.string ByteArray.empty), .s (.int .u16 0), .s (.int .u32 0)] := id rfl
@[go_sem] theorem z40 : szP Tryd.prog 40 = some (true, 24) := id rfl
@[go_sem] theorem a40 : arP Tryd.prog 40 = none := id rfl
@[go_sem] theorem f40_0 : fldP Tryd.prog 40 0 = some (0, true, 24) := id rfl
@[go_sem] theorem pl40_0 : placeP Tryd.prog 40 0 = some (0, 24) := id rfl
@[go_sem] theorem sd40 : sized Tryd.prog 40 = true := id rfl
@[go_sem] theorem zr40 : zeroP Tryd.prog 40 = some [.s (.string ByteArray.empty), .s (.int .u16 0), .s (.int .u32 0), .s (.string ByteArray.empty), .s (.int .u16 0), .s (.int .u32 0), .s (.string ByteArray.empty), .s (.int .u16 0), .s (.int .u32 0), .s (.string ByteArray.empty), .s (.int .u16 0), .s (.int .u32 0), .s (.string ByteArray.empty), .s (.int .u16 0), .s (.int .u32 0), .s (.string ByteArray.empty), .s (.int .u16 0), .s (.int .u32 0), .s (.string ByteArray.empty), .s (.int .u16 0), .s (.int .u32 0), .s (.string ByteArray.empty), .s (.int .u16 0), .s (.int .u32 0)] := id rfl
@[go_sem] theorem z41 : szP Tryd.prog 41 = some (true, 24) := id rfl
@[go_sem] theorem a41 : arP Tryd.prog 41 = none := id rfl
@[go_sem] theorem f41_0 : fldP Tryd.prog 41 0 = some (0, true, 24) := id rfl
@[go_sem] theorem pl41_0 : placeP Tryd.prog 41 0 = some (0, 24) := id rfl
@[go_sem] theorem sd41 : sized Tryd.prog 41 = true := id rfl
@[go_sem] theorem zr41 : zeroP Tryd.prog 41 = some [.s (.string ByteArray.empty), .s (.int .u16 0), .s (.int .u32 0), .s (.string ByteArray.empty), .s (.int .u16 0), .s (.int .u32 0), .s (.string ByteArray.empty), .s (.int .u16 0), .s (.int .u32 0), .s (.string ByteArray.empty), .s (.int .u16 0), .s (.int .u32 0), .s (.string ByteArray.empty), .s (.int .u16 0), .s (.int .u32 0), .s (.string ByteArray.empty), .s (.int .u16 0), .s (.int .u32 0), .s (.string ByteArray.empty), .s (.int .u16 0), .s (.int .u32 0), .s (.string ByteArray.empty), .s (.int .u16 0), .s (.int .u32 0)] := id rfl
@[go_sem] theorem z42 : szP Tryd.prog 42 = some (true, 4) := id rfl
@[go_sem] theorem a42 : arP Tryd.prog 42 = none := id rfl
@[go_sem] theorem f42_0 : fldP Tryd.prog 42 0 = some (0, false, 1) := id rfl
@[go_sem] theorem pl42_0 : placeP Tryd.prog 42 0 = some (0, 1) := id rfl
@[go_sem] theorem f42_1 : fldP Tryd.prog 42 1 = some (1, true, 3) := id rfl
@[go_sem] theorem pl42_1 : placeP Tryd.prog 42 1 = some (1, 3) := id rfl
@[go_sem] theorem sd42 : sized Tryd.prog 42 = true := id rfl
@[go_sem] theorem zr42 : zeroP Tryd.prog 42 = some [.s (.int .u8 0), .s (.string ByteArray.empty), .s (.int .u16 0), .s (.int .u32 0)] := id rfl
@[go_sem] theorem z43 : szP Tryd.prog 43 = some (true, 4) := id rfl
@[go_sem] theorem a43 : arP Tryd.prog 43 = none := id rfl
@[go_sem] theorem f43_0 : fldP Tryd.prog 43 0 = some (0, false, 1) := id rfl
@[go_sem] theorem pl43_0 : placeP Tryd.prog 43 0 = some (0, 1) := id rfl
@[go_sem] theorem f43_1 : fldP Tryd.prog 43 1 = some (1, true, 3) := id rfl
@[go_sem] theorem pl43_1 : placeP Tryd.prog 43 1 = some (1, 3) := id rfl
@[go_sem] theorem sd43 : sized Tryd.prog 43 = true := id rfl
@[go_sem] theorem zr43 : zeroP Tryd.prog 43 = some [.s (.int .u8 0), .s (.string ByteArray.empty), .s (.int .u16 0), .s (.int .u32 0)] := id rfl
@[go_sem] theorem z51 : szP Tryd.prog 51 = some (true, 24) := id rfl
@[go_sem] theorem a51 : arP Tryd.prog 51 = some (8, true, 3) := id rfl
@[go_sem] theorem sd51 : sized Tryd.prog 51 = true := id rfl
@[go_sem] theorem pl51 (i : Nat) : placeP Tryd.prog 51 i = some (i * 3, 3) := id rfl
@[go_sem] theorem zr51 : zeroP Tryd.prog 51 = some [.s (.string ByteArray.empty), .s (.int .u16 0), .s (.int .u32 0), .s (.string ByteArray.empty), .s (.int .u16 0), .s (.int .u32 0), .s (.string ByteArray.empty), .s (.int .u16 0), .s (.int .u32 0), .s (.string ByteArray.empty), .s (.int .u16 0), .s (.int .u32 0), .s (.string ByteArray.empty), .s (.int .u16 0), .s (.int .u32 0), .s (.string ByteArray.empty), .s (.int .u16 0), .s (.int .u32 0), .s (.string ByteArray.empty), .s (.int .u16 0), .s (.int .u32 0), .s (.string ByteArray.empty), .s (.int .u16 0), .s (.int .u32 0)] := id rfl
@[go_sem] theorem z52 : szP Tryd.prog 52 = some (true, 24) := id rfl
@[go_sem] theorem a52 : arP Tryd.prog 52 = none := id rfl
@[go_sem] theorem f52_0 : fldP Tryd.prog 52 0 = some (0, true, 24) := id rfl
@[go_sem] theorem pl52_0 : placeP Tryd.prog 52 0 = some (0, 24) := id rfl
@[go_sem] theorem sd52 : sized Tryd.prog 52 = true := id rfl
@[go_sem] theorem zr52 : zeroP Tryd.prog 52 = some [.s (.string ByteArray.empty), .s (.int .u16 0), .s (.int .u32 0), .s (.string ByteArray.empty), .s (.int .u16 0), .s (.int .u32 0), .s (.string ByteArray.empty), .s (.int .u16 0), .s (.int .u32 0), .s (.string ByteArray.empty), .s (.int .u16 0), .s (.int .u32 0), .s (.string ByteArray.empty), .s (.int .u16 0), .s (.int .u32 0), .s (.string ByteArray.empty), .s (.int .u16 0), .s (.int .u32 0), .s (.string ByteArray.empty), .s (.int .u16 0), .s (.int .u32 0), .s (.string ByteArray.empty), .s (.int .u16 0), .s (.int .u32 0)] := id rfl
@[go_sem] theorem z53 : szP Tryd.prog 53 = some (true, 24) := id rfl
@[go_sem] theorem a53 : arP Tryd.prog 53 = none := id rfl
@[go_sem] theorem f53_0 : fldP Tryd.prog 53 0 = some (0, true, 24) := id rfl
@[go_sem] theorem pl53_0 : placeP Tryd.prog 53 0 = some (0, 24) := id rfl
@[go_sem] theorem sd53 : sized Tryd.prog 53 = true := id rfl
@[go_sem] theorem zr53 : zeroP Tryd.prog 53 = some [.s (.string ByteArray.empty), .s (.int .u16 0), .s (.int .u32 0), .s (.string ByteArray.empty), .s (.int .u16 0), .s (.int .u32 0), .s (.string ByteArray.empty), .s (.int .u16 0), .s (.int .u32 0), .s (.string ByteArray.empty), .s (.int .u16 0), .s (.int .u32 0), .s (.string ByteArray.empty), .s (.int .u16 0), .s (.int .u32 0), .s (.string ByteArray.empty), .s (.int .u16 0), .s (.int .u32 0), .s (.string ByteArray.empty), .s (.int .u16 0), .s (.int .u32 0), .s (.string ByteArray.empty), .s (.int .u16 0), .s (.int .u32 0)] := id rfl
@[go_sem] theorem z70 : szP Tryd.prog 70 = some (false, 1) := id rfl
@[go_sem] theorem a70 : arP Tryd.prog 70 = none := id rfl
@[go_sem] theorem e70 : elP Tryd.prog 70 = some 3 := id rfl
@[go_sem] theorem zr70 : zeroP Tryd.prog 70 = some [.nils] := id rfl
@[go_sem] theorem z78 : szP Tryd.prog 78 = some (false, 1) := id rfl
@[go_sem] theorem a78 : arP Tryd.prog 78 = none := id rfl
@[go_sem] theorem e78 : elP Tryd.prog 78 = some 1 := id rfl
@[go_sem] theorem zr78 : zeroP Tryd.prog 78 = some [.nils] := id rfl
@[go_sem] theorem z86 : szP Tryd.prog 86 = some (false, 1) := id rfl
@[go_sem] theorem a86 : arP Tryd.prog 86 = none := id rfl
@[go_sem] theorem i86 : intT Tryd.prog 86 = some .u64 := id rfl
@[go_sem] theorem zr86 : zeroP Tryd.prog 86 = some [.s (.int .u64 0)] := id rfl
@[go_sem] theorem z87 : szP Tryd.prog 87 = some (true, 256) := id rfl
@[go_sem] theorem a87 : arP Tryd.prog 87 = some (256, false, 1) := id rfl
@[go_sem] theorem sd87 : sized Tryd.prog 87 = true := id rfl
@[go_sem] theorem pl87 (i : Nat) : placeP Tryd.prog 87 i = some (i * 1, 1) := id rfl
@[go_sem] theorem z88 : szP Tryd.prog 88 = some (true, 2) := id rfl
@[go_sem] theorem a88 : arP Tryd.prog 88 = none := id rfl
@[go_sem] theorem f88_0 : fldP Tryd.prog 88 0 = some (0, false, 1) := id rfl
@[go_sem] theorem pl88_0 : placeP Tryd.prog 88 0 = some (0, 1) := id rfl
@[go_sem] theorem f88_1 : fldP Tryd.prog 88 1 = some (1, false, 1) := id rfl
@[go_sem] theorem pl88_1 : placeP Tryd.prog 88 1 = some (1, 1) := id rfl
@[go_sem] theorem sd88 : sized Tryd.prog 88 = true := id rfl
@[go_sem] theorem zr88 : zeroP Tryd.prog 88 = some [.s (.int .u8 0), .s (.int .u8 0)] := id rfl
@[go_sem] theorem z89 : szP Tryd.prog 89 = some (true, 2) := id rfl
@[go_sem] theorem a89 : arP Tryd.prog 89 = none := id rfl
@[go_sem] theorem f89_0 : fldP Tryd.prog 89 0 = some (0, false, 1) := id rfl
@[go_sem] theorem pl89_0 : placeP Tryd.prog 89 0 = some (0, 1) := id rfl
@[go_sem] theorem f89_1 : fldP Tryd.prog 89 1 = some (1, false, 1) := id rfl
@[go_sem] theorem pl89_1 : placeP Tryd.prog 89 1 = some (1, 1) := id rfl
@[go_sem] theorem sd89 : sized Tryd.prog 89 = true := id rfl
@[go_sem] theorem zr89 : zeroP Tryd.prog 89 = some [.s (.int .u8 0), .s (.int .u8 0)] := id rfl
@[go_sem] theorem z90 : szP Tryd.prog 90 = some (true, 32) := id rfl
@[go_sem] theorem a90 : arP Tryd.prog 90 = some (16, true, 2) := id rfl
@[go_sem] theorem sd90 : sized Tryd.prog 90 = true := id rfl
@[go_sem] theorem pl90 (i : Nat) : placeP Tryd.prog 90 i = some (i * 2, 2) := id rfl
@[go_sem] theorem zr90 : zeroP Tryd.prog 90 = some [.s (.int .u8 0), .s (.int .u8 0), .s (.int .u8 0), .s (.int .u8 0), .s (.int .u8 0), .s (.int .u8 0), .s (.int .u8 0), .s (.int .u8 0), .s (.int .u8 0), .s (.int .u8 0), .s (.int .u8 0), .s (.int .u8 0), .s (.int .u8 0), .s (.int .u8 0), .s (.int .u8 0), .s (.int .u8 0), .s (.int .u8 0), .s (.int .u8 0), .s (.int .u8 0), .s (.int .u8 0), .s (.int .u8 0), .s (.int .u8 0), .s (.int .u8 0), .s (.int .u8 0), .s (.int .u8 0), .s (.int .u8 0), .s (.int .u8 0), .s (.int .u8 0), .s (.int .u8 0), .s (.int .u8 0), .s (.int .u8 0), .s (.int .u8 0)] := id rfl
@[go_sem] theorem z95 : szP Tryd.prog 95 = some (true, 4) := id rfl
@[go_sem] theorem a95 : arP Tryd.prog 95 = none := id rfl
@[go_sem] theorem f95_0 : fldP Tryd.prog 95 0 = some (0, false, 1) := id rfl
@[go_sem] theorem pl95_0 : placeP Tryd.prog 95 0 = some (0, 1) := id rfl
@[go_sem] theorem f95_1 : fldP Tryd.prog 95 1 = some (1, false, 1) := id rfl
@[go_sem] theorem pl95_1 : placeP Tryd.prog 95 1 = some (1, 1) := id rfl
@[go_sem] theorem f95_2 : fldP Tryd.prog 95 2 = some (2, false, 1) := id rfl
@[go_sem] theorem pl95_2 : placeP Tryd.prog 95 2 = some (2, 1) := id rfl
@[go_sem] theorem f95_3 : fldP Tryd.prog 95 3 = some (3, false, 1) := id rfl
@[go_sem] theorem pl95_3 : placeP Tryd.prog 95 3 = some (3, 1) := id rfl
@[go_sem] theorem sd95 : sized Tryd.prog 95 = true := id rfl
@[go_sem] theorem zr95 : zeroP Tryd.prog 95 = some [.s (.pointer none), .s (.pointer none), .s (.pointer none), .s (.string ByteArray.empty)] := id rfl
@[go_sem] theorem z96 : szP Tryd.prog 96 = some (true, 4) := id rfl
@[go_sem] theorem a96 : arP Tryd.prog 96 = none := id rfl
@[go_sem] theorem f96_0 : fldP Tryd.prog 96 0 = some (0, false, 1) := id rfl
@[go_sem] theorem pl96_0 : placeP Tryd.prog 96 0 = some (0, 1) := id rfl
@[go_sem] theorem f96_1 : fldP Tryd.prog 96 1 = some (1, false, 1) := id rfl
@[go_sem] theorem pl96_1 : placeP Tryd.prog 96 1 = some (1, 1) := id rfl
@[go_sem] theorem f96_2 : fldP Tryd.prog 96 2 = some (2, false, 1) := id rfl
@[go_sem] theorem pl96_2 : placeP Tryd.prog 96 2 = some (2, 1) := id rfl
@[go_sem] theorem f96_3 : fldP Tryd.prog 96 3 = some (3, false, 1) := id rfl
@[go_sem] theorem pl96_3 : placeP Tryd.prog 96 3 = some (3, 1) := id rfl
@[go_sem] theorem sd96 : sized Tryd.prog 96 = true := id rfl
@[go_sem] theorem zr96 : zeroP Tryd.prog 96 = some [.s (.pointer none), .s (.pointer none), .s (.pointer none), .s (.string ByteArray.empty)] := id rfl
@[go_sem] theorem z97 : szP Tryd.prog 97 = some (true, 0) := id rfl
@[go_sem] theorem a97 : arP Tryd.prog 97 = some (0, false, 1) := id rfl
@[go_sem] theorem sd97 : sized Tryd.prog 97 = true := id rfl
@[go_sem] theorem pl97 (i : Nat) : placeP Tryd.prog 97 i = some (i * 1, 1) := id rfl
@[go_sem] theorem zr97 : zeroP Tryd.prog 97 = some [] := id rfl
@[go_sem] theorem z98 : szP Tryd.prog 98 = some (true, 0) := id rfl
@[go_sem] theorem a98 : arP Tryd.prog 98 = none := id rfl
@[go_sem] theorem pl98_0 : placeP Tryd.prog 98 0 = some (0, 0) := id rfl
@[go_sem] theorem sd98 : sized Tryd.prog 98 = true := id rfl
@[go_sem] theorem zr98 : zeroP Tryd.prog 98 = some [] := id rfl
@[go_sem] theorem z99 : szP Tryd.prog 99 = some (true, 0) := id rfl
@[go_sem] theorem a99 : arP Tryd.prog 99 = none := id rfl
@[go_sem] theorem pl99_0 : placeP Tryd.prog 99 0 = some (0, 0) := id rfl
@[go_sem] theorem sd99 : sized Tryd.prog 99 = true := id rfl
@[go_sem] theorem zr99 : zeroP Tryd.prog 99 = some [] := id rfl
@[go_sem] theorem z100 : szP Tryd.prog 100 = some (false, 1) := id rfl
@[go_sem] theorem a100 : arP Tryd.prog 100 = none := id rfl
@[go_sem] theorem i100 : intT Tryd.prog 100 = some .u8 := id rfl
@[go_sem] theorem zr100 : zeroP Tryd.prog 100 = some [.s (.int .u8 0)] := id rfl
@[go_sem] theorem z101 : szP Tryd.prog 101 = some (false, 1) := id rfl
@[go_sem] theorem a101 : arP Tryd.prog 101 = none := id rfl
@[go_sem] theorem i101 : intT Tryd.prog 101 = some .u8 := id rfl
@[go_sem] theorem zr101 : zeroP Tryd.prog 101 = some [.s (.int .u8 0)] := id rfl
@[go_sem] theorem z103 : szP Tryd.prog 103 = some (false, 1) := id rfl
@[go_sem] theorem a103 : arP Tryd.prog 103 = none := id rfl
@[go_sem] theorem s103 : isPtrT Tryd.prog 103 = true := id rfl
@[go_sem] theorem zr103 : zeroP Tryd.prog 103 = some [.s (.pointer none)] := id rfl
@[go_sem] theorem z104 : szP Tryd.prog 104 = some (false, 1) := id rfl
@[go_sem] theorem a104 : arP Tryd.prog 104 = none := id rfl
@[go_sem] theorem i104 : intT Tryd.prog 104 = some .i32 := id rfl
@[go_sem] theorem zr104 : zeroP Tryd.prog 104 = some [.s (.int .i32 0)] := id rfl
@[go_sem] theorem z105 : szP Tryd.prog 105 = some (false, 1) := id rfl
@[go_sem] theorem a105 : arP Tryd.prog 105 = none := id rfl
@[go_sem] theorem i105 : intT Tryd.prog 105 = some .i32 := id rfl
@[go_sem] theorem zr105 : zeroP Tryd.prog 105 = some [.s (.int .i32 0)] := id rfl
@[go_sem] theorem z106 : szP Tryd.prog 106 = some (true, 11) := id rfl
@[go_sem] theorem a106 : arP Tryd.prog 106 = none := id rfl
@[go_sem] theorem f106_0 : fldP Tryd.prog 106 0 = some (0, false, 1) := id rfl
@[go_sem] theorem pl106_0 : placeP Tryd.prog 106 0 = some (0, 1) := id rfl
@[go_sem] theorem f106_1 : fldP Tryd.prog 106 1 = some (1, false, 1) := id rfl
@[go_sem] theorem pl106_1 : placeP Tryd.prog 106 1 = some (1, 1) := id rfl
@[go_sem] theorem f106_2 : fldP Tryd.prog 106 2 = some (2, false, 1) := id rfl
@[go_sem] theorem pl106_2 : placeP Tryd.prog 106 2 = some (2, 1) := id rfl
@[go_sem] theorem f106_3 : fldP Tryd.prog 106 3 = some (3, false, 1) := id rfl
@[go_sem] theorem pl106_3 : placeP Tryd.prog 106 3 = some (3, 1) := id rfl
@[go_sem] theorem f106_4 : fldP Tryd.prog 106 4 = some (4, false, 1) := id rfl
@[go_sem] theorem pl106_4 : placeP Tryd.prog 106 4 = some (4, 1) := id rfl
@[go_sem] theorem f106_5 : fldP Tryd.prog 106 5 = some (5, false, 1) := id rfl
@[go_sem] theorem pl106_5 : placeP Tryd.prog 106 5 = some (5, 1) := id rfl
@[go_sem] theorem f106_6 : fldP Tryd.prog 106 6 = some (6, false, 1) := id rfl
@[go_sem] theorem pl106_6 : placeP Tryd.prog 106 6 = some (6, 1) := id rfl
@[go_sem] theorem f106_7 : fldP Tryd.prog 106 7 = some (7, false, 1) := id rfl
@[go_sem] theorem pl106_7 : placeP Tryd.prog 106 7 = some (7, 1) := id rfl
@[go_sem] theorem f106_8 : fldP Tryd.prog 106 8 = some (8, false, 1) := id rfl
@[go_sem] theorem pl106_8 : placeP Tryd.prog 106 8 = some (8, 1) := id rfl
@[go_sem] theorem f106_9 : fldP Tryd.prog 106 9 = some (9, false, 1) := id rfl
@[go_sem] theorem pl106_9 : placeP Tryd.prog 106 9 = some (9, 1) := id rfl
@[go_sem] theorem f106_10 : fldP Tryd.prog 106 10 = some (10, false, 1) := id rfl
@[go_sem] theorem pl106_10 : placeP Tryd.prog 106 10 = some (10, 1) := id rfl
@[go_sem] theorem sd106 : sized Tryd.prog 106 = true := id rfl
@[go_sem] theorem zr106 : zeroP Tryd.prog 106 = some [.s (.int .u64 0), .s (.int .u64 0), .s (.int .u32 0), .s (.int .u8 0), .s (.int .u8 0), .s (.int .u8 0), .s (.int .u8 0), .s .nilFunc, .s (.pointer none), .s (.int .i32 0), .s (.int .i32 0)] := id rfl
@[go_sem] theorem z107 : szP Tryd.prog 107 = some (true, 11) := id rfl
@[go_sem] theorem a107 : arP Tryd.prog 107 = none := id rfl
@[go_sem] theorem f107_0 : fldP Tryd.prog 107 0 = some (0, false, 1) := id rfl
@[go_sem] theorem pl107_0 : placeP Tryd.prog 107 0 = some (0, 1) := id rfl
@[go_sem] theorem f107_1 : fldP Tryd.prog 107 1 = some (1, false, 1) := id rfl
@[go_sem] theorem pl107_1 : placeP Tryd.prog 107 1 = some (1, 1) := id rfl
@[go_sem] theorem f107_2 : fldP Tryd.prog 107 2 = some (2, false, 1) := id rfl
@[go_sem] theorem pl107_2 : placeP Tryd.prog 107 2 = some (2, 1) := id rfl
@[go_sem] theorem f107_3 : fldP Tryd.prog 107 3 = some (3, false, 1) := id rfl
@[go_sem] theorem pl107_3 : placeP Tryd.prog 107 3 = some (3, 1) := id rfl
@[go_sem] theorem f107_4 : fldP Tryd.prog 107 4 = some (4, false, 1) := id rfl
@[go_sem] theorem pl107_4 : placeP Tryd.prog 107 4 = some (4, 1) := id rfl
@[go_sem] theorem f107_5 : fldP Tryd.prog 107 5 = some (5, false, 1) := id rfl
@[go_sem] theorem pl107_5 : placeP Tryd.prog 107 5 = some (5, 1) := id rfl
@[go_sem] theorem f107_6 : fldP Tryd.prog 107 6 = some (6, false, 1) := id rfl
@[go_sem] theorem pl107_6 : placeP Tryd.prog 107 6 = some (6, 1) := id rfl
@[go_sem] theorem f107_7 : fldP Tryd.prog 107 7 = some (7, false, 1) := id rfl
@[go_sem] theorem pl107_7 : placeP Tryd.prog 107 7 = some (7, 1) := id rfl
@[go_sem] theorem f107_8 : fldP Tryd.prog 107 8 = some (8, false, 1) := id rfl
@[go_sem] theorem pl107_8 : placeP Tryd.prog 107 8 = some (8, 1) := id rfl
@[go_sem] theorem f107_9 : fldP Tryd.prog 107 9 = some (9, false, 1) := id rfl
@[go_sem] theorem pl107_9 : placeP Tryd.prog 107 9 = some (9, 1) := id rfl
@[go_sem] theorem f107_10 : fldP Tryd.prog 107 10 = some (10, false, 1) := id rfl
@[go_sem] theorem pl107_10 : placeP Tryd.prog 107 10 = some (10, 1) := id rfl
@[go_sem] theorem sd107 : sized Tryd.prog 107 = true := id rfl
@[go_sem] theorem zr107 : zeroP Tryd.prog 107 = some [.s (.int .u64 0), .s (.int .u64 0), .s (.int .u32 0), .s (.int .u8 0), .s (.int .u8 0), .s (.int .u8 0), .s (.int .u8 0), .s .nilFunc, .s (.pointer none), .s (.int .i32 0), .s (.int .i32 0)] := id rfl
@[go_sem] theorem z108 : szP Tryd.prog 108 = some (false, 1) := id rfl
@[go_sem] theorem a108 : arP Tryd.prog 108 = none := id rfl
@[go_sem] theorem zr108 : zeroP Tryd.prog 108 = some [.s (.pointer none)] := id rfl
end Go.Abs
