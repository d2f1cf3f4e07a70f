/- Texts of a proof, one behind the other: Gr0 M2 K23 K24 M3 M4 M5. No condition. -/
import Derived.Test.YtaidhghnflnmnaaGreatM5e8a56cb
import Derived.Test.YtaidhghnflnmnaaGreatMfe05ac9a
import Derived.OpenShut
/- What each region of the Go functions does. Written by my own generator. -/
namespace Go.Sp
open Go
set_option maxRecDepth 100000
set_option linter.unusedVariables false
open Go.Proofs
/-! gharry.rec.body -/
noncomputable def c71 : Cfg := { P := Tryz.prog, n := 142, T := TT, body := (Tryz.f71.body).getD .skip, res := Tryz.f71.results.toList, li := lk [] [(0, [0]), (1, [1]), (2, [1, 4]), (3, [1, 4]), (4, [1, 4, 5]), (5, []), (6, [1, 4, 5, 17]), (7, [1, 4]), (8, []), (9, [1, 4]), (10, [1, 4, 5, 17]), (11, [1, 4]), (12, [1, 4, 5, 17]), (13, [1, 4]), (14, []), (15, [1, 4]), (16, [1, 4, 5]), (17, [1, 4, 5]), (18, [1, 4, 5]), (19, [1, 4, 5]), (20, [1, 4, 5, 17]), (21, [1, 4, 5, 17]), (22, [1, 4, 5, 17]), (23, [1, 4]), (24, [1, 4, 5]), (25, [1, 4, 5]), (26, [1, 4, 5, 17]), (27, [1, 4, 5, 17]), (28, [1, 4, 5]), (29, [1, 4, 5, 17]), (30, [1, 4, 5]), (31, [1, 4, 5]), (32, [4, 5, 102, 103, 104]), (33, [4, 5, 102, 103, 104]), (34, [4, 5, 7, 102, 103, 104]), (35, [4, 5, 7, 102, 103, 104]), (36, [4, 5, 102, 103, 104]), (37, [1, 4, 5, 17]), (38, [1, 4, 5]), (39, [1, 4, 5]), (40, [4, 5]), (41, [5, 8, 9]), (42, [8, 9]), (43, [5, 8]), (44, [5]), (45, [8]), (46, []), (47, [8])], lo := lk [] [(0, [1]), (1, [1, 4]), (2, [1, 4]), (3, [1, 4, 5]), (4, [1, 4, 5, 17]), (5, [2, 3]), (6, [1, 4, 5, 17, 18]), (7, [1, 4, 23]), (8, [2, 3]), (9, [4, 5]), (10, [1, 4, 5, 17, 28]), (11, [4, 5]), (12, [1, 4, 5, 17, 34]), (13, [1, 4, 43]), (14, [2, 3]), (15, [1, 4, 5]), (16, [1, 4, 5]), (17, [1, 4, 5]), (18, [1, 4, 5]), (19, [4, 5]), (20, [1, 4, 5, 17, 68]), (21, [1, 4, 5, 17, 68]), (22, [1, 4, 5, 17, 68]), (23, [1, 4, 5]), (24, [1, 4, 5]), (25, [4, 5]), (26, [1, 4, 5, 17, 88]), (27, [1, 4, 5, 17, 88]), (28, [4, 5]), (29, [1, 4, 5, 17, 94]), (30, [1, 4, 5]), (31, [4, 5, 102, 103, 104]), (32, [4, 5, 102, 103, 104, 105]), (33, [4, 5, 7, 102, 103, 104]), (34, [4, 5, 7, 102, 103, 104]), (35, [4, 5, 102, 103, 104]), (36, [4, 5, 102, 103, 104]), (37, [1, 4, 5, 117]), (38, [1, 4, 5]), (39, [4, 5]), (40, [5, 8, 9]), (41, [5, 8, 9, 133]), (42, [5, 8]), (43, [5, 8, 136]), (44, [2, 3]), (45, [8, 140]), (46, [2, 3]), (47, [2, 3]), (1000000, [2, 3])], ord := lk (false, []) [] }
@[go_sem] theorem c71_i0 : c71.li 0 = [0] := rfl
@[go_sem] theorem c71_i1 : c71.li 1 = [1] := rfl
@[go_sem] theorem c71_i2 : c71.li 2 = [1, 4] := rfl
@[go_sem] theorem c71_i3 : c71.li 3 = [1, 4] := rfl
@[go_sem] theorem c71_i4 : c71.li 4 = [1, 4, 5] := rfl
@[go_sem] theorem c71_i5 : c71.li 5 = [] := rfl
@[go_sem] theorem c71_i6 : c71.li 6 = [1, 4, 5, 17] := rfl
@[go_sem] theorem c71_i7 : c71.li 7 = [1, 4] := rfl
@[go_sem] theorem c71_i8 : c71.li 8 = [] := rfl
@[go_sem] theorem c71_i9 : c71.li 9 = [1, 4] := rfl
@[go_sem] theorem c71_i10 : c71.li 10 = [1, 4, 5, 17] := rfl
@[go_sem] theorem c71_i11 : c71.li 11 = [1, 4] := rfl
@[go_sem] theorem c71_i12 : c71.li 12 = [1, 4, 5, 17] := rfl
@[go_sem] theorem c71_i13 : c71.li 13 = [1, 4] := rfl
@[go_sem] theorem c71_i14 : c71.li 14 = [] := rfl
@[go_sem] theorem c71_i15 : c71.li 15 = [1, 4] := rfl
@[go_sem] theorem c71_i16 : c71.li 16 = [1, 4, 5] := rfl
@[go_sem] theorem c71_i17 : c71.li 17 = [1, 4, 5] := rfl
@[go_sem] theorem c71_i18 : c71.li 18 = [1, 4, 5] := rfl
@[go_sem] theorem c71_i19 : c71.li 19 = [1, 4, 5] := rfl
@[go_sem] theorem c71_i20 : c71.li 20 = [1, 4, 5, 17] := rfl
@[go_sem] theorem c71_i21 : c71.li 21 = [1, 4, 5, 17] := rfl
@[go_sem] theorem c71_i22 : c71.li 22 = [1, 4, 5, 17] := rfl
@[go_sem] theorem c71_i23 : c71.li 23 = [1, 4] := rfl
@[go_sem] theorem c71_i24 : c71.li 24 = [1, 4, 5] := rfl
@[go_sem] theorem c71_i25 : c71.li 25 = [1, 4, 5] := rfl
@[go_sem] theorem c71_i26 : c71.li 26 = [1, 4, 5, 17] := rfl
@[go_sem] theorem c71_i27 : c71.li 27 = [1, 4, 5, 17] := rfl
@[go_sem] theorem c71_i28 : c71.li 28 = [1, 4, 5] := rfl
@[go_sem] theorem c71_i29 : c71.li 29 = [1, 4, 5, 17] := rfl
@[go_sem] theorem c71_i30 : c71.li 30 = [1, 4, 5] := rfl
@[go_sem] theorem c71_i31 : c71.li 31 = [1, 4, 5] := rfl
@[go_sem] theorem c71_i32 : c71.li 32 = [4, 5, 102, 103, 104] := rfl
@[go_sem] theorem c71_i33 : c71.li 33 = [4, 5, 102, 103, 104] := rfl
@[go_sem] theorem c71_i34 : c71.li 34 = [4, 5, 7, 102, 103, 104] := rfl
@[go_sem] theorem c71_i35 : c71.li 35 = [4, 5, 7, 102, 103, 104] := rfl
@[go_sem] theorem c71_i36 : c71.li 36 = [4, 5, 102, 103, 104] := rfl
@[go_sem] theorem c71_i37 : c71.li 37 = [1, 4, 5, 17] := rfl
@[go_sem] theorem c71_i38 : c71.li 38 = [1, 4, 5] := rfl
@[go_sem] theorem c71_i39 : c71.li 39 = [1, 4, 5] := rfl
@[go_sem] theorem c71_i40 : c71.li 40 = [4, 5] := rfl
@[go_sem] theorem c71_i41 : c71.li 41 = [5, 8, 9] := rfl
@[go_sem] theorem c71_i42 : c71.li 42 = [8, 9] := rfl
@[go_sem] theorem c71_i43 : c71.li 43 = [5, 8] := rfl
@[go_sem] theorem c71_i44 : c71.li 44 = [5] := rfl
@[go_sem] theorem c71_i45 : c71.li 45 = [8] := rfl
@[go_sem] theorem c71_i46 : c71.li 46 = [] := rfl
@[go_sem] theorem c71_i47 : c71.li 47 = [8] := rfl
@[go_sem] theorem c71_r0 (r0 : api_Rec) (K : Env → W) : RP c71 0 [(0, v_api_Rec r0)] K =
    (nwc #[.int .i64 r0.Kind, .int .i64 r0.Txn, .int .i64 r0.Prev, .int .i64 r0.Page, .int .i64 r0.Act, str r0.Key, str r0.Old, str r0.New, .int .i64 r0.Next, .slice r0.Images.1 r0.Images.2.1 r0.Images.2.2, .slice r0.Table.1 r0.Table.2.1 r0.Table.2.2, .int .i64 r0.Epoch, .int .i64 r0.Node] 36 fun y1_ => (K [(1, .pointer (some y1_))])) := by kernel_rfl
@[go_sem] theorem c71_r1 (r1 : Addr) (K : Env → W) : RP c71 1 [(1, .pointer (some r1))] K =
    (nwc #[str (([] : List UInt8)), .int .i64 (0 : Int)] 153 fun y1_ => (K [(1, .pointer (some r1)), (4, .pointer (some y1_))])) := by kernel_rfl
@[go_sem] theorem c71_r2 (r1 : Addr) (w4 : Addr) (K : Env → W) : RP c71 2 [(1, .pointer (some r1)), (4, .pointer (some w4))] K =
    (ld eI r1 fun (y1_ : Int) => (cal eN Tryz.prog 103 #[.pointer (some w4), .int .i64 y1_, .int .i64 (1 : Int)] fun (y2_ : Unit) => (K [(1, .pointer (some r1)), (4, .pointer (some w4))]))) := by kernel_rfl
@[go_sem] theorem c71_r3 (r1 : Addr) (w4 : Addr) (K : Env → W) : RP c71 3 [(1, .pointer (some r1)), (4, .pointer (some w4))] K =
    (K [(1, .pointer (some r1)), (4, .pointer (some w4)), (5, .int .i64 (0 : Int))]) := by kernel_rfl
@[go_sem] theorem c71_r4 (r1 : Addr) (w4 : Addr) (e5 : Int) (K : Env → W) : RP c71 4 [(1, .pointer (some r1)), (4, .pointer (some w4)), (5, .int .i64 e5)] K =
    (ld eI r1 fun (y1_ : Int) => (K [(1, .pointer (some r1)), (4, .pointer (some w4)), (5, .int .i64 e5), (17, .int .i64 y1_)])) := by kernel_rfl
@[go_sem] theorem c71_r5 (K : Env → W) : RP c71 5 [] K =
    (K [(2, str (([] : List UInt8))), (3, .int .i64 (1 : Int))]) := by kernel_rfl
@[go_sem] theorem c71_r6 (r1 : Addr) (w4 : Addr) (e5 : Int) (t17 : Int) (K : Env → W) : RP c71 6 [(1, .pointer (some r1)), (4, .pointer (some w4)), (5, .int .i64 e5), (17, .int .i64 t17)] K =
    (K [(1, .pointer (some r1)), (4, .pointer (some w4)), (5, .int .i64 e5), (17, .int .i64 t17), (18, .bool ((t17 == (1 : Int))))]) := by kernel_rfl
@[go_sem] theorem c71_r7 (r1 : Addr) (w4 : Addr) (K : Env → W) : RP c71 7 [(1, .pointer (some r1)), (4, .pointer (some w4))] K =
    (ld eSl ((r1.add 9)) fun (y1_ : (Option Addr × Nat × Nat)) => (K [(1, .pointer (some r1)), (4, .pointer (some w4)), (23, .bool (((y1_.2.1 : Int) != (1 : Int))))])) := by kernel_rfl
@[go_sem] theorem c71_r8 (K : Env → W) : RP c71 8 [] K =
    (K [(2, str (([] : List UInt8))), (3, .int .i64 (4 : Int))]) := by kernel_rfl
@[go_sem] theorem c71_r9 (r1 : Addr) (w4 : Addr) (K : Env → W) : RP c71 9 [(1, .pointer (some r1)), (4, .pointer (some w4))] K =
    (ld eSl ((r1.add 9)) fun (y1_ : (Option Addr × Nat × Nat)) => (cal eI Tryz.prog 104 #[.pointer (some w4), .slice y1_.1 y1_.2.1 y1_.2.2] fun (y2_ : Int) => (K [(4, .pointer (some w4)), (5, .int .i64 y2_)]))) := by kernel_rfl
@[go_sem] theorem c71_r10 (r1 : Addr) (w4 : Addr) (e5 : Int) (t17 : Int) (K : Env → W) : RP c71 10 [(1, .pointer (some r1)), (4, .pointer (some w4)), (5, .int .i64 e5), (17, .int .i64 t17)] K =
    (K [(1, .pointer (some r1)), (4, .pointer (some w4)), (5, .int .i64 e5), (17, .int .i64 t17), (28, .bool ((t17 == (2 : Int))))]) := by kernel_rfl
@[go_sem] theorem c71_r11 (r1 : Addr) (w4 : Addr) (K : Env → W) : RP c71 11 [(1, .pointer (some r1)), (4, .pointer (some w4))] K =
    (ld eSl ((r1.add 9)) fun (y1_ : (Option Addr × Nat × Nat)) => (cal eI Tryz.prog 104 #[.pointer (some w4), .slice y1_.1 y1_.2.1 y1_.2.2] fun (y2_ : Int) => (K [(4, .pointer (some w4)), (5, .int .i64 y2_)]))) := by kernel_rfl
@[go_sem] theorem c71_r12 (r1 : Addr) (w4 : Addr) (e5 : Int) (t17 : Int) (K : Env → W) : RP c71 12 [(1, .pointer (some r1)), (4, .pointer (some w4)), (5, .int .i64 e5), (17, .int .i64 t17)] K =
    (K [(1, .pointer (some r1)), (4, .pointer (some w4)), (5, .int .i64 e5), (17, .int .i64 t17), (34, .bool ((t17 == (6 : Int))))]) := by kernel_rfl
@[go_sem] theorem c71_r13 (r1 : Addr) (w4 : Addr) (K : Env → W) : RP c71 13 [(1, .pointer (some r1)), (4, .pointer (some w4))] K =
    (ld eI ((r1.add 4)) fun (y1_ : Int) => (cnd ((decide (y1_ < (3 : Int)))) (K [(1, .pointer (some r1)), (4, .pointer (some w4)), (43, .bool true)]) (ld eI ((r1.add 4)) fun (y2_ : Int) => (K [(1, .pointer (some r1)), (4, .pointer (some w4)), (43, .bool ((decide ((5 : Int) < y2_))))])))) := by kernel_rfl
@[go_sem] theorem c71_r14 (K : Env → W) : RP c71 14 [] K =
    (K [(2, str (([] : List UInt8))), (3, .int .i64 (4 : Int))]) := by kernel_rfl
@[go_sem] theorem c71_r15 (r1 : Addr) (w4 : Addr) (K : Env → W) : RP c71 15 [(1, .pointer (some r1)), (4, .pointer (some w4))] K =
    (ld eS ((r1.add 5)) fun (y1_ : List UInt8) => (ld eS ((r1.add 6)) fun (y2_ : List UInt8) => (ld eS ((r1.add 7)) fun (y3_ : List UInt8) => (nwc #[str y2_, str y3_] 9 fun y4_ => (cal eI Tryz.prog 105 #[str y1_, .slice ((some y4_)) 2 2] fun (y5_ : Int) => (K [(1, .pointer (some r1)), (4, .pointer (some w4)), (5, .int .i64 y5_)])))))) := by kernel_rfl
@[go_sem] theorem c71_r16 (r1 : Addr) (w4 : Addr) (e5 : Int) (K : Env → W) : RP c71 16 [(1, .pointer (some r1)), (4, .pointer (some w4)), (5, .int .i64 e5)] K =
    (ldn e_api_Rec 13 r1 fun (y1_ : api_Rec) => (cal eN Tryz.prog 106 #[.pointer (some w4), v_api_Rec y1_] fun (y2_ : Unit) => (K [(1, .pointer (some r1)), (4, .pointer (some w4)), (5, .int .i64 e5)]))) := by kernel_rfl
@[go_sem] theorem c71_r17 (r1 : Addr) (w4 : Addr) (e5 : Int) (K : Env → W) : RP c71 17 [(1, .pointer (some r1)), (4, .pointer (some w4)), (5, .int .i64 e5)] K =
    (ld eI ((r1.add 8)) fun (y1_ : Int) => (cal eN Tryz.prog 103 #[.pointer (some w4), .int .i64 y1_, .int .i64 (6 : Int)] fun (y2_ : Unit) => (K [(1, .pointer (some r1)), (4, .pointer (some w4)), (5, .int .i64 e5)]))) := by kernel_rfl
@[go_sem] theorem c71_r18 (r1 : Addr) (w4 : Addr) (e5 : Int) (K : Env → W) : RP c71 18 [(1, .pointer (some r1)), (4, .pointer (some w4)), (5, .int .i64 e5)] K =
    (ld eI ((r1.add 4)) fun (y1_ : Int) => (cal eN Tryz.prog 103 #[.pointer (some w4), .int .i64 y1_, .int .i64 (1 : Int)] fun (y2_ : Unit) => (K [(1, .pointer (some r1)), (4, .pointer (some w4)), (5, .int .i64 e5)]))) := by kernel_rfl
@[go_sem] theorem c71_r19 (r1 : Addr) (w4 : Addr) (e5 : Int) (K : Env → W) : RP c71 19 [(1, .pointer (some r1)), (4, .pointer (some w4)), (5, .int .i64 e5)] K =
    (ldn e_api_Rec 13 r1 fun (y1_ : api_Rec) => (ld eI ((r1.add 4)) fun (y2_ : Int) => (cal eN Tryz.prog 107 #[.pointer (some w4), v_api_Rec y1_, .int .i64 y2_] fun (y3_ : Unit) => (K [(4, .pointer (some w4)), (5, .int .i64 e5)])))) := by kernel_rfl
@[go_sem] theorem c71_r20 (r1 : Addr) (w4 : Addr) (e5 : Int) (t17 : Int) (K : Env → W) : RP c71 20 [(1, .pointer (some r1)), (4, .pointer (some w4)), (5, .int .i64 e5), (17, .int .i64 t17)] K =
    (K [(1, .pointer (some r1)), (4, .pointer (some w4)), (5, .int .i64 e5), (17, .int .i64 t17), (68, .bool ((t17 == (3 : Int))))]) := by kernel_rfl
@[go_sem] theorem c71_r21 (r1 : Addr) (w4 : Addr) (e5 : Int) (t17 : Int) (K : Env → W) : RP c71 21 [(1, .pointer (some r1)), (4, .pointer (some w4)), (5, .int .i64 e5), (17, .int .i64 t17)] K =
    (K [(1, .pointer (some r1)), (4, .pointer (some w4)), (5, .int .i64 e5), (17, .int .i64 t17), (68, .bool ((t17 == (4 : Int))))]) := by kernel_rfl
@[go_sem] theorem c71_r22 (r1 : Addr) (w4 : Addr) (e5 : Int) (t17 : Int) (K : Env → W) : RP c71 22 [(1, .pointer (some r1)), (4, .pointer (some w4)), (5, .int .i64 e5), (17, .int .i64 t17)] K =
    (K [(1, .pointer (some r1)), (4, .pointer (some w4)), (5, .int .i64 e5), (17, .int .i64 t17), (68, .bool ((t17 == (5 : Int))))]) := by kernel_rfl
@[go_sem] theorem c71_r23 (r1 : Addr) (w4 : Addr) (K : Env → W) : RP c71 23 [(1, .pointer (some r1)), (4, .pointer (some w4))] K =
    (ld eS ((r1.add 5)) fun (y1_ : List UInt8) => (ld eS ((r1.add 6)) fun (y2_ : List UInt8) => (ld eS ((r1.add 7)) fun (y3_ : List UInt8) => (nwc #[str y2_, str y3_] 9 fun y4_ => (cal eI Tryz.prog 105 #[str y1_, .slice ((some y4_)) 2 2] fun (y5_ : Int) => (K [(1, .pointer (some r1)), (4, .pointer (some w4)), (5, .int .i64 y5_)])))))) := by kernel_rfl
@[go_sem] theorem c71_r24 (r1 : Addr) (w4 : Addr) (e5 : Int) (K : Env → W) : RP c71 24 [(1, .pointer (some r1)), (4, .pointer (some w4)), (5, .int .i64 e5)] K =
    (ldn e_api_Rec 13 r1 fun (y1_ : api_Rec) => (cal eN Tryz.prog 106 #[.pointer (some w4), v_api_Rec y1_] fun (y2_ : Unit) => (K [(1, .pointer (some r1)), (4, .pointer (some w4)), (5, .int .i64 e5)]))) := by kernel_rfl
@[go_sem] theorem c71_r25 (r1 : Addr) (w4 : Addr) (e5 : Int) (K : Env → W) : RP c71 25 [(1, .pointer (some r1)), (4, .pointer (some w4)), (5, .int .i64 e5)] K =
    (ldn e_api_Rec 13 r1 fun (y1_ : api_Rec) => (ld eI r1 fun (y2_ : Int) => (cal eN Tryz.prog 107 #[.pointer (some w4), v_api_Rec y1_, .int .i64 y2_] fun (y3_ : Unit) => (K [(4, .pointer (some w4)), (5, .int .i64 e5)])))) := by kernel_rfl
@[go_sem] theorem c71_r26 (r1 : Addr) (w4 : Addr) (e5 : Int) (t17 : Int) (K : Env → W) : RP c71 26 [(1, .pointer (some r1)), (4, .pointer (some w4)), (5, .int .i64 e5), (17, .int .i64 t17)] K =
    (K [(1, .pointer (some r1)), (4, .pointer (some w4)), (5, .int .i64 e5), (17, .int .i64 t17), (88, .bool ((t17 == (7 : Int))))]) := by kernel_rfl
@[go_sem] theorem c71_r27 (r1 : Addr) (w4 : Addr) (e5 : Int) (t17 : Int) (K : Env → W) : RP c71 27 [(1, .pointer (some r1)), (4, .pointer (some w4)), (5, .int .i64 e5), (17, .int .i64 t17)] K =
    (K [(1, .pointer (some r1)), (4, .pointer (some w4)), (5, .int .i64 e5), (17, .int .i64 t17), (88, .bool ((t17 == (8 : Int))))]) := by kernel_rfl
@[go_sem] theorem c71_r28 (r1 : Addr) (w4 : Addr) (e5 : Int) (K : Env → W) : RP c71 28 [(1, .pointer (some r1)), (4, .pointer (some w4)), (5, .int .i64 e5)] K =
    (ldn e_api_Rec 13 r1 fun (y1_ : api_Rec) => (cal eN Tryz.prog 106 #[.pointer (some w4), v_api_Rec y1_] fun (y2_ : Unit) => (K [(4, .pointer (some w4)), (5, .int .i64 e5)]))) := by kernel_rfl
@[go_sem] theorem c71_r29 (r1 : Addr) (w4 : Addr) (e5 : Int) (t17 : Int) (K : Env → W) : RP c71 29 [(1, .pointer (some r1)), (4, .pointer (some w4)), (5, .int .i64 e5), (17, .int .i64 t17)] K =
    (K [(1, .pointer (some r1)), (4, .pointer (some w4)), (5, .int .i64 e5), (17, .int .i64 t17), (94, .bool ((t17 == (9 : Int))))]) := by kernel_rfl
@[go_sem] theorem c71_r30 (r1 : Addr) (w4 : Addr) (e5 : Int) (K : Env → W) : RP c71 30 [(1, .pointer (some r1)), (4, .pointer (some w4)), (5, .int .i64 e5)] K =
    (ld eSl ((r1.add 10)) fun (y1_ : (Option Addr × Nat × Nat)) => (cal eN Tryz.prog 103 #[.pointer (some w4), .int .i64 ((y1_.2.1 : Int)), .int .i64 (1 : Int)] fun (y2_ : Unit) => (K [(1, .pointer (some r1)), (4, .pointer (some w4)), (5, .int .i64 e5)]))) := by kernel_rfl
@[go_sem] theorem c71_r31 (r1 : Addr) (w4 : Addr) (e5 : Int) (K : Env → W) : RP c71 31 [(1, .pointer (some r1)), (4, .pointer (some w4)), (5, .int .i64 e5)] K =
    (ld eSl ((r1.add 10)) fun (y1_ : (Option Addr × Nat × Nat)) => (K [(4, .pointer (some w4)), (5, .int .i64 e5), (102, .slice y1_.1 y1_.2.1 y1_.2.2), (103, .int .i64 ((y1_.2.1 : Int))), (104, .int .i64 (0 : Int))])) := by kernel_rfl
@[go_sem] theorem c71_r32 (w4 : Addr) (e5 : Int) (t102p : Option Addr) (t102n t102c : Nat) (t103 : Int) (t104 : Int) (K : Env → W) : RP c71 32 [(4, .pointer (some w4)), (5, .int .i64 e5), (102, .slice t102p t102n t102c), (103, .int .i64 t103), (104, .int .i64 t104)] K =
    (K [(4, .pointer (some w4)), (5, .int .i64 e5), (102, .slice t102p t102n t102c), (103, .int .i64 t103), (104, .int .i64 t104), (105, .bool ((decide (t104 < t103))))]) := by kernel_rfl
@[go_sem] theorem c71_r33 (w4 : Addr) (e5 : Int) (t102p : Option Addr) (t102n t102c : Nat) (t103 : Int) (t104 : Int) (K : Env → W) : RP c71 33 [(4, .pointer (some w4)), (5, .int .i64 e5), (102, .slice t102p t102n t102c), (103, .int .i64 t103), (104, .int .i64 t104)] K =
    (rq (0 ≤ t104 ∧ t104 < (t102n : Int)) (nn t102p fun y1_ => (ldn e_api_Active 2 ((Addr.add y1_ ((t104).toNat * 2))) fun (y2_ : api_Active) => (nwc #[.int .i64 (0 : Int), .int .i64 (0 : Int)] 125 fun y3_ => (stl [.int .i64 y2_.Txn, .int .i64 y2_.Last] y3_ 0 (K [(4, .pointer (some w4)), (5, .int .i64 e5), (7, .pointer (some y3_)), (102, .slice t102p t102n t102c), (103, .int .i64 t103), (104, .int .i64 t104)])))))) := by kernel_rfl
@[go_sem] theorem c71_r34 (w4 : Addr) (e5 : Int) (a7 : Addr) (t102p : Option Addr) (t102n t102c : Nat) (t103 : Int) (t104 : Int) (K : Env → W) : RP c71 34 [(4, .pointer (some w4)), (5, .int .i64 e5), (7, .pointer (some a7)), (102, .slice t102p t102n t102c), (103, .int .i64 t103), (104, .int .i64 t104)] K =
    (ld eI a7 fun (y1_ : Int) => (cal eN Tryz.prog 103 #[.pointer (some w4), .int .i64 y1_, .int .i64 (6 : Int)] fun (y2_ : Unit) => (K [(4, .pointer (some w4)), (5, .int .i64 e5), (7, .pointer (some a7)), (102, .slice t102p t102n t102c), (103, .int .i64 t103), (104, .int .i64 t104)]))) := by kernel_rfl
@[go_sem] theorem c71_r35 (w4 : Addr) (e5 : Int) (a7 : Addr) (t102p : Option Addr) (t102n t102c : Nat) (t103 : Int) (t104 : Int) (K : Env → W) : RP c71 35 [(4, .pointer (some w4)), (5, .int .i64 e5), (7, .pointer (some a7)), (102, .slice t102p t102n t102c), (103, .int .i64 t103), (104, .int .i64 t104)] K =
    (ld eI ((a7.add 1)) fun (y1_ : Int) => (cal eN Tryz.prog 103 #[.pointer (some w4), .int .i64 y1_, .int .i64 (6 : Int)] fun (y2_ : Unit) => (K [(4, .pointer (some w4)), (5, .int .i64 e5), (102, .slice t102p t102n t102c), (103, .int .i64 t103), (104, .int .i64 t104)]))) := by kernel_rfl
@[go_sem] theorem c71_r36 (w4 : Addr) (e5 : Int) (t102p : Option Addr) (t102n t102c : Nat) (t103 : Int) (t104 : Int) (K : Env → W) : RP c71 36 [(4, .pointer (some w4)), (5, .int .i64 e5), (102, .slice t102p t102n t102c), (103, .int .i64 t103), (104, .int .i64 t104)] K =
    (K [(4, .pointer (some w4)), (5, .int .i64 e5), (102, .slice t102p t102n t102c), (103, .int .i64 t103), (104, .int .i64 ((IntKind.wrap .i64 (t104 + (1 : Int)))))]) := by kernel_rfl
@[go_sem] theorem c71_r37 (r1 : Addr) (w4 : Addr) (e5 : Int) (t17 : Int) (K : Env → W) : RP c71 37 [(1, .pointer (some r1)), (4, .pointer (some w4)), (5, .int .i64 e5), (17, .int .i64 t17)] K =
    (K [(1, .pointer (some r1)), (4, .pointer (some w4)), (5, .int .i64 e5), (117, .bool ((t17 == (10 : Int))))]) := by kernel_rfl
@[go_sem] theorem c71_r38 (r1 : Addr) (w4 : Addr) (e5 : Int) (K : Env → W) : RP c71 38 [(1, .pointer (some r1)), (4, .pointer (some w4)), (5, .int .i64 e5)] K =
    (ld eI ((r1.add 11)) fun (y1_ : Int) => (cal eN Tryz.prog 103 #[.pointer (some w4), .int .i64 y1_, .int .i64 (4 : Int)] fun (y2_ : Unit) => (K [(1, .pointer (some r1)), (4, .pointer (some w4)), (5, .int .i64 e5)]))) := by kernel_rfl
@[go_sem] theorem c71_r39 (r1 : Addr) (w4 : Addr) (e5 : Int) (K : Env → W) : RP c71 39 [(1, .pointer (some r1)), (4, .pointer (some w4)), (5, .int .i64 e5)] K =
    (ld eI ((r1.add 12)) fun (y1_ : Int) => (cal eN Tryz.prog 103 #[.pointer (some w4), .int .i64 y1_, .int .i64 (1 : Int)] fun (y2_ : Unit) => (K [(4, .pointer (some w4)), (5, .int .i64 e5)]))) := by kernel_rfl
@[go_sem] theorem c71_r40 (w4 : Addr) (e5 : Int) (K : Env → W) : RP c71 40 [(4, .pointer (some w4)), (5, .int .i64 e5)] K =
    (cal (eT2 eS eI) Tryz.prog 108 #[.pointer (some w4)] fun (y1_ : ((List UInt8) × Int)) => (K [(5, .int .i64 e5), (8, str y1_.1), (9, .int .i64 y1_.2)])) := by kernel_rfl
@[go_sem] theorem c71_r41 (e5 : Int) (s8 : List UInt8) (f9 : Int) (K : Env → W) : RP c71 41 [(5, .int .i64 e5), (8, str s8), (9, .int .i64 f9)] K =
    (K [(5, .int .i64 e5), (8, str s8), (9, .int .i64 f9), (133, .bool ((e5 == (0 : Int))))]) := by kernel_rfl
@[go_sem] theorem c71_r42 (s8 : List UInt8) (f9 : Int) (K : Env → W) : RP c71 42 [(8, str s8), (9, .int .i64 f9)] K =
    (K [(5, .int .i64 f9), (8, str s8)]) := by kernel_rfl
@[go_sem] theorem c71_r43 (e5 : Int) (s8 : List UInt8) (K : Env → W) : RP c71 43 [(5, .int .i64 e5), (8, str s8)] K =
    (K [(5, .int .i64 e5), (8, str s8), (136, .bool ((e5 != (0 : Int))))]) := by kernel_rfl
@[go_sem] theorem c71_r44 (e5 : Int) (K : Env → W) : RP c71 44 [(5, .int .i64 e5)] K =
    (K [(2, str (([] : List UInt8))), (3, .int .i64 e5)]) := by kernel_rfl
@[go_sem] theorem c71_r45 (s8 : List UInt8) (K : Env → W) : RP c71 45 [(8, str s8)] K =
    (K [(8, str s8), (140, .bool ((decide ((4096 : Int) < ((s8).length : Int)))))]) := by kernel_rfl
@[go_sem] theorem c71_r46 (K : Env → W) : RP c71 46 [] K =
    (K [(2, str (([] : List UInt8))), (3, .int .i64 (3 : Int))]) := by kernel_rfl
@[go_sem] theorem c71_r47 (s8 : List UInt8) (K : Env → W) : RP c71 47 [(8, str s8)] K =
    (K [(2, str s8), (3, .int .i64 (0 : Int))]) := by kernel_rfl
@[go_sem] theorem c71_o : c71.lo 1000000 = [2, 3] := rfl
@[go_sem] theorem c71_e (t2 : List UInt8) (t3 : Int) (k : Value → W) : RTp c71 [(2, str t2), (3, .int .i64 t3)] k = (k (.tuple #[str t2, .int .i64 t3])) := by kernel_rfl
theorem c71_ok : (c71.P.follows .mixedOrders && okc c71 c71.body) = true := by kernel_rfl
theorem c71_fn {e : Enc} {args : Array Value} {G : e.α → W} {L : List HP} {ρ : Env} (hρ : envA 0 args.toList = ρ) (hs : Nat.ble args.size 142 = true) (h : E L (D c71 (.seq (.reg 0) (.seq (.reg 1) (.seq (.reg 2) (.seq (.reg 3) (.seq (.seq (.reg 4) (.block 0 (.seq (.reg 6) (.cond (.tmp 18) (.seq (.seq (.reg 7) (.cond (.tmp 23) (.seq (.reg 8) (.ret)) (.skip))) (.reg 9)) (.seq (.reg 10) (.cond (.tmp 28) (.reg 11) (.seq (.reg 12) (.cond (.tmp 34) (.seq (.seq (.reg 13) (.cond (.tmp 43) (.seq (.reg 14) (.ret)) (.skip))) (.seq (.reg 15) (.seq (.reg 16) (.seq (.reg 17) (.seq (.reg 18) (.reg 19)))))) (.seq (.seq (.reg 20) (.cond (.tmp 68) (.skip) (.seq (.reg 21) (.cond (.tmp 68) (.skip) (.reg 22))))) (.cond (.tmp 68) (.seq (.reg 23) (.seq (.reg 24) (.reg 25))) (.seq (.seq (.reg 26) (.cond (.tmp 88) (.skip) (.reg 27))) (.cond (.tmp 88) (.reg 28) (.seq (.reg 29) (.cond (.tmp 94) (.seq (.reg 30) (.seq (.reg 31) (.block 1 (.loop (.seq (.reg 32) (.seq (.cond (.tmp 105) (.skip) (.exit 1)) (.seq (.block 2 (.seq (.reg 33) (.seq (.reg 34) (.reg 35)))) (.reg 36)))))))) (.seq (.reg 37) (.cond (.tmp 117) (.seq (.reg 38) (.reg 39)) (.seq (.reg 5) (.ret)))))))))))))))))) (.seq (.reg 40) (.seq (.seq (.reg 41) (.cond (.tmp 133) (.reg 42) (.skip))) (.seq (.seq (.reg 43) (.cond (.tmp 136) (.seq (.reg 44) (.ret)) (.skip))) (.seq (.seq (.reg 45) (.cond (.tmp 140) (.seq (.reg 46) (.ret)) (.skip))) (.seq (.reg 47) (.ret))))))))))) (fnQ c71 e G) ρ)) : E L (cal e Tryz.prog 71 args G) :=
  d_fn (c := c71) Tryz.func71 (by kernel_rfl) (by kernel_rfl) (by kernel_rfl) c71_ok (by kernel_rfl) (by kernel_rfl) hρ hs h
-- loop (first region 32): live slots 4:w4 5:e5 102:t102 103:t103 104:t104, of which it writes [104]
/-! gharry.rec.Clean -/
noncomputable def c72 : Cfg := { P := Tryz.prog, n := 92, T := TT, body := (Tryz.f72.body).getD .skip, res := Tryz.f72.results.toList, li := lk [] [(0, [0]), (1, [1, 2]), (2, [1, 2, 3]), (3, [1, 2, 3, 8]), (4, [1, 2, 3, 8]), (5, [1, 2, 3]), (6, [1, 2, 3, 8]), (7, [1, 2, 3, 8]), (8, [1, 2, 3, 8]), (9, [1, 2, 3]), (10, [1, 2, 3]), (11, [1, 2, 3, 8]), (12, [1, 2, 3]), (13, [1, 2, 3]), (14, [1, 2, 3, 8]), (15, [1, 2, 3, 8]), (16, [1, 2, 3]), (17, [1, 2, 3, 8]), (18, [1, 2, 3]), (19, [1, 2, 3, 8]), (20, [1, 2, 3]), (21, [2, 3])], lo := lk [] [(0, [1, 2]), (1, [1, 2, 3]), (2, [1, 2, 3, 8]), (3, [1, 2, 3, 8, 9]), (4, [1, 2, 3, 8, 9]), (5, [2, 3]), (6, [1, 2, 3, 8, 15]), (7, [1, 2, 3, 8, 15]), (8, [1, 2, 3, 8, 15]), (9, [1, 2, 3]), (10, [2, 3]), (11, [1, 2, 3, 8, 40]), (12, [1, 2, 3]), (13, [2, 3]), (14, [1, 2, 3, 8, 69]), (15, [1, 2, 3, 8, 69]), (16, [2, 3]), (17, [1, 2, 3, 8, 78]), (18, [2, 3]), (19, [1, 2, 3, 83]), (20, [2, 3]), (21, [2]), (1000000, [2])], ord := lk (false, []) [(9, (true, [(0, 1), (1, 0), (2, 1), (3, 0), (4, 1), (5, 0), (6, 1), (7, 0), (8, 1), (9, 0), (10, 1), (11, 0), (12, 1), (13, 2), (14, 1), (15, 2), (16, 1), (17, 2), (18, 1), (19, 2), (20, 1), (21, 2), (22, 1), (23, 4)])), (12, (true, [(0, 1), (1, 0), (2, 1), (3, 0), (4, 1), (5, 0), (6, 1), (7, 0), (8, 1), (9, 0), (10, 1), (11, 0), (12, 1), (13, 0), (14, 1), (15, 0), (16, 1), (17, 2), (18, 1), (19, 2), (20, 1), (21, 2), (22, 1), (23, 2), (24, 1), (25, 2), (26, 1), (27, 2), (28, 1), (29, 2), (30, 1), (31, 4)])), (16, (true, [(0, 1), (1, 0), (2, 1), (3, 0), (4, 1), (5, 2), (6, 1), (7, 4)])), (20, (true, [(0, 1), (1, 0), (2, 1), (3, 0), (4, 1), (5, 2), (6, 1), (7, 4)]))] }
@[go_sem] theorem c72_i0 : c72.li 0 = [0] := rfl
@[go_sem] theorem c72_i1 : c72.li 1 = [1, 2] := rfl
@[go_sem] theorem c72_i2 : c72.li 2 = [1, 2, 3] := rfl
@[go_sem] theorem c72_i3 : c72.li 3 = [1, 2, 3, 8] := rfl
@[go_sem] theorem c72_i4 : c72.li 4 = [1, 2, 3, 8] := rfl
@[go_sem] theorem c72_i5 : c72.li 5 = [1, 2, 3] := rfl
@[go_sem] theorem c72_i6 : c72.li 6 = [1, 2, 3, 8] := rfl
@[go_sem] theorem c72_i7 : c72.li 7 = [1, 2, 3, 8] := rfl
@[go_sem] theorem c72_i8 : c72.li 8 = [1, 2, 3, 8] := rfl
@[go_sem] theorem c72_i9 : c72.li 9 = [1, 2, 3] := rfl
@[go_sem] theorem c72_i10 : c72.li 10 = [1, 2, 3] := rfl
@[go_sem] theorem c72_i11 : c72.li 11 = [1, 2, 3, 8] := rfl
@[go_sem] theorem c72_i12 : c72.li 12 = [1, 2, 3] := rfl
@[go_sem] theorem c72_i13 : c72.li 13 = [1, 2, 3] := rfl
@[go_sem] theorem c72_i14 : c72.li 14 = [1, 2, 3, 8] := rfl
@[go_sem] theorem c72_i15 : c72.li 15 = [1, 2, 3, 8] := rfl
@[go_sem] theorem c72_i16 : c72.li 16 = [1, 2, 3] := rfl
@[go_sem] theorem c72_i17 : c72.li 17 = [1, 2, 3, 8] := rfl
@[go_sem] theorem c72_i18 : c72.li 18 = [1, 2, 3] := rfl
@[go_sem] theorem c72_i19 : c72.li 19 = [1, 2, 3, 8] := rfl
@[go_sem] theorem c72_i20 : c72.li 20 = [1, 2, 3] := rfl
@[go_sem] theorem c72_i21 : c72.li 21 = [2, 3] := rfl
@[go_sem] theorem c72_r0 (r0 : api_Rec) (K : Env → W) : RP c72 0 [(0, v_api_Rec r0)] K =
    (nwc #[.int .i64 r0.Kind, .int .i64 r0.Txn, .int .i64 r0.Prev, .int .i64 r0.Page, .int .i64 r0.Act, str r0.Key, str r0.Old, str r0.New, .int .i64 r0.Next, .slice r0.Images.1 r0.Images.2.1 r0.Images.2.2, .slice r0.Table.1 r0.Table.2.1 r0.Table.2.2, .int .i64 r0.Epoch, .int .i64 r0.Node] 36 fun y1_ => (nwc #[.int .i64 (0 : Int), .int .i64 (0 : Int), .int .i64 (0 : Int), .int .i64 (0 : Int), .int .i64 (0 : Int), str (([] : List UInt8)), str (([] : List UInt8)), str (([] : List UInt8)), .int .i64 (0 : Int), .slice none 0 0, .slice none 0 0, .int .i64 (0 : Int), .int .i64 (0 : Int)] 36 fun y2_ => (K [(1, .pointer (some y1_)), (2, .pointer (some y2_))]))) := by kernel_rfl
@[go_sem] theorem c72_r1 (r1 : Addr) (t2 : Addr) (K : Env → W) : RP c72 1 [(1, .pointer (some r1)), (2, .pointer (some t2))] K =
    (ld eI r1 fun (y1_ : Int) => (nwc #[.int .i64 (0 : Int), .int .i64 (0 : Int), .int .i64 (0 : Int), .int .i64 (0 : Int), .int .i64 (0 : Int), str (([] : List UInt8)), str (([] : List UInt8)), str (([] : List UInt8)), .int .i64 (0 : Int), .slice none 0 0, .slice none 0 0, .int .i64 (0 : Int), .int .i64 (0 : Int)] 36 fun y2_ => (stl [.int .i64 (y1_), .int .i64 (0 : Int), .int .i64 (0 : Int), .int .i64 (0 : Int), .int .i64 (0 : Int), str (([] : List UInt8)), str (([] : List UInt8)), str (([] : List UInt8)), .int .i64 (0 : Int), .slice none 0 0, .slice none 0 0, .int .i64 (0 : Int), .int .i64 (0 : Int)] y2_ 0 (K [(1, .pointer (some r1)), (2, .pointer (some t2)), (3, .pointer (some y2_))])))) := by kernel_rfl
@[go_sem] theorem c72_r2 (r1 : Addr) (t2 : Addr) (out3 : Addr) (K : Env → W) : RP c72 2 [(1, .pointer (some r1)), (2, .pointer (some t2)), (3, .pointer (some out3))] K =
    (ld eI r1 fun (y1_ : Int) => (K [(1, .pointer (some r1)), (2, .pointer (some t2)), (3, .pointer (some out3)), (8, .int .i64 y1_)])) := by kernel_rfl
@[go_sem] theorem c72_r3 (r1 : Addr) (t2 : Addr) (out3 : Addr) (t8 : Int) (K : Env → W) : RP c72 3 [(1, .pointer (some r1)), (2, .pointer (some t2)), (3, .pointer (some out3)), (8, .int .i64 t8)] K =
    (K [(1, .pointer (some r1)), (2, .pointer (some t2)), (3, .pointer (some out3)), (8, .int .i64 t8), (9, .bool ((t8 == (1 : Int))))]) := by kernel_rfl
@[go_sem] theorem c72_r4 (r1 : Addr) (t2 : Addr) (out3 : Addr) (t8 : Int) (K : Env → W) : RP c72 4 [(1, .pointer (some r1)), (2, .pointer (some t2)), (3, .pointer (some out3)), (8, .int .i64 t8)] K =
    (K [(1, .pointer (some r1)), (2, .pointer (some t2)), (3, .pointer (some out3)), (8, .int .i64 t8), (9, .bool ((t8 == (2 : Int))))]) := by kernel_rfl
@[go_sem] theorem c72_r5 (r1 : Addr) (t2 : Addr) (out3 : Addr) (K : Env → W) : RP c72 5 [(1, .pointer (some r1)), (2, .pointer (some t2)), (3, .pointer (some out3))] K =
    (ld eSl ((r1.add 9)) fun (y1_ : (Option Addr × Nat × Nat)) => (st ((out3.add 9)) (.slice y1_.1 y1_.2.1 y1_.2.2) (K [(2, .pointer (some t2)), (3, .pointer (some out3))]))) := by kernel_rfl
@[go_sem] theorem c72_r6 (r1 : Addr) (t2 : Addr) (out3 : Addr) (t8 : Int) (K : Env → W) : RP c72 6 [(1, .pointer (some r1)), (2, .pointer (some t2)), (3, .pointer (some out3)), (8, .int .i64 t8)] K =
    (K [(1, .pointer (some r1)), (2, .pointer (some t2)), (3, .pointer (some out3)), (8, .int .i64 t8), (15, .bool ((t8 == (3 : Int))))]) := by kernel_rfl
@[go_sem] theorem c72_r7 (r1 : Addr) (t2 : Addr) (out3 : Addr) (t8 : Int) (K : Env → W) : RP c72 7 [(1, .pointer (some r1)), (2, .pointer (some t2)), (3, .pointer (some out3)), (8, .int .i64 t8)] K =
    (K [(1, .pointer (some r1)), (2, .pointer (some t2)), (3, .pointer (some out3)), (8, .int .i64 t8), (15, .bool ((t8 == (4 : Int))))]) := by kernel_rfl
@[go_sem] theorem c72_r8 (r1 : Addr) (t2 : Addr) (out3 : Addr) (t8 : Int) (K : Env → W) : RP c72 8 [(1, .pointer (some r1)), (2, .pointer (some t2)), (3, .pointer (some out3)), (8, .int .i64 t8)] K =
    (K [(1, .pointer (some r1)), (2, .pointer (some t2)), (3, .pointer (some out3)), (8, .int .i64 t8), (15, .bool ((t8 == (5 : Int))))]) := by kernel_rfl
@[go_sem] theorem c72_r9 (r1 : Addr) (t2 : Addr) (out3 : Addr) (K : Env → W) : RP c72 9 [(1, .pointer (some r1)), (2, .pointer (some t2)), (3, .pointer (some out3))] K =
    (ph fun S0 => (ldq S0 eI ((r1.add 1)) fun (y1_ : Int) => (ldq S0 eI ((r1.add 2)) fun (y2_ : Int) => (ldq S0 eI ((r1.add 3)) fun (y3_ : Int) => (ldq S0 eS ((r1.add 5)) fun (y4_ : List UInt8) => (ldq S0 eS ((r1.add 6)) fun (y5_ : List UInt8) => (ldq S0 eS ((r1.add 7)) fun (y6_ : List UInt8) => (st ((out3.add 1)) (.int .i64 y1_) (kpn S0 fun S1 => (st ((out3.add 2)) (.int .i64 y2_) (kpn S1 fun S2 => (st ((out3.add 3)) (.int .i64 y3_) (kpn S2 fun S3 => (st ((out3.add 5)) (str y4_) (kpn S3 fun S4 => (st ((out3.add 6)) (str y5_) (kpn S4 fun S5 => (st ((out3.add 7)) (str y6_) (K [(1, .pointer (some r1)), (2, .pointer (some t2)), (3, .pointer (some out3))]))))))))))))))))))) := by kernel_rfl
@[go_sem] theorem c72_r10 (r1 : Addr) (t2 : Addr) (out3 : Addr) (K : Env → W) : RP c72 10 [(1, .pointer (some r1)), (2, .pointer (some t2)), (3, .pointer (some out3))] K =
    (ld eI r1 fun (y1_ : Int) => (cal eN Tryz.prog 109 #[.pointer (some out3), .int .i64 y1_] fun (y2_ : Unit) => (K [(2, .pointer (some t2)), (3, .pointer (some out3))]))) := by kernel_rfl
@[go_sem] theorem c72_r11 (r1 : Addr) (t2 : Addr) (out3 : Addr) (t8 : Int) (K : Env → W) : RP c72 11 [(1, .pointer (some r1)), (2, .pointer (some t2)), (3, .pointer (some out3)), (8, .int .i64 t8)] K =
    (K [(1, .pointer (some r1)), (2, .pointer (some t2)), (3, .pointer (some out3)), (8, .int .i64 t8), (40, .bool ((t8 == (6 : Int))))]) := by kernel_rfl
@[go_sem] theorem c72_r12 (r1 : Addr) (t2 : Addr) (out3 : Addr) (K : Env → W) : RP c72 12 [(1, .pointer (some r1)), (2, .pointer (some t2)), (3, .pointer (some out3))] K =
    (ph fun S0 => (ldq S0 eI ((r1.add 1)) fun (y1_ : Int) => (ldq S0 eI ((r1.add 2)) fun (y2_ : Int) => (ldq S0 eI ((r1.add 8)) fun (y3_ : Int) => (ldq S0 eI ((r1.add 4)) fun (y4_ : Int) => (ldq S0 eI ((r1.add 3)) fun (y5_ : Int) => (ldq S0 eS ((r1.add 5)) fun (y6_ : List UInt8) => (ldq S0 eS ((r1.add 6)) fun (y7_ : List UInt8) => (ldq S0 eS ((r1.add 7)) fun (y8_ : List UInt8) => (st ((out3.add 1)) (.int .i64 y1_) (kpn S0 fun S1 => (st ((out3.add 2)) (.int .i64 y2_) (kpn S1 fun S2 => (st ((out3.add 8)) (.int .i64 y3_) (kpn S2 fun S3 => (st ((out3.add 4)) (.int .i64 y4_) (kpn S3 fun S4 => (st ((out3.add 3)) (.int .i64 y5_) (kpn S4 fun S5 => (st ((out3.add 5)) (str y6_) (kpn S5 fun S6 => (st ((out3.add 6)) (str y7_) (kpn S6 fun S7 => (st ((out3.add 7)) (str y8_) (K [(1, .pointer (some r1)), (2, .pointer (some t2)), (3, .pointer (some out3))]))))))))))))))))))))))))) := by kernel_rfl
@[go_sem] theorem c72_r13 (r1 : Addr) (t2 : Addr) (out3 : Addr) (K : Env → W) : RP c72 13 [(1, .pointer (some r1)), (2, .pointer (some t2)), (3, .pointer (some out3))] K =
    (ld eI ((r1.add 4)) fun (y1_ : Int) => (cal eN Tryz.prog 109 #[.pointer (some out3), .int .i64 y1_] fun (y2_ : Unit) => (K [(2, .pointer (some t2)), (3, .pointer (some out3))]))) := by kernel_rfl
@[go_sem] theorem c72_r14 (r1 : Addr) (t2 : Addr) (out3 : Addr) (t8 : Int) (K : Env → W) : RP c72 14 [(1, .pointer (some r1)), (2, .pointer (some t2)), (3, .pointer (some out3)), (8, .int .i64 t8)] K =
    (K [(1, .pointer (some r1)), (2, .pointer (some t2)), (3, .pointer (some out3)), (8, .int .i64 t8), (69, .bool ((t8 == (7 : Int))))]) := by kernel_rfl
@[go_sem] theorem c72_r15 (r1 : Addr) (t2 : Addr) (out3 : Addr) (t8 : Int) (K : Env → W) : RP c72 15 [(1, .pointer (some r1)), (2, .pointer (some t2)), (3, .pointer (some out3)), (8, .int .i64 t8)] K =
    (K [(1, .pointer (some r1)), (2, .pointer (some t2)), (3, .pointer (some out3)), (8, .int .i64 t8), (69, .bool ((t8 == (8 : Int))))]) := by kernel_rfl
@[go_sem] theorem c72_r16 (r1 : Addr) (t2 : Addr) (out3 : Addr) (K : Env → W) : RP c72 16 [(1, .pointer (some r1)), (2, .pointer (some t2)), (3, .pointer (some out3))] K =
    (ph fun S0 => (ldq S0 eI ((r1.add 1)) fun (y1_ : Int) => (ldq S0 eI ((r1.add 2)) fun (y2_ : Int) => (st ((out3.add 1)) (.int .i64 y1_) (kpn S0 fun S1 => (st ((out3.add 2)) (.int .i64 y2_) (K [(2, .pointer (some t2)), (3, .pointer (some out3))]))))))) := by kernel_rfl
@[go_sem] theorem c72_r17 (r1 : Addr) (t2 : Addr) (out3 : Addr) (t8 : Int) (K : Env → W) : RP c72 17 [(1, .pointer (some r1)), (2, .pointer (some t2)), (3, .pointer (some out3)), (8, .int .i64 t8)] K =
    (K [(1, .pointer (some r1)), (2, .pointer (some t2)), (3, .pointer (some out3)), (8, .int .i64 t8), (78, .bool ((t8 == (9 : Int))))]) := by kernel_rfl
@[go_sem] theorem c72_r18 (r1 : Addr) (t2 : Addr) (out3 : Addr) (K : Env → W) : RP c72 18 [(1, .pointer (some r1)), (2, .pointer (some t2)), (3, .pointer (some out3))] K =
    (ld eSl ((r1.add 10)) fun (y1_ : (Option Addr × Nat × Nat)) => (st ((out3.add 10)) (.slice y1_.1 y1_.2.1 y1_.2.2) (K [(2, .pointer (some t2)), (3, .pointer (some out3))]))) := by kernel_rfl
@[go_sem] theorem c72_r19 (r1 : Addr) (t2 : Addr) (out3 : Addr) (t8 : Int) (K : Env → W) : RP c72 19 [(1, .pointer (some r1)), (2, .pointer (some t2)), (3, .pointer (some out3)), (8, .int .i64 t8)] K =
    (K [(1, .pointer (some r1)), (2, .pointer (some t2)), (3, .pointer (some out3)), (83, .bool ((t8 == (10 : Int))))]) := by kernel_rfl
@[go_sem] theorem c72_r20 (r1 : Addr) (t2 : Addr) (out3 : Addr) (K : Env → W) : RP c72 20 [(1, .pointer (some r1)), (2, .pointer (some t2)), (3, .pointer (some out3))] K =
    (ph fun S0 => (ldq S0 eI ((r1.add 11)) fun (y1_ : Int) => (ldq S0 eI ((r1.add 12)) fun (y2_ : Int) => (st ((out3.add 11)) (.int .i64 y1_) (kpn S0 fun S1 => (st ((out3.add 12)) (.int .i64 y2_) (K [(2, .pointer (some t2)), (3, .pointer (some out3))]))))))) := by kernel_rfl
@[go_sem] theorem c72_r21 (t2 : Addr) (out3 : Addr) (K : Env → W) : RP c72 21 [(2, .pointer (some t2)), (3, .pointer (some out3))] K =
    (ldn e_api_Rec 13 out3 fun (y1_ : api_Rec) => (stl [.int .i64 y1_.Kind, .int .i64 y1_.Txn, .int .i64 y1_.Prev, .int .i64 y1_.Page, .int .i64 y1_.Act, str y1_.Key, str y1_.Old, str y1_.New, .int .i64 y1_.Next, .slice y1_.Images.1 y1_.Images.2.1 y1_.Images.2.2, .slice y1_.Table.1 y1_.Table.2.1 y1_.Table.2.2, .int .i64 y1_.Epoch, .int .i64 y1_.Node] t2 0 (K [(2, .pointer (some t2))]))) := by kernel_rfl
@[go_sem] theorem c72_o : c72.lo 1000000 = [2] := rfl
@[go_sem] theorem c72_e (t2 : Addr) (k : Value → W) : RTp c72 [(2, .pointer (some t2))] k = (ldn e_api_Rec 13 t2 fun (y1_ : api_Rec) => (k (v_api_Rec y1_))) := by kernel_rfl
theorem c72_ok : (c72.P.follows .mixedOrders && okc c72 c72.body) = true := by kernel_rfl
theorem c72_fn {e : Enc} {args : Array Value} {G : e.α → W} {L : List HP} {ρ : Env} (hρ : envA 0 args.toList = ρ) (hs : Nat.ble args.size 92 = true) (h : E L (D c72 (.seq (.reg 0) (.seq (.reg 1) (.seq (.seq (.reg 2) (.block 0 (.seq (.seq (.reg 3) (.cond (.tmp 9) (.skip) (.reg 4))) (.cond (.tmp 9) (.reg 5) (.seq (.seq (.reg 6) (.cond (.tmp 15) (.skip) (.seq (.reg 7) (.cond (.tmp 15) (.skip) (.reg 8))))) (.cond (.tmp 15) (.seq (.reg 9) (.reg 10)) (.seq (.reg 11) (.cond (.tmp 40) (.seq (.reg 12) (.reg 13)) (.seq (.seq (.reg 14) (.cond (.tmp 69) (.skip) (.reg 15))) (.cond (.tmp 69) (.reg 16) (.seq (.reg 17) (.cond (.tmp 78) (.reg 18) (.seq (.reg 19) (.cond (.tmp 83) (.reg 20) (.skip))))))))))))))) (.seq (.reg 21) (.ret))))) (fnQ c72 e G) ρ)) : E L (cal e Tryz.prog 72 args G) :=
  d_fn (c := c72) Tryz.func72 (by kernel_rfl) (by kernel_rfl) (by kernel_rfl) c72_ok (by kernel_rfl) (by kernel_rfl) hρ hs h
/-! gharry.rec.images -/
noncomputable def c104 : Cfg := { P := Tryz.prog, n := 30, T := TT, body := (Tryz.f104.body).getD .skip, res := Tryz.f104.results.toList, li := lk [] [(0, [0, 1]), (1, [0, 1]), (2, [0, 1]), (3, [0, 11, 12, 13]), (4, [0, 11, 12, 13]), (5, [0, 6, 11, 12, 13]), (6, []), (7, [0, 6, 11, 12, 13]), (8, [0, 6, 11, 12, 13]), (9, [0, 11, 12, 13]), (10, [])], lo := lk [] [(0, [0, 1]), (1, [0, 1]), (2, [0, 11, 12, 13]), (3, [0, 11, 12, 13, 14]), (4, [0, 6, 11, 12, 13]), (5, [0, 6, 11, 12, 13, 20]), (6, [4]), (7, [0, 6, 11, 12, 13]), (8, [0, 11, 12, 13]), (9, [0, 11, 12, 13]), (10, [4]), (1000000, [4])], ord := lk (false, []) [] }
@[go_sem] theorem c104_i0 : c104.li 0 = [0, 1] := rfl
@[go_sem] theorem c104_i1 : c104.li 1 = [0, 1] := rfl
@[go_sem] theorem c104_i2 : c104.li 2 = [0, 1] := rfl
@[go_sem] theorem c104_i3 : c104.li 3 = [0, 11, 12, 13] := rfl
@[go_sem] theorem c104_i4 : c104.li 4 = [0, 11, 12, 13] := rfl
@[go_sem] theorem c104_i5 : c104.li 5 = [0, 6, 11, 12, 13] := rfl
@[go_sem] theorem c104_i6 : c104.li 6 = [] := rfl
@[go_sem] theorem c104_i7 : c104.li 7 = [0, 6, 11, 12, 13] := rfl
@[go_sem] theorem c104_i8 : c104.li 8 = [0, 6, 11, 12, 13] := rfl
@[go_sem] theorem c104_i9 : c104.li 9 = [0, 11, 12, 13] := rfl
@[go_sem] theorem c104_i10 : c104.li 10 = [] := rfl
@[go_sem] theorem c104_r0 (w0 : Option Addr) (l1p : Option Addr) (l1n l1c : Nat) (K : Env → W) : RP c104 0 [(0, .pointer w0), (1, .slice l1p l1n l1c)] K =
    (K [(0, .pointer w0), (1, .slice l1p l1n l1c)]) := by kernel_rfl
@[go_sem] theorem c104_r1 (w0 : Option Addr) (l1p : Option Addr) (l1n l1c : Nat) (K : Env → W) : RP c104 1 [(0, .pointer w0), (1, .slice l1p l1n l1c)] K =
    (cal eN Tryz.prog 103 #[.pointer w0, .int .i64 ((l1n : Int)), .int .i64 (1 : Int)] fun (y1_ : Unit) => (K [(0, .pointer w0), (1, .slice l1p l1n l1c)])) := by kernel_rfl
@[go_sem] theorem c104_r2 (w0 : Option Addr) (l1p : Option Addr) (l1n l1c : Nat) (K : Env → W) : RP c104 2 [(0, .pointer w0), (1, .slice l1p l1n l1c)] K =
    (K [(0, .pointer w0), (11, .slice l1p l1n l1c), (12, .int .i64 ((l1n : Int))), (13, .int .i64 (0 : Int))]) := by kernel_rfl
@[go_sem] theorem c104_r3 (w0 : Option Addr) (t11p : Option Addr) (t11n t11c : Nat) (t12 : Int) (t13 : Int) (K : Env → W) : RP c104 3 [(0, .pointer w0), (11, .slice t11p t11n t11c), (12, .int .i64 t12), (13, .int .i64 t13)] K =
    (K [(0, .pointer w0), (11, .slice t11p t11n t11c), (12, .int .i64 t12), (13, .int .i64 t13), (14, .bool ((decide (t13 < t12))))]) := by kernel_rfl
@[go_sem] theorem c104_r4 (w0 : Option Addr) (t11p : Option Addr) (t11n t11c : Nat) (t12 : Int) (t13 : Int) (K : Env → W) : RP c104 4 [(0, .pointer w0), (11, .slice t11p t11n t11c), (12, .int .i64 t12), (13, .int .i64 t13)] K =
    (rq (0 ≤ t13 ∧ t13 < (t11n : Int)) (nn t11p fun y1_ => (ldn e_api_Image 2 ((Addr.add y1_ ((t13).toNat * 2))) fun (y2_ : api_Image) => (nwc #[.int .i64 (0 : Int), str (([] : List UInt8))] 123 fun y3_ => (stl [.int .i64 y2_.Page, str y2_.Text] y3_ 0 (K [(0, .pointer w0), (6, .pointer (some y3_)), (11, .slice t11p t11n t11c), (12, .int .i64 t12), (13, .int .i64 t13)])))))) := by kernel_rfl
@[go_sem] theorem c104_r5 (w0 : Option Addr) (m6 : Addr) (t11p : Option Addr) (t11n t11c : Nat) (t12 : Int) (t13 : Int) (K : Env → W) : RP c104 5 [(0, .pointer w0), (6, .pointer (some m6)), (11, .slice t11p t11n t11c), (12, .int .i64 t12), (13, .int .i64 t13)] K =
    (ld eS ((m6.add 1)) fun (y1_ : List UInt8) => (K [(0, .pointer w0), (6, .pointer (some m6)), (11, .slice t11p t11n t11c), (12, .int .i64 t12), (13, .int .i64 t13), (20, .bool ((((y1_).length : Int) != (224 : Int))))])) := by kernel_rfl
@[go_sem] theorem c104_r6 (K : Env → W) : RP c104 6 [] K =
    (K [(4, .int .i64 (4 : Int))]) := by kernel_rfl
@[go_sem] theorem c104_r7 (w0 : Option Addr) (m6 : Addr) (t11p : Option Addr) (t11n t11c : Nat) (t12 : Int) (t13 : Int) (K : Env → W) : RP c104 7 [(0, .pointer w0), (6, .pointer (some m6)), (11, .slice t11p t11n t11c), (12, .int .i64 t12), (13, .int .i64 t13)] K =
    (ld eI m6 fun (y1_ : Int) => (cal eN Tryz.prog 103 #[.pointer w0, .int .i64 y1_, .int .i64 (2 : Int)] fun (y2_ : Unit) => (K [(0, .pointer w0), (6, .pointer (some m6)), (11, .slice t11p t11n t11c), (12, .int .i64 t12), (13, .int .i64 t13)]))) := by kernel_rfl
@[go_sem] theorem c104_r8 (w0 : Option Addr) (m6 : Addr) (t11p : Option Addr) (t11n t11c : Nat) (t12 : Int) (t13 : Int) (K : Env → W) : RP c104 8 [(0, .pointer w0), (6, .pointer (some m6)), (11, .slice t11p t11n t11c), (12, .int .i64 t12), (13, .int .i64 t13)] K =
    (ld eS ((m6.add 1)) fun (y1_ : List UInt8) => (cal eN Tryz.prog 127 #[.pointer w0, str y1_] fun (y2_ : Unit) => (K [(0, .pointer w0), (11, .slice t11p t11n t11c), (12, .int .i64 t12), (13, .int .i64 t13)]))) := by kernel_rfl
@[go_sem] theorem c104_r9 (w0 : Option Addr) (t11p : Option Addr) (t11n t11c : Nat) (t12 : Int) (t13 : Int) (K : Env → W) : RP c104 9 [(0, .pointer w0), (11, .slice t11p t11n t11c), (12, .int .i64 t12), (13, .int .i64 t13)] K =
    (K [(0, .pointer w0), (11, .slice t11p t11n t11c), (12, .int .i64 t12), (13, .int .i64 ((IntKind.wrap .i64 (t13 + (1 : Int)))))]) := by kernel_rfl
@[go_sem] theorem c104_r10 (K : Env → W) : RP c104 10 [] K =
    (K [(4, .int .i64 (0 : Int))]) := by kernel_rfl
@[go_sem] theorem c104_o : c104.lo 1000000 = [4] := rfl
@[go_sem] theorem c104_e (t4 : Int) (k : Value → W) : RTp c104 [(4, .int .i64 t4)] k = (k (.int .i64 t4)) := by kernel_rfl
theorem c104_ok : (c104.P.follows .mixedOrders && okc c104 c104.body) = true := by kernel_rfl
theorem c104_fn {e : Enc} {args : Array Value} {G : e.α → W} {L : List HP} {ρ : Env} (hρ : envA 0 args.toList = ρ) (hs : Nat.ble args.size 30 = true) (h : E L (D c104 (.seq (.reg 0) (.seq (.reg 1) (.seq (.seq (.reg 2) (.block 0 (.loop (.seq (.reg 3) (.seq (.cond (.tmp 14) (.skip) (.exit 0)) (.seq (.block 1 (.seq (.reg 4) (.seq (.seq (.reg 5) (.cond (.tmp 20) (.seq (.reg 6) (.ret)) (.skip))) (.seq (.reg 7) (.reg 8))))) (.reg 9))))))) (.seq (.reg 10) (.ret))))) (fnQ c104 e G) ρ)) : E L (cal e Tryz.prog 104 args G) :=
  d_fn (c := c104) Tryz.func104 (by kernel_rfl) (by kernel_rfl) (by kernel_rfl) c104_ok (by kernel_rfl) (by kernel_rfl) hρ hs h
-- loop (first region 3): live slots 0:w0 11:t11 12:t12 13:t13, of which it writes [13]
/-! gharry.rec.cut -/
noncomputable def c105 : Cfg := { P := Tryz.prog, n := 20, T := TT, body := (Tryz.f105.body).getD .skip, res := Tryz.f105.results.toList, li := lk [] [(0, [0, 1]), (1, [0, 1]), (2, []), (3, [1]), (4, [10, 11, 12]), (5, [10, 11, 12]), (6, [6, 10, 11, 12]), (7, []), (8, [10, 11, 12]), (9, [])], lo := lk [] [(0, [0, 1]), (1, [1, 9]), (2, [4]), (3, [10, 11, 12]), (4, [10, 11, 12, 13]), (5, [6, 10, 11, 12]), (6, [10, 11, 12, 18]), (7, [4]), (8, [10, 11, 12]), (9, [4]), (1000000, [4])], ord := lk (false, []) [] }
@[go_sem] theorem c105_i0 : c105.li 0 = [0, 1] := rfl
@[go_sem] theorem c105_i1 : c105.li 1 = [0, 1] := rfl
@[go_sem] theorem c105_i2 : c105.li 2 = [] := rfl
@[go_sem] theorem c105_i3 : c105.li 3 = [1] := rfl
@[go_sem] theorem c105_i4 : c105.li 4 = [10, 11, 12] := rfl
@[go_sem] theorem c105_i5 : c105.li 5 = [10, 11, 12] := rfl
@[go_sem] theorem c105_i6 : c105.li 6 = [6, 10, 11, 12] := rfl
@[go_sem] theorem c105_i7 : c105.li 7 = [] := rfl
@[go_sem] theorem c105_i8 : c105.li 8 = [10, 11, 12] := rfl
@[go_sem] theorem c105_i9 : c105.li 9 = [] := rfl
@[go_sem] theorem c105_r0 (key0 : List UInt8) (values1p : Option Addr) (values1n values1c : Nat) (K : Env → W) : RP c105 0 [(0, str key0), (1, .slice values1p values1n values1c)] K =
    (K [(0, str key0), (1, .slice values1p values1n values1c)]) := by kernel_rfl
@[go_sem] theorem c105_r1 (key0 : List UInt8) (values1p : Option Addr) (values1n values1c : Nat) (K : Env → W) : RP c105 1 [(0, str key0), (1, .slice values1p values1n values1c)] K =
    (K [(1, .slice values1p values1n values1c), (9, .bool ((decide ((16 : Int) < ((key0).length : Int)))))]) := by kernel_rfl
@[go_sem] theorem c105_r2 (K : Env → W) : RP c105 2 [] K =
    (K [(4, .int .i64 (17 : Int))]) := by kernel_rfl
@[go_sem] theorem c105_r3 (values1p : Option Addr) (values1n values1c : Nat) (K : Env → W) : RP c105 3 [(1, .slice values1p values1n values1c)] K =
    (K [(10, .slice values1p values1n values1c), (11, .int .i64 ((values1n : Int))), (12, .int .i64 (0 : Int))]) := by kernel_rfl
@[go_sem] theorem c105_r4 (t10p : Option Addr) (t10n t10c : Nat) (t11 : Int) (t12 : Int) (K : Env → W) : RP c105 4 [(10, .slice t10p t10n t10c), (11, .int .i64 t11), (12, .int .i64 t12)] K =
    (K [(10, .slice t10p t10n t10c), (11, .int .i64 t11), (12, .int .i64 t12), (13, .bool ((decide (t12 < t11))))]) := by kernel_rfl
@[go_sem] theorem c105_r5 (t10p : Option Addr) (t10n t10c : Nat) (t11 : Int) (t12 : Int) (K : Env → W) : RP c105 5 [(10, .slice t10p t10n t10c), (11, .int .i64 t11), (12, .int .i64 t12)] K =
    (rq (0 ≤ t12 ∧ t12 < (t10n : Int)) (nn t10p fun y1_ => (ld eS ((Addr.add y1_ ((t12).toNat * 1))) fun (y2_ : List UInt8) => (K [(6, str y2_), (10, .slice t10p t10n t10c), (11, .int .i64 t11), (12, .int .i64 t12)])))) := by kernel_rfl
@[go_sem] theorem c105_r6 (v6 : List UInt8) (t10p : Option Addr) (t10n t10c : Nat) (t11 : Int) (t12 : Int) (K : Env → W) : RP c105 6 [(6, str v6), (10, .slice t10p t10n t10c), (11, .int .i64 t11), (12, .int .i64 t12)] K =
    (K [(10, .slice t10p t10n t10c), (11, .int .i64 t11), (12, .int .i64 t12), (18, .bool ((decide ((32 : Int) < ((v6).length : Int)))))]) := by kernel_rfl
@[go_sem] theorem c105_r7 (K : Env → W) : RP c105 7 [] K =
    (K [(4, .int .i64 (18 : Int))]) := by kernel_rfl
@[go_sem] theorem c105_r8 (t10p : Option Addr) (t10n t10c : Nat) (t11 : Int) (t12 : Int) (K : Env → W) : RP c105 8 [(10, .slice t10p t10n t10c), (11, .int .i64 t11), (12, .int .i64 t12)] K =
    (K [(10, .slice t10p t10n t10c), (11, .int .i64 t11), (12, .int .i64 ((IntKind.wrap .i64 (t12 + (1 : Int)))))]) := by kernel_rfl
@[go_sem] theorem c105_r9 (K : Env → W) : RP c105 9 [] K =
    (K [(4, .int .i64 (0 : Int))]) := by kernel_rfl
@[go_sem] theorem c105_o : c105.lo 1000000 = [4] := rfl
@[go_sem] theorem c105_e (t4 : Int) (k : Value → W) : RTp c105 [(4, .int .i64 t4)] k = (k (.int .i64 t4)) := by kernel_rfl
theorem c105_ok : (c105.P.follows .mixedOrders && okc c105 c105.body) = true := by kernel_rfl
theorem c105_fn {e : Enc} {args : Array Value} {G : e.α → W} {L : List HP} {ρ : Env} (hρ : envA 0 args.toList = ρ) (hs : Nat.ble args.size 20 = true) (h : E L (D c105 (.seq (.reg 0) (.seq (.seq (.reg 1) (.cond (.tmp 9) (.seq (.reg 2) (.ret)) (.skip))) (.seq (.seq (.reg 3) (.block 0 (.loop (.seq (.reg 4) (.seq (.cond (.tmp 13) (.skip) (.exit 0)) (.seq (.block 1 (.seq (.reg 5) (.seq (.reg 6) (.cond (.tmp 18) (.seq (.reg 7) (.ret)) (.skip))))) (.reg 8))))))) (.seq (.reg 9) (.ret))))) (fnQ c105 e G) ρ)) : E L (cal e Tryz.prog 105 args G) :=
  d_fn (c := c105) Tryz.func105 (by kernel_rfl) (by kernel_rfl) (by kernel_rfl) c105_ok (by kernel_rfl) (by kernel_rfl) hρ hs h
-- loop (first region 4): live slots 10:t10 11:t11 12:t12, of which it writes [12]
/-! gharry.rec.link -/
noncomputable def c106 : Cfg := { P := Tryz.prog, n := 12, T := TT, body := (Tryz.f106.body).getD .skip, res := Tryz.f106.results.toList, li := lk [] [(0, [0, 1]), (1, [0, 3]), (2, [0, 3])], lo := lk [] [(0, [0, 3]), (1, [0, 3]), (2, []), (1000000, [])], ord := lk (false, []) [] }
@[go_sem] theorem c106_i0 : c106.li 0 = [0, 1] := rfl
@[go_sem] theorem c106_i1 : c106.li 1 = [0, 3] := rfl
@[go_sem] theorem c106_i2 : c106.li 2 = [0, 3] := rfl
@[go_sem] theorem c106_r0 (w0 : Option Addr) (r1 : api_Rec) (K : Env → W) : RP c106 0 [(0, .pointer w0), (1, v_api_Rec r1)] K =
    (nwc #[.int .i64 r1.Kind, .int .i64 r1.Txn, .int .i64 r1.Prev, .int .i64 r1.Page, .int .i64 r1.Act, str r1.Key, str r1.Old, str r1.New, .int .i64 r1.Next, .slice r1.Images.1 r1.Images.2.1 r1.Images.2.2, .slice r1.Table.1 r1.Table.2.1 r1.Table.2.2, .int .i64 r1.Epoch, .int .i64 r1.Node] 36 fun y1_ => (K [(0, .pointer w0), (3, .pointer (some y1_))])) := by kernel_rfl
@[go_sem] theorem c106_r1 (w0 : Option Addr) (r3 : Addr) (K : Env → W) : RP c106 1 [(0, .pointer w0), (3, .pointer (some r3))] K =
    (ld eI ((r3.add 1)) fun (y1_ : Int) => (cal eN Tryz.prog 103 #[.pointer w0, .int .i64 y1_, .int .i64 (6 : Int)] fun (y2_ : Unit) => (K [(0, .pointer w0), (3, .pointer (some r3))]))) := by kernel_rfl
@[go_sem] theorem c106_r2 (w0 : Option Addr) (r3 : Addr) (K : Env → W) : RP c106 2 [(0, .pointer w0), (3, .pointer (some r3))] K =
    (ld eI ((r3.add 2)) fun (y1_ : Int) => (cal eN Tryz.prog 103 #[.pointer w0, .int .i64 y1_, .int .i64 (6 : Int)] fun (y2_ : Unit) => (K []))) := by kernel_rfl
@[go_sem] theorem c106_o : c106.lo 1000000 = [] := rfl
@[go_sem] theorem c106_e (k : Value → W) : RTp c106 [] k = (k (.tuple #[])) := by kernel_rfl
theorem c106_ok : (c106.P.follows .mixedOrders && okc c106 c106.body) = true := by kernel_rfl
theorem c106_fn {e : Enc} {args : Array Value} {G : e.α → W} {L : List HP} {ρ : Env} (hρ : envA 0 args.toList = ρ) (hs : Nat.ble args.size 12 = true) (h : E L (D c106 (.seq (.reg 0) (.seq (.reg 1) (.reg 2))) (fnQ c106 e G) ρ)) : E L (cal e Tryz.prog 106 args G) :=
  d_fn (c := c106) Tryz.func106 (by kernel_rfl) (by kernel_rfl) (by kernel_rfl) c106_ok (by kernel_rfl) (by kernel_rfl) hρ hs h
/-! gharry.rec.change -/
noncomputable def c107 : Cfg := { P := Tryz.prog, n := 26, T := TT, body := (Tryz.f107.body).getD .skip, res := Tryz.f107.results.toList, li := lk [] [(0, [0, 1, 2]), (1, [0, 2, 4]), (2, [0, 2, 4]), (3, [0, 2, 4]), (4, [0, 2, 4]), (5, [0, 2, 4]), (6, [0, 4])], lo := lk [] [(0, [0, 2, 4]), (1, [0, 2, 4]), (2, [0, 2, 4]), (3, [0, 2, 4, 15]), (4, [0, 2, 4]), (5, [0, 4, 21]), (6, []), (1000000, [])], ord := lk (false, []) [] }
@[go_sem] theorem c107_i0 : c107.li 0 = [0, 1, 2] := rfl
@[go_sem] theorem c107_i1 : c107.li 1 = [0, 2, 4] := rfl
@[go_sem] theorem c107_i2 : c107.li 2 = [0, 2, 4] := rfl
@[go_sem] theorem c107_i3 : c107.li 3 = [0, 2, 4] := rfl
@[go_sem] theorem c107_i4 : c107.li 4 = [0, 2, 4] := rfl
@[go_sem] theorem c107_i5 : c107.li 5 = [0, 2, 4] := rfl
@[go_sem] theorem c107_i6 : c107.li 6 = [0, 4] := rfl
@[go_sem] theorem c107_r0 (w0 : Option Addr) (r1 : api_Rec) (act2 : Int) (K : Env → W) : RP c107 0 [(0, .pointer w0), (1, v_api_Rec r1), (2, .int .i64 act2)] K =
    (nwc #[.int .i64 r1.Kind, .int .i64 r1.Txn, .int .i64 r1.Prev, .int .i64 r1.Page, .int .i64 r1.Act, str r1.Key, str r1.Old, str r1.New, .int .i64 r1.Next, .slice r1.Images.1 r1.Images.2.1 r1.Images.2.2, .slice r1.Table.1 r1.Table.2.1 r1.Table.2.2, .int .i64 r1.Epoch, .int .i64 r1.Node] 36 fun y1_ => (K [(0, .pointer w0), (2, .int .i64 act2), (4, .pointer (some y1_))])) := by kernel_rfl
@[go_sem] theorem c107_r1 (w0 : Option Addr) (act2 : Int) (r4 : Addr) (K : Env → W) : RP c107 1 [(0, .pointer w0), (2, .int .i64 act2), (4, .pointer (some r4))] K =
    (ld eI ((r4.add 3)) fun (y1_ : Int) => (cal eN Tryz.prog 103 #[.pointer w0, .int .i64 y1_, .int .i64 (2 : Int)] fun (y2_ : Unit) => (K [(0, .pointer w0), (2, .int .i64 act2), (4, .pointer (some r4))]))) := by kernel_rfl
@[go_sem] theorem c107_r2 (w0 : Option Addr) (act2 : Int) (r4 : Addr) (K : Env → W) : RP c107 2 [(0, .pointer w0), (2, .int .i64 act2), (4, .pointer (some r4))] K =
    (ld eS ((r4.add 5)) fun (y1_ : List UInt8) => (cal eN Tryz.prog 127 #[.pointer w0, str y1_] fun (y2_ : Unit) => (K [(0, .pointer w0), (2, .int .i64 act2), (4, .pointer (some r4))]))) := by kernel_rfl
@[go_sem] theorem c107_r3 (w0 : Option Addr) (act2 : Int) (r4 : Addr) (K : Env → W) : RP c107 3 [(0, .pointer w0), (2, .int .i64 act2), (4, .pointer (some r4))] K =
    (K [(0, .pointer w0), (2, .int .i64 act2), (4, .pointer (some r4)), (15, .bool ((act2 != (3 : Int))))]) := by kernel_rfl
@[go_sem] theorem c107_r4 (w0 : Option Addr) (act2 : Int) (r4 : Addr) (K : Env → W) : RP c107 4 [(0, .pointer w0), (2, .int .i64 act2), (4, .pointer (some r4))] K =
    (ld eS ((r4.add 6)) fun (y1_ : List UInt8) => (cal eN Tryz.prog 127 #[.pointer w0, str y1_] fun (y2_ : Unit) => (K [(0, .pointer w0), (2, .int .i64 act2), (4, .pointer (some r4))]))) := by kernel_rfl
@[go_sem] theorem c107_r5 (w0 : Option Addr) (act2 : Int) (r4 : Addr) (K : Env → W) : RP c107 5 [(0, .pointer w0), (2, .int .i64 act2), (4, .pointer (some r4))] K =
    (K [(0, .pointer w0), (4, .pointer (some r4)), (21, .bool ((act2 != (4 : Int))))]) := by kernel_rfl
@[go_sem] theorem c107_r6 (w0 : Option Addr) (r4 : Addr) (K : Env → W) : RP c107 6 [(0, .pointer w0), (4, .pointer (some r4))] K =
    (ld eS ((r4.add 7)) fun (y1_ : List UInt8) => (cal eN Tryz.prog 127 #[.pointer w0, str y1_] fun (y2_ : Unit) => (K []))) := by kernel_rfl
@[go_sem] theorem c107_o : c107.lo 1000000 = [] := rfl
@[go_sem] theorem c107_e (k : Value → W) : RTp c107 [] k = (k (.tuple #[])) := by kernel_rfl
theorem c107_ok : (c107.P.follows .mixedOrders && okc c107 c107.body) = true := by kernel_rfl
theorem c107_fn {e : Enc} {args : Array Value} {G : e.α → W} {L : List HP} {ρ : Env} (hρ : envA 0 args.toList = ρ) (hs : Nat.ble args.size 26 = true) (h : E L (D c107 (.seq (.reg 0) (.seq (.reg 1) (.seq (.reg 2) (.seq (.seq (.reg 3) (.cond (.tmp 15) (.reg 4) (.skip))) (.seq (.reg 5) (.cond (.tmp 21) (.reg 6) (.skip))))))) (fnQ c107 e G) ρ)) : E L (cal e Tryz.prog 107 args G) :=
  d_fn (c := c107) Tryz.func107 (by kernel_rfl) (by kernel_rfl) (by kernel_rfl) c107_ok (by kernel_rfl) (by kernel_rfl) hρ hs h
/-! gharry.rec.tidy -/
noncomputable def c109 : Cfg := { P := Tryz.prog, n := 15, T := TT, body := (Tryz.f109.body).getD .skip, res := Tryz.f109.results.toList, li := lk [] [(0, [0, 1]), (1, [0, 4]), (2, [0]), (3, [0, 4]), (4, [0])], lo := lk [] [(0, [0, 4]), (1, [0, 4, 5]), (2, []), (3, [0, 10]), (4, []), (1000000, [])], ord := lk (false, []) [] }
@[go_sem] theorem c109_i0 : c109.li 0 = [0, 1] := rfl
@[go_sem] theorem c109_i1 : c109.li 1 = [0, 4] := rfl
@[go_sem] theorem c109_i2 : c109.li 2 = [0] := rfl
@[go_sem] theorem c109_i3 : c109.li 3 = [0, 4] := rfl
@[go_sem] theorem c109_i4 : c109.li 4 = [0] := rfl
@[go_sem] theorem c109_r0 (r0 : Option Addr) (act1 : Int) (K : Env → W) : RP c109 0 [(0, .pointer r0), (1, .int .i64 act1)] K =
    (K [(0, .pointer r0), (4, .int .i64 act1)]) := by kernel_rfl
@[go_sem] theorem c109_r1 (r0 : Option Addr) (t4 : Int) (K : Env → W) : RP c109 1 [(0, .pointer r0), (4, .int .i64 t4)] K =
    (K [(0, .pointer r0), (4, .int .i64 t4), (5, .bool ((t4 == (3 : Int))))]) := by kernel_rfl
@[go_sem] theorem c109_r2 (r0 : Option Addr) (K : Env → W) : RP c109 2 [(0, .pointer r0)] K =
    (nn r0 fun y1_ => (st ((y1_.add 6)) (str (([] : List UInt8))) (K []))) := by kernel_rfl
@[go_sem] theorem c109_r3 (r0 : Option Addr) (t4 : Int) (K : Env → W) : RP c109 3 [(0, .pointer r0), (4, .int .i64 t4)] K =
    (K [(0, .pointer r0), (10, .bool ((t4 == (4 : Int))))]) := by kernel_rfl
@[go_sem] theorem c109_r4 (r0 : Option Addr) (K : Env → W) : RP c109 4 [(0, .pointer r0)] K =
    (nn r0 fun y1_ => (st ((y1_.add 7)) (str (([] : List UInt8))) (K []))) := by kernel_rfl
@[go_sem] theorem c109_o : c109.lo 1000000 = [] := rfl
@[go_sem] theorem c109_e (k : Value → W) : RTp c109 [] k = (k (.tuple #[])) := by kernel_rfl
theorem c109_ok : (c109.P.follows .mixedOrders && okc c109 c109.body) = true := by kernel_rfl
theorem c109_fn {e : Enc} {args : Array Value} {G : e.α → W} {L : List HP} {ρ : Env} (hρ : envA 0 args.toList = ρ) (hs : Nat.ble args.size 15 = true) (h : E L (D c109 (.seq (.reg 0) (.block 0 (.seq (.reg 1) (.cond (.tmp 5) (.reg 2) (.seq (.reg 3) (.cond (.tmp 10) (.reg 4) (.skip))))))) (fnQ c109 e G) ρ)) : E L (cal e Tryz.prog 109 args G) :=
  d_fn (c := c109) Tryz.func109 (by kernel_rfl) (by kernel_rfl) (by kernel_rfl) c109_ok (by kernel_rfl) (by kernel_rfl) hρ hs h
/-! gharry.rec.Frame -/
noncomputable def c18 : Cfg := { P := Tryz.prog, n := 27, T := TT, body := (Tryz.f18.body).getD .skip, res := Tryz.f18.results.toList, li := lk [] [(0, [0]), (1, [1]), (2, [4, 5]), (3, [5]), (4, [4]), (5, [4, 6])], lo := lk [] [(0, [1]), (1, [4, 5]), (2, [4, 5, 15]), (3, [2, 3]), (4, [4, 6]), (5, [2, 3]), (1000000, [2, 3])], ord := lk (false, []) [] }
@[go_sem] theorem c18_i0 : c18.li 0 = [0] := rfl
@[go_sem] theorem c18_i1 : c18.li 1 = [1] := rfl
@[go_sem] theorem c18_i2 : c18.li 2 = [4, 5] := rfl
@[go_sem] theorem c18_i3 : c18.li 3 = [5] := rfl
@[go_sem] theorem c18_i4 : c18.li 4 = [4] := rfl
@[go_sem] theorem c18_i5 : c18.li 5 = [4, 6] := rfl
@[go_sem] theorem c18_r0 (r0 : api_Rec) (K : Env → W) : RP c18 0 [(0, v_api_Rec r0)] K =
    (nwc #[.int .i64 r0.Kind, .int .i64 r0.Txn, .int .i64 r0.Prev, .int .i64 r0.Page, .int .i64 r0.Act, str r0.Key, str r0.Old, str r0.New, .int .i64 r0.Next, .slice r0.Images.1 r0.Images.2.1 r0.Images.2.2, .slice r0.Table.1 r0.Table.2.1 r0.Table.2.2, .int .i64 r0.Epoch, .int .i64 r0.Node] 36 fun y1_ => (K [(1, .pointer (some y1_))])) := by kernel_rfl
@[go_sem] theorem c18_r1 (r1 : Addr) (K : Env → W) : RP c18 1 [(1, .pointer (some r1))] K =
    (ldn e_api_Rec 13 r1 fun (y1_ : api_Rec) => (cal e_api_Rec Tryz.prog 72 #[v_api_Rec y1_] fun (y2_ : api_Rec) => (cal (eT2 eS eI) Tryz.prog 71 #[v_api_Rec y2_] fun (y3_ : ((List UInt8) × Int)) => (K [(4, str y3_.1), (5, .int .i64 y3_.2)])))) := by kernel_rfl
@[go_sem] theorem c18_r2 (s4 : List UInt8) (e5 : Int) (K : Env → W) : RP c18 2 [(4, str s4), (5, .int .i64 e5)] K =
    (K [(4, str s4), (5, .int .i64 e5), (15, .bool ((e5 != (0 : Int))))]) := by kernel_rfl
@[go_sem] theorem c18_r3 (e5 : Int) (K : Env → W) : RP c18 3 [(5, .int .i64 e5)] K =
    (K [(2, str (([] : List UInt8))), (3, .int .i64 e5)]) := by kernel_rfl
@[go_sem] theorem c18_r4 (s4 : List UInt8) (K : Env → W) : RP c18 4 [(4, str s4)] K =
    (cal (eT2 eS eI) Tryz.prog 73 #[str (([] : List UInt8)), .int .i64 (((s4).length : Int)), .int .i64 (2 : Int)] fun (y1_ : ((List UInt8) × Int)) => (K [(4, str s4), (6, str y1_.1)])) := by kernel_rfl
@[go_sem] theorem c18_r5 (s4 : List UInt8) (out6 : List UInt8) (K : Env → W) : RP c18 5 [(4, str s4), (6, str out6)] K =
    (cal eS Tryz.prog 74 #[str s4] fun (y1_ : List UInt8) => (rq (((out6).length : Int) + ((y1_).length : Int) ≤ 9223372036854775807) (K [(2, str ((out6 ++ y1_))), (3, .int .i64 (0 : Int))]))) := by kernel_rfl
@[go_sem] theorem c18_o : c18.lo 1000000 = [2, 3] := rfl
@[go_sem] theorem c18_e (t2 : List UInt8) (t3 : Int) (k : Value → W) : RTp c18 [(2, str t2), (3, .int .i64 t3)] k = (k (.tuple #[str t2, .int .i64 t3])) := by kernel_rfl
theorem c18_ok : (c18.P.follows .mixedOrders && okc c18 c18.body) = true := by kernel_rfl
theorem c18_fn {e : Enc} {args : Array Value} {G : e.α → W} {L : List HP} {ρ : Env} (hρ : envA 0 args.toList = ρ) (hs : Nat.ble args.size 27 = true) (h : E L (D c18 (.seq (.reg 0) (.seq (.reg 1) (.seq (.seq (.reg 2) (.cond (.tmp 15) (.seq (.reg 3) (.ret)) (.skip))) (.seq (.reg 4) (.seq (.reg 5) (.ret)))))) (fnQ c18 e G) ρ)) : E L (cal e Tryz.prog 18 args G) :=
  d_fn (c := c18) Tryz.func18 (by kernel_rfl) (by kernel_rfl) (by kernel_rfl) c18_ok (by kernel_rfl) (by kernel_rfl) hρ hs h
end Go.Sp
/- Records: what is laid. -/
namespace Go.Sp
open Go Go.Proofs
set_option linter.unusedSimpArgs false
set_option linter.unusedVariables false
set_option maxRecDepth 10000
abbrev cImg (x : api_Image) : List Value := [.int .i64 x.Page, str x.Text]
theorem cImg_len (x : api_Image) : (cImg x).length = 2 := rfl
abbrev cAct (x : api_Active) : List Value := [.int .i64 x.Txn, .int .i64 x.Last]
theorem cAct_len (x : api_Active) : (cAct x).length = 2 := rfl
/-- A record with its pages and its transactions. -/
structure Rc where
  kind : Int
  txn : Int
  prev : Int
  page : Int
  act : Int
  key : List UInt8
  old : List UInt8
  nw : List UInt8
  next : Int
  imgs : List api_Image
  tbl : List api_Active
  epoch : Int
  node : Int
def Rc.of (r : api_Rec) (is : List api_Image) (tb : List api_Active) : Rc := ⟨r.Kind, r.Txn, r.Prev, r.Page, r.Act, r.Key, r.Old, r.New, r.Next, is, tb, r.Epoch, r.Node⟩
/-- What lies in memory is the record. -/
structure RcAt (A : HP) (r : api_Rec) (c : Rc) : Prop where
  e : c = Rc.of r c.imgs c.tbl
  i : Rs A r.Images 2 (c.imgs.flatMap cImg)
  t : Rs A r.Table 2 (c.tbl.flatMap cAct)
  li : c.imgs.length ≤ 255
  lt : c.tbl.length ≤ 255
def layN (x : Wt) (n : Int) (w : Nat) : Wt := lay1 x (putN x.1 n w)
def layT (x : Wt) (t : List UInt8) : Wt := lay1 x (putT x.1 t)
theorem layN_len (x : Wt) (n : Int) (w : Nat) : (layN x n w).1.length ≤ x.1.length + w := by
  unfold layN lay1 putN
  split
  · omega
  · split
    · simp
    · split
      · simp
      · simp [lowb_len]
theorem layT_len (x : Wt) (t : List UInt8) : (layT x t).1.length ≤ x.1.length + 65540 := by
  unfold layT lay1 putT
  split
  · omega
  · split
    · simp
    · split
      · simp
      · simp [lowb_len]; omega
theorem gN (q : Nat) (x : Wt) (n : Int) (w : Nat) (h1 : 1 ≤ w) (h6 : w ≤ 6) (hs : x.1.length ≤ 2305843009213693952) :
    Fq eN Tryz.prog 103 #[.pointer (some ⟨q, 0, none⟩), .int .i64 n, .int .i64 (w : Int)] [wr q x] [wr q (layN x n w)] () := f95 q x n w h1 h6 hs
theorem gT (q : Nat) (x : Wt) (t : List UInt8) (hs : x.1.length ≤ 2305843009213693952) :
    Fq eN Tryz.prog 127 #[.pointer (some ⟨q, 0, none⟩), str t] [wr q x] [wr q (layT x t)] () := f94 q x t hs
def cutP (key o n : List UInt8) : Int := if 16 < key.length then 17 else if 32 < o.length then 18 else if 32 < n.length then 18 else 0
theorem g105 (key o n : List UInt8) (b : Nat) : Fp eI Tryz.prog 105 #[str key, .slice (some ⟨b, 0, none⟩) 2 2] [ar b 9 [str o, str n]] (cutP key o n) := fun L => by
  refine c105_fn rfl rfl ?_
  unfold cutP
  repeat' ((fail_if_success with_reducible refine nph ?_); first | (with_reducible first | (refine d_seq ?_; intro K hK) | (refine hK _ _ ?_; clear hK K) | refine d_blk ?_ | refine d_rt0 ?_ | refine d_sk0 ?_ | refine d_ex0 ?_ | (refine r_nwc ?_; intro b)) | (first | ((with_reducible refine d_cnd ?_); refine And.intro ?_ ?_) | with_reducible refine r_cnd ?_ ?_) <;> intro hc <;> try simp only [push_cast, Int.reduceEq, Int.reduceLT, Int.reduceLE, Int.reduceNe] at hc | with_reducible refine r_rq (by first | decide | omega) ?_ | ((with_reducible first | apply i_lds | apply i_ldsq | apply i_ld | apply i_ldq); exact rfl) | ((with_reducible first | apply i_ldn | apply i_ldnq); exact rfl; exact rfl; exact rfl) | (with_reducible first | refine r_ph0 ?_ | apply i_kp0) | ((with_reducible first | apply i_st | apply i_stl); (focus simp); exact rfl) | ((try with_reducible refine d_reg ?_); simp only [go_sem, Nat.reduceAdd, Nat.reduceEqDiff, Int.reduceToNat, Nat.reduceMul, Nat.reduceSub]) | clear hK K)
  · (with_reducible first | apply i_ret0 | apply i_ret2 | apply i_ret3 | apply i_ret); exact rfl
    rw [if_pos (by omega)]
  · rw [if_neg (by omega)]
    refine d_lp [10, 11, 12] (fun i : Nat => [(10, .slice (some ⟨b, 0, none⟩) 2 2), (11, .int .i64 2), (12, .int .i64 (i : Int))])
      (fun _ => ar b 9 [str o, str n] :: L) (fun i => i ≤ 2 ∧ (1 ≤ i → o.length ≤ 32) ∧ (2 ≤ i → n.length ≤ 32)) (fun i => 2 - i) 0 rfl SX.p ⟨by omega, by omega, by omega⟩ ?_
    rintro i ⟨hi, h1, h2⟩
    by_cases i0 : i = 0
    · subst i0
      repeat' (first | (with_reducible first | (refine d_seq ?_; intro K hK) | (refine hK _ _ ?_; clear hK K) | refine d_blk ?_ | refine d_rt0 ?_ | refine d_sk0 ?_ | refine d_ex0 ?_ | (refine r_nwc ?_; intro b)) | (first | ((with_reducible refine d_cnd ?_); refine And.intro ?_ ?_) | with_reducible refine r_cnd ?_ ?_) <;> intro hc <;> try simp only [push_cast, Int.reduceEq, Int.reduceLT, Int.reduceLE, Int.reduceNe] at hc | with_reducible refine r_rq (by first | decide | omega) ?_ | ((with_reducible first | apply i_lds | apply i_ldsq | apply i_ld | apply i_ldq); exact rfl) | ((with_reducible first | apply i_ldn | apply i_ldnq); exact rfl; exact rfl; exact rfl) | (with_reducible first | refine r_ph0 ?_ | apply i_kp0) | ((with_reducible first | apply i_st | apply i_stl); (focus simp); exact rfl) | ((try with_reducible refine d_reg ?_); simp only [go_sem, Nat.reduceAdd, Nat.reduceEqDiff, Int.reduceToNat, Nat.reduceMul, Nat.reduceSub]) | clear hK K)
      all_goals try (exfalso; omega)
      · (with_reducible first | apply i_ret0 | apply i_ret2 | apply i_ret3 | apply i_ret); exact rfl
        rw [if_pos (by omega)]
      · exact i_bk 1 rfl ⟨by omega, by omega, by omega⟩ (by omega)
    · by_cases i1 : i = 1
      · subst i1
        have h1 := h1 (by omega)
        repeat' (first | (with_reducible first | (refine d_seq ?_; intro K hK) | (refine hK _ _ ?_; clear hK K) | refine d_blk ?_ | refine d_rt0 ?_ | refine d_sk0 ?_ | refine d_ex0 ?_ | (refine r_nwc ?_; intro b)) | (first | ((with_reducible refine d_cnd ?_); refine And.intro ?_ ?_) | with_reducible refine r_cnd ?_ ?_) <;> intro hc <;> try simp only [push_cast, Int.reduceEq, Int.reduceLT, Int.reduceLE, Int.reduceNe] at hc | with_reducible refine r_rq (by first | decide | omega) ?_ | ((with_reducible first | apply i_lds | apply i_ldsq | apply i_ld | apply i_ldq); exact rfl) | ((with_reducible first | apply i_ldn | apply i_ldnq); exact rfl; exact rfl; exact rfl) | (with_reducible first | refine r_ph0 ?_ | apply i_kp0) | ((with_reducible first | apply i_st | apply i_stl); (focus simp); exact rfl) | ((try with_reducible refine d_reg ?_); simp only [go_sem, Nat.reduceAdd, Nat.reduceEqDiff, Int.reduceToNat, Nat.reduceMul, Nat.reduceSub]) | clear hK K)
        all_goals try (exfalso; omega)
        · (with_reducible first | apply i_ret0 | apply i_ret2 | apply i_ret3 | apply i_ret); exact rfl
          rw [if_neg (by omega), if_pos (by omega)]
        · exact i_bk 2 rfl ⟨by omega, by omega, by omega⟩ (by omega)
      · obtain rfl : i = 2 := by omega
        have h1 := h1 (by omega)
        have h2 := h2 (by omega)
        repeat' (first | (with_reducible first | (refine d_seq ?_; intro K hK) | (refine hK _ _ ?_; clear hK K) | refine d_blk ?_ | refine d_rt0 ?_ | refine d_sk0 ?_ | refine d_ex0 ?_ | (refine r_nwc ?_; intro b)) | (first | ((with_reducible refine d_cnd ?_); refine And.intro ?_ ?_) | with_reducible refine r_cnd ?_ ?_) <;> intro hc <;> try simp only [push_cast, Int.reduceEq, Int.reduceLT, Int.reduceLE, Int.reduceNe] at hc | with_reducible refine r_rq (by first | decide | omega) ?_ | ((with_reducible first | apply i_lds | apply i_ldsq | apply i_ld | apply i_ldq); exact rfl) | ((with_reducible first | apply i_ldn | apply i_ldnq); exact rfl; exact rfl; exact rfl) | (with_reducible first | refine r_ph0 ?_ | apply i_kp0) | ((with_reducible first | apply i_st | apply i_stl); (focus simp); exact rfl) | ((try with_reducible refine d_reg ?_); simp only [go_sem, Nat.reduceAdd, Nat.reduceEqDiff, Int.reduceToNat, Nat.reduceMul, Nat.reduceSub]) | clear hK K)
        all_goals try (exfalso; omega)
        (with_reducible first | apply i_ret0 | apply i_ret2 | apply i_ret3 | apply i_ret); exact rfl
        simp only [show ¬ 16 < key.length by omega, show ¬ 32 < o.length by omega, show ¬ 32 < n.length by omega, if_false]
def lnk (x : Wt) (r : api_Rec) : Wt := layN (layN x r.Txn 6) r.Prev 6
theorem g106 (q : Nat) (x : Wt) (r : api_Rec) (hs : x.1.length ≤ 1000000000) : Fq eN Tryz.prog 106 #[.pointer (some ⟨q, 0, none⟩), v_api_Rec r] [wr q x] [wr q (lnk x r)] () := fun L => by
  have h1 := layN_len x r.Txn 6
  unfold lnk
  refine c106_fn rfl rfl ?_
  repeat' ((fail_if_success with_reducible refine nph ?_); first | (with_reducible first | (refine d_seq ?_; intro K hK) | (refine hK _ _ ?_; clear hK K) | refine d_blk ?_ | refine d_rt0 ?_ | refine d_sk0 ?_ | refine d_ex0 ?_ | (refine r_nwc ?_; intro b)) | (first | ((with_reducible refine d_cnd ?_); refine And.intro ?_ ?_) | with_reducible refine r_cnd ?_ ?_) <;> intro hc <;> try simp only [push_cast, Int.reduceEq, Int.reduceLT, Int.reduceLE, Int.reduceNe] at hc | with_reducible refine r_rq (by first | decide | omega) ?_ | ((with_reducible first | apply i_lds | apply i_ldsq | apply i_ld | apply i_ldq); exact rfl) | ((with_reducible first | apply i_ldn | apply i_ldnq); exact rfl; exact rfl; exact rfl) | (with_reducible first | refine r_ph0 ?_ | apply i_kp0) | ((with_reducible first | apply i_st | apply i_stl); (focus simp); exact rfl) | ((try with_reducible refine d_reg ?_); simp only [go_sem, Nat.reduceAdd, Nat.reduceEqDiff, Int.reduceToNat, Nat.reduceMul, Nat.reduceSub]) | clear hK K)
  refine i_clq (gN q x r.Txn 6 (by decide) (by decide) (by omega)) ?_
  repeat' ((fail_if_success with_reducible refine nph ?_); first | (with_reducible first | (refine d_seq ?_; intro K hK) | (refine hK _ _ ?_; clear hK K) | refine d_blk ?_ | refine d_rt0 ?_ | refine d_sk0 ?_ | refine d_ex0 ?_ | (refine r_nwc ?_; intro b)) | (first | ((with_reducible refine d_cnd ?_); refine And.intro ?_ ?_) | with_reducible refine r_cnd ?_ ?_) <;> intro hc <;> try simp only [push_cast, Int.reduceEq, Int.reduceLT, Int.reduceLE, Int.reduceNe] at hc | with_reducible refine r_rq (by first | decide | omega) ?_ | ((with_reducible first | apply i_lds | apply i_ldsq | apply i_ld | apply i_ldq); exact rfl) | ((with_reducible first | apply i_ldn | apply i_ldnq); exact rfl; exact rfl; exact rfl) | (with_reducible first | refine r_ph0 ?_ | apply i_kp0) | ((with_reducible first | apply i_st | apply i_stl); (focus simp); exact rfl) | ((try with_reducible refine d_reg ?_); simp only [go_sem, Nat.reduceAdd, Nat.reduceEqDiff, Int.reduceToNat, Nat.reduceMul, Nat.reduceSub]) | clear hK K)
  refine i_clq (gN q (layN x r.Txn 6) r.Prev 6 (by decide) (by decide) (by omega)) ?_
  repeat' ((fail_if_success with_reducible refine nph ?_); first | (with_reducible first | (refine d_seq ?_; intro K hK) | (refine hK _ _ ?_; clear hK K) | refine d_blk ?_ | refine d_rt0 ?_ | refine d_sk0 ?_ | refine d_ex0 ?_ | (refine r_nwc ?_; intro b)) | (first | ((with_reducible refine d_cnd ?_); refine And.intro ?_ ?_) | with_reducible refine r_cnd ?_ ?_) <;> intro hc <;> try simp only [push_cast, Int.reduceEq, Int.reduceLT, Int.reduceLE, Int.reduceNe] at hc | with_reducible refine r_rq (by first | decide | omega) ?_ | ((with_reducible first | apply i_lds | apply i_ldsq | apply i_ld | apply i_ldq); exact rfl) | ((with_reducible first | apply i_ldn | apply i_ldnq); exact rfl; exact rfl; exact rfl) | (with_reducible first | refine r_ph0 ?_ | apply i_kp0) | ((with_reducible first | apply i_st | apply i_stl); (focus simp); exact rfl) | ((try with_reducible refine d_reg ?_); simp only [go_sem, Nat.reduceAdd, Nat.reduceEqDiff, Int.reduceToNat, Nat.reduceMul, Nat.reduceSub]) | clear hK K)
  (with_reducible first | apply i_ret0 | apply i_ret2 | apply i_ret3 | apply i_ret); exact rfl
def chgO (x : Wt) (r : api_Rec) (act : Int) : Wt := if act = 3 then layT (layN x r.Page 2) r.Key else layT (layT (layN x r.Page 2) r.Key) r.Old
def chg (x : Wt) (r : api_Rec) (act : Int) : Wt := if act = 4 then chgO x r act else layT (chgO x r act) r.New
theorem g107 (q : Nat) (x : Wt) (r : api_Rec) (act : Int) (hs : x.1.length ≤ 1000000000) : Fq eN Tryz.prog 107 #[.pointer (some ⟨q, 0, none⟩), v_api_Rec r, .int .i64 act] [wr q x] [wr q (chg x r act)] () := fun L => by
  have h1 := layN_len x r.Page 2
  have h2 := layT_len (layN x r.Page 2) r.Key
  have h3 := layT_len (layT (layN x r.Page 2) r.Key) r.Old
  unfold chg chgO
  refine c107_fn rfl rfl ?_
  by_cases a3 : act = 3
  · rw [if_pos a3, if_neg (by omega)]
    repeat' ((fail_if_success with_reducible refine nph ?_); first | (with_reducible first | (refine d_seq ?_; intro K hK) | (refine hK _ _ ?_; clear hK K) | refine d_blk ?_ | refine d_rt0 ?_ | refine d_sk0 ?_ | refine d_ex0 ?_ | (refine r_nwc ?_; intro b)) | (first | ((with_reducible refine d_cnd ?_); refine And.intro ?_ ?_) | with_reducible refine r_cnd ?_ ?_) <;> intro hc <;> try simp only [push_cast, Int.reduceEq, Int.reduceLT, Int.reduceLE, Int.reduceNe] at hc | with_reducible refine r_rq (by first | decide | omega) ?_ | ((with_reducible first | apply i_lds | apply i_ldsq | apply i_ld | apply i_ldq); exact rfl) | ((with_reducible first | apply i_ldn | apply i_ldnq); exact rfl; exact rfl; exact rfl) | (with_reducible first | refine r_ph0 ?_ | apply i_kp0) | ((with_reducible first | apply i_st | apply i_stl); (focus simp); exact rfl) | ((try with_reducible refine d_reg ?_); simp only [go_sem, Nat.reduceAdd, Nat.reduceEqDiff, Int.reduceToNat, Nat.reduceMul, Nat.reduceSub]) | clear hK K)
    refine i_clq (gN q x r.Page 2 (by decide) (by decide) (by omega)) ?_
    repeat' ((fail_if_success with_reducible refine nph ?_); first | (with_reducible first | (refine d_seq ?_; intro K hK) | (refine hK _ _ ?_; clear hK K) | refine d_blk ?_ | refine d_rt0 ?_ | refine d_sk0 ?_ | refine d_ex0 ?_ | (refine r_nwc ?_; intro b)) | (first | ((with_reducible refine d_cnd ?_); refine And.intro ?_ ?_) | with_reducible refine r_cnd ?_ ?_) <;> intro hc <;> try simp only [push_cast, Int.reduceEq, Int.reduceLT, Int.reduceLE, Int.reduceNe] at hc | with_reducible refine r_rq (by first | decide | omega) ?_ | ((with_reducible first | apply i_lds | apply i_ldsq | apply i_ld | apply i_ldq); exact rfl) | ((with_reducible first | apply i_ldn | apply i_ldnq); exact rfl; exact rfl; exact rfl) | (with_reducible first | refine r_ph0 ?_ | apply i_kp0) | ((with_reducible first | apply i_st | apply i_stl); (focus simp); exact rfl) | ((try with_reducible refine d_reg ?_); simp only [go_sem, Nat.reduceAdd, Nat.reduceEqDiff, Int.reduceToNat, Nat.reduceMul, Nat.reduceSub]) | clear hK K)
    refine i_clq (gT q (layN x r.Page 2) r.Key (by omega)) ?_
    repeat' ((fail_if_success with_reducible refine nph ?_); first | (with_reducible first | (refine d_seq ?_; intro K hK) | (refine hK _ _ ?_; clear hK K) | refine d_blk ?_ | refine d_rt0 ?_ | refine d_sk0 ?_ | refine d_ex0 ?_ | (refine r_nwc ?_; intro b)) | (first | ((with_reducible refine d_cnd ?_); refine And.intro ?_ ?_) | with_reducible refine r_cnd ?_ ?_) <;> intro hc <;> try simp only [push_cast, Int.reduceEq, Int.reduceLT, Int.reduceLE, Int.reduceNe] at hc | with_reducible refine r_rq (by first | decide | omega) ?_ | ((with_reducible first | apply i_lds | apply i_ldsq | apply i_ld | apply i_ldq); exact rfl) | ((with_reducible first | apply i_ldn | apply i_ldnq); exact rfl; exact rfl; exact rfl) | (with_reducible first | refine r_ph0 ?_ | apply i_kp0) | ((with_reducible first | apply i_st | apply i_stl); (focus simp); exact rfl) | ((try with_reducible refine d_reg ?_); simp only [go_sem, Nat.reduceAdd, Nat.reduceEqDiff, Int.reduceToNat, Nat.reduceMul, Nat.reduceSub]) | clear hK K)
    all_goals try (first | contradiction | (simp only [ reduceCtorEq] at *; done) | (exfalso; omega))
    refine i_clq (gT q (layT (layN x r.Page 2) r.Key) r.New (by omega)) ?_
    repeat' ((fail_if_success with_reducible refine nph ?_); first | (with_reducible first | (refine d_seq ?_; intro K hK) | (refine hK _ _ ?_; clear hK K) | refine d_blk ?_ | refine d_rt0 ?_ | refine d_sk0 ?_ | refine d_ex0 ?_ | (refine r_nwc ?_; intro b)) | (first | ((with_reducible refine d_cnd ?_); refine And.intro ?_ ?_) | with_reducible refine r_cnd ?_ ?_) <;> intro hc <;> try simp only [push_cast, Int.reduceEq, Int.reduceLT, Int.reduceLE, Int.reduceNe] at hc | with_reducible refine r_rq (by first | decide | omega) ?_ | ((with_reducible first | apply i_lds | apply i_ldsq | apply i_ld | apply i_ldq); exact rfl) | ((with_reducible first | apply i_ldn | apply i_ldnq); exact rfl; exact rfl; exact rfl) | (with_reducible first | refine r_ph0 ?_ | apply i_kp0) | ((with_reducible first | apply i_st | apply i_stl); (focus simp); exact rfl) | ((try with_reducible refine d_reg ?_); simp only [go_sem, Nat.reduceAdd, Nat.reduceEqDiff, Int.reduceToNat, Nat.reduceMul, Nat.reduceSub]) | clear hK K)
    (with_reducible first | apply i_ret0 | apply i_ret2 | apply i_ret3 | apply i_ret); exact rfl
  · rw [if_neg a3]
    by_cases a4 : act = 4
    · rw [if_pos a4]
      repeat' ((fail_if_success with_reducible refine nph ?_); first | (with_reducible first | (refine d_seq ?_; intro K hK) | (refine hK _ _ ?_; clear hK K) | refine d_blk ?_ | refine d_rt0 ?_ | refine d_sk0 ?_ | refine d_ex0 ?_ | (refine r_nwc ?_; intro b)) | (first | ((with_reducible refine d_cnd ?_); refine And.intro ?_ ?_) | with_reducible refine r_cnd ?_ ?_) <;> intro hc <;> try simp only [push_cast, Int.reduceEq, Int.reduceLT, Int.reduceLE, Int.reduceNe] at hc | with_reducible refine r_rq (by first | decide | omega) ?_ | ((with_reducible first | apply i_lds | apply i_ldsq | apply i_ld | apply i_ldq); exact rfl) | ((with_reducible first | apply i_ldn | apply i_ldnq); exact rfl; exact rfl; exact rfl) | (with_reducible first | refine r_ph0 ?_ | apply i_kp0) | ((with_reducible first | apply i_st | apply i_stl); (focus simp); exact rfl) | ((try with_reducible refine d_reg ?_); simp only [go_sem, Nat.reduceAdd, Nat.reduceEqDiff, Int.reduceToNat, Nat.reduceMul, Nat.reduceSub]) | clear hK K)
      refine i_clq (gN q x r.Page 2 (by decide) (by decide) (by omega)) ?_
      repeat' ((fail_if_success with_reducible refine nph ?_); first | (with_reducible first | (refine d_seq ?_; intro K hK) | (refine hK _ _ ?_; clear hK K) | refine d_blk ?_ | refine d_rt0 ?_ | refine d_sk0 ?_ | refine d_ex0 ?_ | (refine r_nwc ?_; intro b)) | (first | ((with_reducible refine d_cnd ?_); refine And.intro ?_ ?_) | with_reducible refine r_cnd ?_ ?_) <;> intro hc <;> try simp only [push_cast, Int.reduceEq, Int.reduceLT, Int.reduceLE, Int.reduceNe] at hc | with_reducible refine r_rq (by first | decide | omega) ?_ | ((with_reducible first | apply i_lds | apply i_ldsq | apply i_ld | apply i_ldq); exact rfl) | ((with_reducible first | apply i_ldn | apply i_ldnq); exact rfl; exact rfl; exact rfl) | (with_reducible first | refine r_ph0 ?_ | apply i_kp0) | ((with_reducible first | apply i_st | apply i_stl); (focus simp); exact rfl) | ((try with_reducible refine d_reg ?_); simp only [go_sem, Nat.reduceAdd, Nat.reduceEqDiff, Int.reduceToNat, Nat.reduceMul, Nat.reduceSub]) | clear hK K)
      refine i_clq (gT q (layN x r.Page 2) r.Key (by omega)) ?_
      repeat' ((fail_if_success with_reducible refine nph ?_); first | (with_reducible first | (refine d_seq ?_; intro K hK) | (refine hK _ _ ?_; clear hK K) | refine d_blk ?_ | refine d_rt0 ?_ | refine d_sk0 ?_ | refine d_ex0 ?_ | (refine r_nwc ?_; intro b)) | (first | ((with_reducible refine d_cnd ?_); refine And.intro ?_ ?_) | with_reducible refine r_cnd ?_ ?_) <;> intro hc <;> try simp only [push_cast, Int.reduceEq, Int.reduceLT, Int.reduceLE, Int.reduceNe] at hc | with_reducible refine r_rq (by first | decide | omega) ?_ | ((with_reducible first | apply i_lds | apply i_ldsq | apply i_ld | apply i_ldq); exact rfl) | ((with_reducible first | apply i_ldn | apply i_ldnq); exact rfl; exact rfl; exact rfl) | (with_reducible first | refine r_ph0 ?_ | apply i_kp0) | ((with_reducible first | apply i_st | apply i_stl); (focus simp); exact rfl) | ((try with_reducible refine d_reg ?_); simp only [go_sem, Nat.reduceAdd, Nat.reduceEqDiff, Int.reduceToNat, Nat.reduceMul, Nat.reduceSub]) | clear hK K)
      all_goals try (first | contradiction | (simp only [ reduceCtorEq] at *; done) | (exfalso; omega))
      refine i_clq (gT q (layT (layN x r.Page 2) r.Key) r.Old (by omega)) ?_
      repeat' ((fail_if_success with_reducible refine nph ?_); first | (with_reducible first | (refine d_seq ?_; intro K hK) | (refine hK _ _ ?_; clear hK K) | refine d_blk ?_ | refine d_rt0 ?_ | refine d_sk0 ?_ | refine d_ex0 ?_ | (refine r_nwc ?_; intro b)) | (first | ((with_reducible refine d_cnd ?_); refine And.intro ?_ ?_) | with_reducible refine r_cnd ?_ ?_) <;> intro hc <;> try simp only [push_cast, Int.reduceEq, Int.reduceLT, Int.reduceLE, Int.reduceNe] at hc | with_reducible refine r_rq (by first | decide | omega) ?_ | ((with_reducible first | apply i_lds | apply i_ldsq | apply i_ld | apply i_ldq); exact rfl) | ((with_reducible first | apply i_ldn | apply i_ldnq); exact rfl; exact rfl; exact rfl) | (with_reducible first | refine r_ph0 ?_ | apply i_kp0) | ((with_reducible first | apply i_st | apply i_stl); (focus simp); exact rfl) | ((try with_reducible refine d_reg ?_); simp only [go_sem, Nat.reduceAdd, Nat.reduceEqDiff, Int.reduceToNat, Nat.reduceMul, Nat.reduceSub]) | clear hK K)
      all_goals try (first | contradiction | (simp only [ reduceCtorEq] at *; done) | (exfalso; omega))
      (with_reducible first | apply i_ret0 | apply i_ret2 | apply i_ret3 | apply i_ret); exact rfl
    · rw [if_neg a4]
      repeat' ((fail_if_success with_reducible refine nph ?_); first | (with_reducible first | (refine d_seq ?_; intro K hK) | (refine hK _ _ ?_; clear hK K) | refine d_blk ?_ | refine d_rt0 ?_ | refine d_sk0 ?_ | refine d_ex0 ?_ | (refine r_nwc ?_; intro b)) | (first | ((with_reducible refine d_cnd ?_); refine And.intro ?_ ?_) | with_reducible refine r_cnd ?_ ?_) <;> intro hc <;> try simp only [push_cast, Int.reduceEq, Int.reduceLT, Int.reduceLE, Int.reduceNe] at hc | with_reducible refine r_rq (by first | decide | omega) ?_ | ((with_reducible first | apply i_lds | apply i_ldsq | apply i_ld | apply i_ldq); exact rfl) | ((with_reducible first | apply i_ldn | apply i_ldnq); exact rfl; exact rfl; exact rfl) | (with_reducible first | refine r_ph0 ?_ | apply i_kp0) | ((with_reducible first | apply i_st | apply i_stl); (focus simp); exact rfl) | ((try with_reducible refine d_reg ?_); simp only [go_sem, Nat.reduceAdd, Nat.reduceEqDiff, Int.reduceToNat, Nat.reduceMul, Nat.reduceSub]) | clear hK K)
      refine i_clq (gN q x r.Page 2 (by decide) (by decide) (by omega)) ?_
      repeat' ((fail_if_success with_reducible refine nph ?_); first | (with_reducible first | (refine d_seq ?_; intro K hK) | (refine hK _ _ ?_; clear hK K) | refine d_blk ?_ | refine d_rt0 ?_ | refine d_sk0 ?_ | refine d_ex0 ?_ | (refine r_nwc ?_; intro b)) | (first | ((with_reducible refine d_cnd ?_); refine And.intro ?_ ?_) | with_reducible refine r_cnd ?_ ?_) <;> intro hc <;> try simp only [push_cast, Int.reduceEq, Int.reduceLT, Int.reduceLE, Int.reduceNe] at hc | with_reducible refine r_rq (by first | decide | omega) ?_ | ((with_reducible first | apply i_lds | apply i_ldsq | apply i_ld | apply i_ldq); exact rfl) | ((with_reducible first | apply i_ldn | apply i_ldnq); exact rfl; exact rfl; exact rfl) | (with_reducible first | refine r_ph0 ?_ | apply i_kp0) | ((with_reducible first | apply i_st | apply i_stl); (focus simp); exact rfl) | ((try with_reducible refine d_reg ?_); simp only [go_sem, Nat.reduceAdd, Nat.reduceEqDiff, Int.reduceToNat, Nat.reduceMul, Nat.reduceSub]) | clear hK K)
      refine i_clq (gT q (layN x r.Page 2) r.Key (by omega)) ?_
      repeat' ((fail_if_success with_reducible refine nph ?_); first | (with_reducible first | (refine d_seq ?_; intro K hK) | (refine hK _ _ ?_; clear hK K) | refine d_blk ?_ | refine d_rt0 ?_ | refine d_sk0 ?_ | refine d_ex0 ?_ | (refine r_nwc ?_; intro b)) | (first | ((with_reducible refine d_cnd ?_); refine And.intro ?_ ?_) | with_reducible refine r_cnd ?_ ?_) <;> intro hc <;> try simp only [push_cast, Int.reduceEq, Int.reduceLT, Int.reduceLE, Int.reduceNe] at hc | with_reducible refine r_rq (by first | decide | omega) ?_ | ((with_reducible first | apply i_lds | apply i_ldsq | apply i_ld | apply i_ldq); exact rfl) | ((with_reducible first | apply i_ldn | apply i_ldnq); exact rfl; exact rfl; exact rfl) | (with_reducible first | refine r_ph0 ?_ | apply i_kp0) | ((with_reducible first | apply i_st | apply i_stl); (focus simp); exact rfl) | ((try with_reducible refine d_reg ?_); simp only [go_sem, Nat.reduceAdd, Nat.reduceEqDiff, Int.reduceToNat, Nat.reduceMul, Nat.reduceSub]) | clear hK K)
      all_goals try (first | contradiction | (simp only [ reduceCtorEq] at *; done) | (exfalso; omega))
      refine i_clq (gT q (layT (layN x r.Page 2) r.Key) r.Old (by omega)) ?_
      repeat' ((fail_if_success with_reducible refine nph ?_); first | (with_reducible first | (refine d_seq ?_; intro K hK) | (refine hK _ _ ?_; clear hK K) | refine d_blk ?_ | refine d_rt0 ?_ | refine d_sk0 ?_ | refine d_ex0 ?_ | (refine r_nwc ?_; intro b)) | (first | ((with_reducible refine d_cnd ?_); refine And.intro ?_ ?_) | with_reducible refine r_cnd ?_ ?_) <;> intro hc <;> try simp only [push_cast, Int.reduceEq, Int.reduceLT, Int.reduceLE, Int.reduceNe] at hc | with_reducible refine r_rq (by first | decide | omega) ?_ | ((with_reducible first | apply i_lds | apply i_ldsq | apply i_ld | apply i_ldq); exact rfl) | ((with_reducible first | apply i_ldn | apply i_ldnq); exact rfl; exact rfl; exact rfl) | (with_reducible first | refine r_ph0 ?_ | apply i_kp0) | ((with_reducible first | apply i_st | apply i_stl); (focus simp); exact rfl) | ((try with_reducible refine d_reg ?_); simp only [go_sem, Nat.reduceAdd, Nat.reduceEqDiff, Int.reduceToNat, Nat.reduceMul, Nat.reduceSub]) | clear hK K)
      all_goals try (first | contradiction | (simp only [ reduceCtorEq] at *; done) | (exfalso; omega))
      refine i_clq (gT q (layT (layT (layN x r.Page 2) r.Key) r.Old) r.New (by omega)) ?_
      repeat' ((fail_if_success with_reducible refine nph ?_); first | (with_reducible first | (refine d_seq ?_; intro K hK) | (refine hK _ _ ?_; clear hK K) | refine d_blk ?_ | refine d_rt0 ?_ | refine d_sk0 ?_ | refine d_ex0 ?_ | (refine r_nwc ?_; intro b)) | (first | ((with_reducible refine d_cnd ?_); refine And.intro ?_ ?_) | with_reducible refine r_cnd ?_ ?_) <;> intro hc <;> try simp only [push_cast, Int.reduceEq, Int.reduceLT, Int.reduceLE, Int.reduceNe] at hc | with_reducible refine r_rq (by first | decide | omega) ?_ | ((with_reducible first | apply i_lds | apply i_ldsq | apply i_ld | apply i_ldq); exact rfl) | ((with_reducible first | apply i_ldn | apply i_ldnq); exact rfl; exact rfl; exact rfl) | (with_reducible first | refine r_ph0 ?_ | apply i_kp0) | ((with_reducible first | apply i_st | apply i_stl); (focus simp); exact rfl) | ((try with_reducible refine d_reg ?_); simp only [go_sem, Nat.reduceAdd, Nat.reduceEqDiff, Int.reduceToNat, Nat.reduceMul, Nat.reduceSub]) | clear hK K)
      (with_reducible first | apply i_ret0 | apply i_ret2 | apply i_ret3 | apply i_ret); exact rfl
end Go.Sp
/- An owned slice opened as a block of cells, and closed again. -/
namespace Go.Sp
open Go
section
variable {L L' R : List HP} {G : W} {t : TypeId} {sz n c : Nat} {xs cs : List Value}
theorem i_sn {α : Type} {cel : α → List Value} {A : HP} {a : Addr} {n c sz i : Nat} {xs : List α} {x : α} {e : Enc} {k : e.α → W} {y : e.α} (hR : Rs A (some a, n, c) sz (xs.flatMap cel)) (hc : ∀ x, (cel x).length = sz) (hx : xs[i]? = some x) [ha : AX L A L'] (he : e.enc y = .agg (cel x).toArray) (h : E L (k y)) : E L (ldn e sz (a.add (i * sz)) k) :=
  r_sn hR hc hx ha.p he h
end
/-! Texts as arguments. -/
end Go.Sp
/- An array of texts as an argument; texts of several kinds. -/
namespace Go.Sp
open Go
section
variable {H : Type} {enc : TypeId × Value → H} {P : Program} {w : World} {base : Nat} {spare : Nat → Bool} {held : Bool}
end
end Go.Sp
/- Records: pages are laid; a record with just what its kind has. -/
namespace Go.Sp
open Go Go.Proofs
set_option linter.unusedSimpArgs false
set_option linter.unusedVariables false
set_option maxRecDepth 10000
def imgo (x : Wt) : List api_Image → Wt × Int
  | [] => (x, 0)
  | m :: l => if m.Text.length = 224 then imgo (layT (layN x m.Page 2) m.Text) l else (x, 4)
def ims (x : Wt) (l : List api_Image) : Wt × Int := imgo (layN x (l.length : Int) 1) l
theorem Rs.len2 {A : HP} {s : SlV} {α : Type} {f : α → List Value} {l : List α} (h : Rs A s 2 (l.flatMap f)) (hf : ∀ x, (f x).length = 2) : s.2.1 = l.length := by
  have h1 := h.1
  have h2 : (l.flatMap f).length = 2 * l.length := by
    clear h h1
    induction l with
    | nil => rfl
    | cons a l ih => rw [List.flatMap_cons, List.length_append, ih, hf, List.length_cons]; omega
  omega
theorem g104 (A : HP) (q : Nat) (x : Wt) (s : SlV) (is : List api_Image) (hR : Rs A s 2 (is.flatMap cImg)) (hl : is.length ≤ 255) (hs : x.1.length ≤ 1000) :
    Fq eI Tryz.prog 104 #[.pointer (some ⟨q, 0, none⟩), .slice s.1 s.2.1 s.2.2] [wr q x, A] [wr q (ims x is).1, A] (ims x is).2 := fun L => by
  have hn := hR.len2 cImg_len
  obtain ⟨p, n, c⟩ := s
  dsimp only at hn
  subst hn
  have h1 := layN_len x (is.length : Int) 1
  unfold ims
  refine c104_fn rfl rfl ?_
  repeat' ((fail_if_success with_reducible refine nph ?_); first | (with_reducible first | (refine d_seq ?_; intro K hK) | (refine hK _ _ ?_; clear hK K) | refine d_blk ?_ | refine d_rt0 ?_ | refine d_sk0 ?_ | refine d_ex0 ?_ | (refine r_nwc ?_; intro b)) | (first | ((with_reducible refine d_cnd ?_); refine And.intro ?_ ?_) | with_reducible refine r_cnd ?_ ?_) <;> intro hc <;> try simp only [push_cast, Int.reduceEq, Int.reduceLT, Int.reduceLE, Int.reduceNe] at hc | with_reducible refine r_rq (by first | decide | omega) ?_ | ((with_reducible first | apply i_lds | apply i_ldsq | apply i_ld | apply i_ldq); exact rfl) | ((with_reducible first | apply i_ldn | apply i_ldnq); exact rfl; exact rfl; exact rfl) | (with_reducible first | refine r_ph0 ?_ | apply i_kp0) | ((with_reducible first | apply i_st | apply i_stl); (focus simp); exact rfl) | ((try with_reducible refine d_reg ?_); simp only [go_sem, Nat.reduceAdd, Nat.reduceEqDiff, Int.reduceToNat, Nat.reduceMul, Nat.reduceSub]) | clear hK K)
  refine i_clq (gN q x (is.length : Int) 1 (by decide) (by decide) (by omega)) ?_
  generalize layN x (is.length : Int) 1 = x1 at *
  repeat' ((fail_if_success with_reducible refine nph ?_); first | (with_reducible first | (refine d_seq ?_; intro K hK) | (refine hK _ _ ?_; clear hK K) | refine d_blk ?_ | refine d_rt0 ?_ | refine d_sk0 ?_ | refine d_ex0 ?_ | (refine r_nwc ?_; intro b)) | (first | ((with_reducible refine d_cnd ?_); refine And.intro ?_ ?_) | with_reducible refine r_cnd ?_ ?_) <;> intro hc <;> try simp only [push_cast, Int.reduceEq, Int.reduceLT, Int.reduceLE, Int.reduceNe] at hc | with_reducible refine r_rq (by first | decide | omega) ?_ | ((with_reducible first | apply i_lds | apply i_ldsq | apply i_ld | apply i_ldq); exact rfl) | ((with_reducible first | apply i_ldn | apply i_ldnq); exact rfl; exact rfl; exact rfl) | (with_reducible first | refine r_ph0 ?_ | apply i_kp0) | ((with_reducible first | apply i_st | apply i_stl); (focus simp); exact rfl) | ((try with_reducible refine d_reg ?_); simp only [go_sem, Nat.reduceAdd, Nat.reduceEqDiff, Int.reduceToNat, Nat.reduceMul, Nat.reduceSub]) | clear hK K)
  refine d_lp [0, 11, 12, 13] (fun t : Nat × Wt => [(0, .pointer (some ⟨q, 0, none⟩)), (11, .slice p is.length c), (12, .int .i64 (is.length : Int)), (13, .int .i64 (t.1 : Int))])
    (fun t => wr q t.2 :: A :: L) (fun t => t.1 ≤ is.length ∧ imgo t.2 (is.drop t.1) = imgo x1 is ∧ t.2.1.length ≤ 2000 + t.1 * 65600) (fun t => is.length - t.1) (0, x1) rfl SX.p ⟨by dsimp only; omega, rfl, by dsimp only; omega⟩ ?_
  rintro ⟨i, y⟩ ⟨hi, hy, hb⟩
  dsimp only at hi hy hb ⊢
  repeat' ((fail_if_success with_reducible refine nph ?_); first | (with_reducible first | (refine d_seq ?_; intro K hK) | (refine hK _ _ ?_; clear hK K) | refine d_blk ?_ | refine d_rt0 ?_ | refine d_sk0 ?_ | refine d_ex0 ?_ | (refine r_nwc ?_; intro b)) | (first | ((with_reducible refine d_cnd ?_); refine And.intro ?_ ?_) | with_reducible refine r_cnd ?_ ?_) <;> intro hc <;> try simp only [push_cast, Int.reduceEq, Int.reduceLT, Int.reduceLE, Int.reduceNe] at hc | with_reducible refine r_rq (by first | decide | omega) ?_ | ((with_reducible first | apply i_lds | apply i_ldsq | apply i_ld | apply i_ldq); exact rfl) | ((with_reducible first | apply i_ldn | apply i_ldnq); exact rfl; exact rfl; exact rfl) | (with_reducible first | refine r_ph0 ?_ | apply i_kp0) | ((with_reducible first | apply i_st | apply i_stl); (focus simp); exact rfl) | ((try with_reducible refine d_reg ?_); simp only [go_sem, Nat.reduceAdd, Nat.reduceEqDiff, Int.reduceToNat, Nat.reduceMul, Nat.reduceSub]) | clear hK K)
  · have hlt : i < is.length := by omega
    obtain ⟨m, hm⟩ : ∃ m, is[i]? = some m := ⟨is[i], by simp [hlt]⟩
    have hd : is.drop i = m :: is.drop (i + 1) := by
      rw [List.drop_eq_getElem_cons hlt]
      rw [List.getElem?_eq_getElem hlt] at hm
      simp only [Option.some.injEq] at hm
      rw [hm]
    rw [hd, show imgo y (m :: is.drop (i + 1)) = if m.Text.length = 224 then imgo (layT (layN y m.Page 2) m.Text) (is.drop (i + 1)) else (y, 4) from rfl] at hy
    have l1 := layN_len y m.Page 2
    have l2 := layT_len (layN y m.Page 2) m.Text
    rcases p with _ | a
    · exact absurd rfl (hR.2.1 (by dsimp only; omega))
    · refine r_nn rfl ?_
      refine i_sn (x := m) (y := m) hR cImg_len hm rfl ?_
      repeat' ((fail_if_success with_reducible refine nph ?_); first | (with_reducible first | (refine d_seq ?_; intro K hK) | (refine hK _ _ ?_; clear hK K) | refine d_blk ?_ | refine d_rt0 ?_ | refine d_sk0 ?_ | refine d_ex0 ?_ | (refine r_nwc ?_; intro b)) | (first | ((with_reducible refine d_cnd ?_); refine And.intro ?_ ?_) | with_reducible refine r_cnd ?_ ?_) <;> intro hc <;> try simp only [push_cast, Int.reduceEq, Int.reduceLT, Int.reduceLE, Int.reduceNe] at hc | with_reducible refine r_rq (by first | decide | omega) ?_ | ((with_reducible first | apply i_lds | apply i_ldsq | apply i_ld | apply i_ldq); exact rfl) | ((with_reducible first | apply i_ldn | apply i_ldnq); exact rfl; exact rfl; exact rfl) | (with_reducible first | refine r_ph0 ?_ | apply i_kp0) | ((with_reducible first | apply i_st | apply i_stl); (focus simp); exact rfl) | ((try with_reducible refine d_reg ?_); simp only [go_sem, Nat.reduceAdd, Nat.reduceEqDiff, Int.reduceToNat, Nat.reduceMul, Nat.reduceSub]) | clear hK K)
      · have h2 : ¬ m.Text.length = 224 := by omega
        rw [if_neg h2] at hy
        rw [← hy]
        (with_reducible first | apply i_ret0 | apply i_ret2 | apply i_ret3 | apply i_ret); exact rfl
        rfl
      · have h2 : m.Text.length = 224 := by omega
        rw [if_pos h2] at hy
        refine i_clq (gN q y m.Page 2 (by decide) (by decide) (by omega)) ?_
        repeat' ((fail_if_success with_reducible refine nph ?_); first | (with_reducible first | (refine d_seq ?_; intro K hK) | (refine hK _ _ ?_; clear hK K) | refine d_blk ?_ | refine d_rt0 ?_ | refine d_sk0 ?_ | refine d_ex0 ?_ | (refine r_nwc ?_; intro b)) | (first | ((with_reducible refine d_cnd ?_); refine And.intro ?_ ?_) | with_reducible refine r_cnd ?_ ?_) <;> intro hc <;> try simp only [push_cast, Int.reduceEq, Int.reduceLT, Int.reduceLE, Int.reduceNe] at hc | with_reducible refine r_rq (by first | decide | omega) ?_ | ((with_reducible first | apply i_lds | apply i_ldsq | apply i_ld | apply i_ldq); exact rfl) | ((with_reducible first | apply i_ldn | apply i_ldnq); exact rfl; exact rfl; exact rfl) | (with_reducible first | refine r_ph0 ?_ | apply i_kp0) | ((with_reducible first | apply i_st | apply i_stl); (focus simp); exact rfl) | ((try with_reducible refine d_reg ?_); simp only [go_sem, Nat.reduceAdd, Nat.reduceEqDiff, Int.reduceToNat, Nat.reduceMul, Nat.reduceSub]) | clear hK K)
        refine i_clq (gT q (layN y m.Page 2) m.Text (by omega)) ?_
        repeat' ((fail_if_success with_reducible refine nph ?_); first | (with_reducible first | (refine d_seq ?_; intro K hK) | (refine hK _ _ ?_; clear hK K) | refine d_blk ?_ | refine d_rt0 ?_ | refine d_sk0 ?_ | refine d_ex0 ?_ | (refine r_nwc ?_; intro b)) | (first | ((with_reducible refine d_cnd ?_); refine And.intro ?_ ?_) | with_reducible refine r_cnd ?_ ?_) <;> intro hc <;> try simp only [push_cast, Int.reduceEq, Int.reduceLT, Int.reduceLE, Int.reduceNe] at hc | with_reducible refine r_rq (by first | decide | omega) ?_ | ((with_reducible first | apply i_lds | apply i_ldsq | apply i_ld | apply i_ldq); exact rfl) | ((with_reducible first | apply i_ldn | apply i_ldnq); exact rfl; exact rfl; exact rfl) | (with_reducible first | refine r_ph0 ?_ | apply i_kp0) | ((with_reducible first | apply i_st | apply i_stl); (focus simp); exact rfl) | ((try with_reducible refine d_reg ?_); simp only [go_sem, Nat.reduceAdd, Nat.reduceEqDiff, Int.reduceToNat, Nat.reduceMul, Nat.reduceSub]) | clear hK K)
        rw [w64 (by omega) (by omega)]
        exact i_bk (i + 1, layT (layN y m.Page 2) m.Text) rfl ⟨by dsimp only; omega, hy, by dsimp only; omega⟩ (by dsimp only; omega)
  · obtain rfl : i = is.length := by omega
    rw [List.drop_length, show imgo y [] = (y, 0) from rfl] at hy
    rw [← hy]
    (with_reducible first | apply i_ret0 | apply i_ret2 | apply i_ret3 | apply i_ret); exact rfl
    rfl
/-- What an act has not is dropped. -/
def tdy (c : Rc) (act : Int) : Rc := if act = 3 then { c with old := [] } else if act = 4 then { c with nw := [] } else c
def Rc.z (k : Int) : Rc := ⟨k, 0, 0, 0, 0, [], [], [], 0, [], [], 0, 0⟩
def Rc.clean (c : Rc) : Rc :=
  if c.kind = 1 ∨ c.kind = 2 then { Rc.z c.kind with imgs := c.imgs }
  else if c.kind = 3 ∨ c.kind = 4 ∨ c.kind = 5 then tdy { Rc.z c.kind with txn := c.txn, prev := c.prev, page := c.page, key := c.key, old := c.old, nw := c.nw } c.kind
  else if c.kind = 6 then tdy { Rc.z c.kind with txn := c.txn, prev := c.prev, next := c.next, act := c.act, page := c.page, key := c.key, old := c.old, nw := c.nw } c.act
  else if c.kind = 7 ∨ c.kind = 8 then { Rc.z c.kind with txn := c.txn, prev := c.prev }
  else if c.kind = 9 then { Rc.z c.kind with tbl := c.tbl }
  else if c.kind = 10 then { Rc.z c.kind with epoch := c.epoch, node := c.node }
  else Rc.z c.kind
abbrev rcl (r : api_Rec) : List Value := [.int .i64 r.Kind, .int .i64 r.Txn, .int .i64 r.Prev, .int .i64 r.Page, .int .i64 r.Act, str r.Key, str r.Old, str r.New, .int .i64 r.Next, .slice r.Images.1 r.Images.2.1 r.Images.2.2, .slice r.Table.1 r.Table.2.1 r.Table.2.2, .int .i64 r.Epoch, .int .i64 r.Node]
def tdr (r : api_Rec) (act : Int) : api_Rec := if act = 3 then { r with Old := [] } else if act = 4 then { r with New := [] } else r
theorem g109 (b : Nat) (r : api_Rec) (act : Int) : Fq eN Tryz.prog 109 #[.pointer (some ⟨b, 0, none⟩), .int .i64 act] [ar b 36 (rcl r)] [ar b 36 (rcl (tdr r act))] () := fun L => by
  unfold tdr
  refine c109_fn rfl rfl ?_
  by_cases a3 : act = 3
  · rw [if_pos a3]
    repeat' (first | (with_reducible first | (refine d_seq ?_; intro K hK) | (refine hK _ _ ?_; clear hK K) | refine d_blk ?_ | refine d_rt0 ?_ | refine d_sk0 ?_ | refine d_ex0 ?_ | (refine r_nwc ?_; intro b)) | (first | ((with_reducible refine d_cnd ?_); refine And.intro ?_ ?_) | with_reducible refine r_cnd ?_ ?_) <;> intro hc <;> try simp only [push_cast, Int.reduceEq, Int.reduceLT, Int.reduceLE, Int.reduceNe] at hc | with_reducible refine r_rq (by first | decide | omega) ?_ | ((with_reducible first | apply i_lds | apply i_ldsq | apply i_ld | apply i_ldq); exact rfl) | ((with_reducible first | apply i_ldn | apply i_ldnq); exact rfl; exact rfl; exact rfl) | (with_reducible first | refine r_ph0 ?_ | apply i_kp0) | ((with_reducible first | apply i_st | apply i_stl); (focus simp); exact rfl) | ((try with_reducible refine d_reg ?_); simp only [go_sem, Nat.reduceAdd, Nat.reduceEqDiff, Int.reduceToNat, Nat.reduceMul, Nat.reduceSub]) | clear hK K)
    all_goals try (first | contradiction | (simp only [ reduceCtorEq] at *; done) | (exfalso; omega))
    (with_reducible first | apply i_ret0 | apply i_ret2 | apply i_ret3 | apply i_ret); exact rfl
  · rw [if_neg a3]
    by_cases a4 : act = 4
    · rw [if_pos a4]
      repeat' (first | (with_reducible first | (refine d_seq ?_; intro K hK) | (refine hK _ _ ?_; clear hK K) | refine d_blk ?_ | refine d_rt0 ?_ | refine d_sk0 ?_ | refine d_ex0 ?_ | (refine r_nwc ?_; intro b)) | (first | ((with_reducible refine d_cnd ?_); refine And.intro ?_ ?_) | with_reducible refine r_cnd ?_ ?_) <;> intro hc <;> try simp only [push_cast, Int.reduceEq, Int.reduceLT, Int.reduceLE, Int.reduceNe] at hc | with_reducible refine r_rq (by first | decide | omega) ?_ | ((with_reducible first | apply i_lds | apply i_ldsq | apply i_ld | apply i_ldq); exact rfl) | ((with_reducible first | apply i_ldn | apply i_ldnq); exact rfl; exact rfl; exact rfl) | (with_reducible first | refine r_ph0 ?_ | apply i_kp0) | ((with_reducible first | apply i_st | apply i_stl); (focus simp); exact rfl) | ((try with_reducible refine d_reg ?_); simp only [go_sem, Nat.reduceAdd, Nat.reduceEqDiff, Int.reduceToNat, Nat.reduceMul, Nat.reduceSub]) | clear hK K)
      all_goals try (first | contradiction | (simp only [ reduceCtorEq] at *; done) | (exfalso; omega))
      (with_reducible first | apply i_ret0 | apply i_ret2 | apply i_ret3 | apply i_ret); exact rfl
    · rw [if_neg a4]
      repeat' (first | (with_reducible first | (refine d_seq ?_; intro K hK) | (refine hK _ _ ?_; clear hK K) | refine d_blk ?_ | refine d_rt0 ?_ | refine d_sk0 ?_ | refine d_ex0 ?_ | (refine r_nwc ?_; intro b)) | (first | ((with_reducible refine d_cnd ?_); refine And.intro ?_ ?_) | with_reducible refine r_cnd ?_ ?_) <;> intro hc <;> try simp only [push_cast, Int.reduceEq, Int.reduceLT, Int.reduceLE, Int.reduceNe] at hc | with_reducible refine r_rq (by first | decide | omega) ?_ | ((with_reducible first | apply i_lds | apply i_ldsq | apply i_ld | apply i_ldq); exact rfl) | ((with_reducible first | apply i_ldn | apply i_ldnq); exact rfl; exact rfl; exact rfl) | (with_reducible first | refine r_ph0 ?_ | apply i_kp0) | ((with_reducible first | apply i_st | apply i_stl); (focus simp); exact rfl) | ((try with_reducible refine d_reg ?_); simp only [go_sem, Nat.reduceAdd, Nat.reduceEqDiff, Int.reduceToNat, Nat.reduceMul, Nat.reduceSub]) | clear hK K)
      all_goals try (first | contradiction | (simp only [ reduceCtorEq] at *; done) | (exfalso; omega))
      (with_reducible first | apply i_ret0 | apply i_ret2 | apply i_ret3 | apply i_ret); exact rfl
def rz (k : Int) : api_Rec := ⟨k, 0, 0, 0, 0, [], [], [], 0, (none, 0, 0), (none, 0, 0), 0, 0⟩
def clr (r : api_Rec) : api_Rec :=
  if r.Kind = 1 ∨ r.Kind = 2 then { rz r.Kind with Images := r.Images }
  else if r.Kind = 3 ∨ r.Kind = 4 ∨ r.Kind = 5 then tdr { rz r.Kind with Txn := r.Txn, Prev := r.Prev, Page := r.Page, Key := r.Key, Old := r.Old, New := r.New } r.Kind
  else if r.Kind = 6 then tdr { rz r.Kind with Txn := r.Txn, Prev := r.Prev, Next := r.Next, Act := r.Act, Page := r.Page, Key := r.Key, Old := r.Old, New := r.New } r.Act
  else if r.Kind = 7 ∨ r.Kind = 8 then { rz r.Kind with Txn := r.Txn, Prev := r.Prev }
  else if r.Kind = 9 then { rz r.Kind with Table := r.Table }
  else if r.Kind = 10 then { rz r.Kind with Epoch := r.Epoch, Node := r.Node }
  else rz r.Kind
theorem Rs_nil {A : HP} {sz : Nat} : Rs A (none, 0, 0) sz [] := ⟨by simp, by simp, fun a h => by cases h⟩
theorem RcAt.tdr {A : HP} {r : api_Rec} {c : Rc} (h : RcAt A r c) (act : Int) : RcAt A (tdr r act) (tdy c act) := by
  obtain ⟨e, i, t, li, lt⟩ := h
  unfold Sp.tdr tdy
  split
  · exact ⟨by rw [e]; rfl, i, t, li, lt⟩
  · split
    · exact ⟨by rw [e]; rfl, i, t, li, lt⟩
    · exact ⟨e, i, t, li, lt⟩
theorem RcAt.clr {A : HP} {r : api_Rec} {c : Rc} (h : RcAt A r c) : RcAt A (clr r) c.clean := by
  obtain ⟨e, i, t, li, lt⟩ := h
  obtain ⟨kind, txn, prev, page, act, key, old, nw, next, imgs, tbl, epoch, node⟩ := c
  simp only [Rc.of, Rc.mk.injEq] at e
  obtain ⟨rfl, rfl, rfl, rfl, rfl, rfl, rfl, rfl, rfl, _, _, rfl, rfl⟩ := e
  dsimp only at i t li lt
  unfold Sp.clr Rc.clean
  dsimp only
  repeat' split
  · exact ⟨rfl, i, Rs_nil, li, by simp [Rc.z]⟩
  · exact RcAt.tdr ⟨rfl, Rs_nil, Rs_nil, by simp [Rc.z], by simp [Rc.z]⟩ _
  · exact RcAt.tdr ⟨rfl, Rs_nil, Rs_nil, by simp [Rc.z], by simp [Rc.z]⟩ _
  · exact ⟨rfl, Rs_nil, Rs_nil, by simp [Rc.z], by simp [Rc.z]⟩
  · exact ⟨rfl, Rs_nil, t, by simp [Rc.z], lt⟩
  · exact ⟨rfl, Rs_nil, Rs_nil, by simp [Rc.z], by simp [Rc.z]⟩
  · exact ⟨rfl, Rs_nil, Rs_nil, by simp [Rc.z], by simp [Rc.z]⟩
end Go.Sp
/- Records: Clean. -/
namespace Go.Sp
open Go Go.Proofs
set_option linter.unusedSimpArgs false
set_option linter.unusedVariables false
set_option maxRecDepth 10000
set_option maxHeartbeats 2000000 in
theorem g72 (r : api_Rec) : Fp e_api_Rec Tryz.prog 72 #[v_api_Rec r] [] (clr r) := fun L => by
  obtain ⟨kind, txn, prev, page, act, key, old, nw, next, im, tb, epoch, node⟩ := r
  unfold clr
  dsimp only
  refine c72_fn rfl rfl ?_
  refine d_seq ?_
  intro K0 hK0
  refine d_reg ?_
  simp only [go_sem, Nat.reduceAdd, Nat.reduceEqDiff, Int.reduceToNat, Nat.reduceMul, Nat.reduceSub]
  refine r_nwc ?_
  intro b1
  refine r_nwc ?_
  intro b2
  refine hK0 _ _ ?_
  clear hK0 K0
  by_cases h1 : kind = 1
  · subst h1
    rw [if_pos (.inl rfl)]
    repeat' ((fail_if_success with_reducible refine nph ?_); first | (with_reducible first | (refine d_seq ?_; intro K hK) | (refine hK _ _ ?_; clear hK K) | refine d_blk ?_ | refine d_rt0 ?_ | refine d_sk0 ?_ | refine d_ex0 ?_ | (refine r_nwc ?_; intro b)) | (first | ((with_reducible refine d_cnd ?_); refine And.intro ?_ ?_) | with_reducible refine r_cnd ?_ ?_) <;> intro hc <;> try simp only [push_cast, Int.reduceEq, Int.reduceLT, Int.reduceLE, Int.reduceNe] at hc | with_reducible refine r_rq (by first | decide | omega) ?_ | ((with_reducible first | apply i_lds | apply i_ldsq | apply i_ld | apply i_ldq); exact rfl) | ((with_reducible first | apply i_ldn | apply i_ldnq); exact rfl; exact rfl; exact rfl) | (with_reducible first | refine r_ph0 ?_ | apply i_kp0) | ((with_reducible first | apply i_st | apply i_stl); (focus simp); exact rfl) | ((try with_reducible refine d_reg ?_); simp only [go_sem, Nat.reduceAdd, Nat.reduceEqDiff, Int.reduceToNat, Nat.reduceMul, Nat.reduceSub]) | clear hK K)
    (refine i_ldn (e := e_api_Rec) (x := ⟨1, 0, 0, 0, 0, [], [], [], 0, im, (none, 0, 0), 0, 0⟩) rfl rfl rfl ?_); repeat' ((fail_if_success with_reducible refine nph ?_); first | (with_reducible first | (refine d_seq ?_; intro K hK) | (refine hK _ _ ?_; clear hK K) | refine d_blk ?_ | refine d_rt0 ?_ | refine d_sk0 ?_ | refine d_ex0 ?_ | (refine r_nwc ?_; intro b)) | (first | ((with_reducible refine d_cnd ?_); refine And.intro ?_ ?_) | with_reducible refine r_cnd ?_ ?_) <;> intro hc <;> try simp only [push_cast, Int.reduceEq, Int.reduceLT, Int.reduceLE, Int.reduceNe] at hc | with_reducible refine r_rq (by first | decide | omega) ?_ | ((with_reducible first | apply i_lds | apply i_ldsq | apply i_ld | apply i_ldq); exact rfl) | ((with_reducible first | apply i_ldn | apply i_ldnq); exact rfl; exact rfl; exact rfl) | (with_reducible first | refine r_ph0 ?_ | apply i_kp0) | ((with_reducible first | apply i_st | apply i_stl); (focus simp); exact rfl) | ((try with_reducible refine d_reg ?_); simp only [go_sem, Nat.reduceAdd, Nat.reduceEqDiff, Int.reduceToNat, Nat.reduceMul, Nat.reduceSub]) | clear hK K)
    (refine i_ldn (e := e_api_Rec) (x := ⟨1, 0, 0, 0, 0, [], [], [], 0, im, (none, 0, 0), 0, 0⟩) rfl rfl rfl ?_); ((with_reducible first | apply i_ret0 | apply i_ret2 | apply i_ret3 | apply i_ret); exact rfl); rfl
  by_cases h2 : kind = 2
  · subst h2
    rw [if_pos (.inr rfl)]
    repeat' ((fail_if_success with_reducible refine nph ?_); first | (with_reducible first | (refine d_seq ?_; intro K hK) | (refine hK _ _ ?_; clear hK K) | refine d_blk ?_ | refine d_rt0 ?_ | refine d_sk0 ?_ | refine d_ex0 ?_ | (refine r_nwc ?_; intro b)) | (first | ((with_reducible refine d_cnd ?_); refine And.intro ?_ ?_) | with_reducible refine r_cnd ?_ ?_) <;> intro hc <;> try simp only [push_cast, Int.reduceEq, Int.reduceLT, Int.reduceLE, Int.reduceNe] at hc | with_reducible refine r_rq (by first | decide | omega) ?_ | ((with_reducible first | apply i_lds | apply i_ldsq | apply i_ld | apply i_ldq); exact rfl) | ((with_reducible first | apply i_ldn | apply i_ldnq); exact rfl; exact rfl; exact rfl) | (with_reducible first | refine r_ph0 ?_ | apply i_kp0) | ((with_reducible first | apply i_st | apply i_stl); (focus simp); exact rfl) | ((try with_reducible refine d_reg ?_); simp only [go_sem, Nat.reduceAdd, Nat.reduceEqDiff, Int.reduceToNat, Nat.reduceMul, Nat.reduceSub]) | clear hK K)
    (refine i_ldn (e := e_api_Rec) (x := ⟨2, 0, 0, 0, 0, [], [], [], 0, im, (none, 0, 0), 0, 0⟩) rfl rfl rfl ?_); repeat' ((fail_if_success with_reducible refine nph ?_); first | (with_reducible first | (refine d_seq ?_; intro K hK) | (refine hK _ _ ?_; clear hK K) | refine d_blk ?_ | refine d_rt0 ?_ | refine d_sk0 ?_ | refine d_ex0 ?_ | (refine r_nwc ?_; intro b)) | (first | ((with_reducible refine d_cnd ?_); refine And.intro ?_ ?_) | with_reducible refine r_cnd ?_ ?_) <;> intro hc <;> try simp only [push_cast, Int.reduceEq, Int.reduceLT, Int.reduceLE, Int.reduceNe] at hc | with_reducible refine r_rq (by first | decide | omega) ?_ | ((with_reducible first | apply i_lds | apply i_ldsq | apply i_ld | apply i_ldq); exact rfl) | ((with_reducible first | apply i_ldn | apply i_ldnq); exact rfl; exact rfl; exact rfl) | (with_reducible first | refine r_ph0 ?_ | apply i_kp0) | ((with_reducible first | apply i_st | apply i_stl); (focus simp); exact rfl) | ((try with_reducible refine d_reg ?_); simp only [go_sem, Nat.reduceAdd, Nat.reduceEqDiff, Int.reduceToNat, Nat.reduceMul, Nat.reduceSub]) | clear hK K)
    (refine i_ldn (e := e_api_Rec) (x := ⟨2, 0, 0, 0, 0, [], [], [], 0, im, (none, 0, 0), 0, 0⟩) rfl rfl rfl ?_); ((with_reducible first | apply i_ret0 | apply i_ret2 | apply i_ret3 | apply i_ret); exact rfl); rfl
  rw [if_neg (by omega)]
  by_cases h3 : kind = 3
  · subst h3
    rw [if_pos (.inl rfl)]
    repeat' ((fail_if_success with_reducible refine nph ?_); first | (with_reducible first | (refine d_seq ?_; intro K hK) | (refine hK _ _ ?_; clear hK K) | refine d_blk ?_ | refine d_rt0 ?_ | refine d_sk0 ?_ | refine d_ex0 ?_ | (refine r_nwc ?_; intro b)) | (first | ((with_reducible refine d_cnd ?_); refine And.intro ?_ ?_) | with_reducible refine r_cnd ?_ ?_) <;> intro hc <;> try simp only [push_cast, Int.reduceEq, Int.reduceLT, Int.reduceLE, Int.reduceNe] at hc | with_reducible refine r_rq (by first | decide | omega) ?_ | ((with_reducible first | apply i_lds | apply i_ldsq | apply i_ld | apply i_ldq); exact rfl) | ((with_reducible first | apply i_ldn | apply i_ldnq); exact rfl; exact rfl; exact rfl) | (with_reducible first | refine r_ph0 ?_ | apply i_kp0) | ((with_reducible first | apply i_st | apply i_stl); (focus simp); exact rfl) | ((try with_reducible refine d_reg ?_); simp only [go_sem, Nat.reduceAdd, Nat.reduceEqDiff, Int.reduceToNat, Nat.reduceMul, Nat.reduceSub]) | clear hK K)
    (refine r_ph [ar b1 36 (rcl ⟨3, txn, prev, page, act, key, old, nw, next, im, tb, epoch, node⟩)] SX.p ?_); repeat' ((fail_if_success with_reducible refine nph ?_); first | (with_reducible first | (refine d_seq ?_; intro K hK) | (refine hK _ _ ?_; clear hK K) | refine d_blk ?_ | refine d_rt0 ?_ | refine d_sk0 ?_ | refine d_ex0 ?_ | (refine r_nwc ?_; intro b)) | (first | ((with_reducible refine d_cnd ?_); refine And.intro ?_ ?_) | with_reducible refine r_cnd ?_ ?_) <;> intro hc <;> try simp only [push_cast, Int.reduceEq, Int.reduceLT, Int.reduceLE, Int.reduceNe] at hc | with_reducible refine r_rq (by first | decide | omega) ?_ | ((with_reducible first | apply i_lds | apply i_ldsq | apply i_ld | apply i_ldq); exact rfl) | ((with_reducible first | apply i_ldn | apply i_ldnq); exact rfl; exact rfl; exact rfl) | (with_reducible first | refine r_ph0 ?_ | apply i_kp0) | ((with_reducible first | apply i_st | apply i_stl); (focus simp); exact rfl) | ((try with_reducible refine d_reg ?_); simp only [go_sem, Nat.reduceAdd, Nat.reduceEqDiff, Int.reduceToNat, Nat.reduceMul, Nat.reduceSub]) | clear hK K)
    have T : Fq eN Tryz.prog 109 #[.pointer (some ⟨b, 0, none⟩), .int .i64 3] [ar b 36 [.int .i64 3, .int .i64 txn, .int .i64 prev, .int .i64 page, .int .i64 0, str key, str old, str nw, .int .i64 0, .slice none 0 0, .slice none 0 0, .int .i64 0, .int .i64 0]] [ar b 36 [.int .i64 3, .int .i64 txn, .int .i64 prev, .int .i64 page, .int .i64 0, str key, str [], str nw, .int .i64 0, .slice none 0 0, .slice none 0 0, .int .i64 0, .int .i64 0]] () := g109 b ⟨3, txn, prev, page, 0, key, old, nw, 0, (none, 0, 0), (none, 0, 0), 0, 0⟩ 3
    refine i_clq T ?_
    repeat' ((fail_if_success with_reducible refine nph ?_); first | (with_reducible first | (refine d_seq ?_; intro K hK) | (refine hK _ _ ?_; clear hK K) | refine d_blk ?_ | refine d_rt0 ?_ | refine d_sk0 ?_ | refine d_ex0 ?_ | (refine r_nwc ?_; intro b)) | (first | ((with_reducible refine d_cnd ?_); refine And.intro ?_ ?_) | with_reducible refine r_cnd ?_ ?_) <;> intro hc <;> try simp only [push_cast, Int.reduceEq, Int.reduceLT, Int.reduceLE, Int.reduceNe] at hc | with_reducible refine r_rq (by first | decide | omega) ?_ | ((with_reducible first | apply i_lds | apply i_ldsq | apply i_ld | apply i_ldq); exact rfl) | ((with_reducible first | apply i_ldn | apply i_ldnq); exact rfl; exact rfl; exact rfl) | (with_reducible first | refine r_ph0 ?_ | apply i_kp0) | ((with_reducible first | apply i_st | apply i_stl); (focus simp); exact rfl) | ((try with_reducible refine d_reg ?_); simp only [go_sem, Nat.reduceAdd, Nat.reduceEqDiff, Int.reduceToNat, Nat.reduceMul, Nat.reduceSub]) | clear hK K)
    (refine i_ldn (e := e_api_Rec) (x := ⟨3, txn, prev, page, 0, key, [], nw, 0, (none, 0, 0), (none, 0, 0), 0, 0⟩) rfl rfl rfl ?_); repeat' ((fail_if_success with_reducible refine nph ?_); first | (with_reducible first | (refine d_seq ?_; intro K hK) | (refine hK _ _ ?_; clear hK K) | refine d_blk ?_ | refine d_rt0 ?_ | refine d_sk0 ?_ | refine d_ex0 ?_ | (refine r_nwc ?_; intro b)) | (first | ((with_reducible refine d_cnd ?_); refine And.intro ?_ ?_) | with_reducible refine r_cnd ?_ ?_) <;> intro hc <;> try simp only [push_cast, Int.reduceEq, Int.reduceLT, Int.reduceLE, Int.reduceNe] at hc | with_reducible refine r_rq (by first | decide | omega) ?_ | ((with_reducible first | apply i_lds | apply i_ldsq | apply i_ld | apply i_ldq); exact rfl) | ((with_reducible first | apply i_ldn | apply i_ldnq); exact rfl; exact rfl; exact rfl) | (with_reducible first | refine r_ph0 ?_ | apply i_kp0) | ((with_reducible first | apply i_st | apply i_stl); (focus simp); exact rfl) | ((try with_reducible refine d_reg ?_); simp only [go_sem, Nat.reduceAdd, Nat.reduceEqDiff, Int.reduceToNat, Nat.reduceMul, Nat.reduceSub]) | clear hK K)
    (refine i_ldn (e := e_api_Rec) (x := ⟨3, txn, prev, page, 0, key, [], nw, 0, (none, 0, 0), (none, 0, 0), 0, 0⟩) rfl rfl rfl ?_); ((with_reducible first | apply i_ret0 | apply i_ret2 | apply i_ret3 | apply i_ret); exact rfl); rfl
  by_cases h4 : kind = 4
  · subst h4
    rw [if_pos (.inr (.inl rfl))]
    repeat' ((fail_if_success with_reducible refine nph ?_); first | (with_reducible first | (refine d_seq ?_; intro K hK) | (refine hK _ _ ?_; clear hK K) | refine d_blk ?_ | refine d_rt0 ?_ | refine d_sk0 ?_ | refine d_ex0 ?_ | (refine r_nwc ?_; intro b)) | (first | ((with_reducible refine d_cnd ?_); refine And.intro ?_ ?_) | with_reducible refine r_cnd ?_ ?_) <;> intro hc <;> try simp only [push_cast, Int.reduceEq, Int.reduceLT, Int.reduceLE, Int.reduceNe] at hc | with_reducible refine r_rq (by first | decide | omega) ?_ | ((with_reducible first | apply i_lds | apply i_ldsq | apply i_ld | apply i_ldq); exact rfl) | ((with_reducible first | apply i_ldn | apply i_ldnq); exact rfl; exact rfl; exact rfl) | (with_reducible first | refine r_ph0 ?_ | apply i_kp0) | ((with_reducible first | apply i_st | apply i_stl); (focus simp); exact rfl) | ((try with_reducible refine d_reg ?_); simp only [go_sem, Nat.reduceAdd, Nat.reduceEqDiff, Int.reduceToNat, Nat.reduceMul, Nat.reduceSub]) | clear hK K)
    (refine r_ph [ar b1 36 (rcl ⟨4, txn, prev, page, act, key, old, nw, next, im, tb, epoch, node⟩)] SX.p ?_); repeat' ((fail_if_success with_reducible refine nph ?_); first | (with_reducible first | (refine d_seq ?_; intro K hK) | (refine hK _ _ ?_; clear hK K) | refine d_blk ?_ | refine d_rt0 ?_ | refine d_sk0 ?_ | refine d_ex0 ?_ | (refine r_nwc ?_; intro b)) | (first | ((with_reducible refine d_cnd ?_); refine And.intro ?_ ?_) | with_reducible refine r_cnd ?_ ?_) <;> intro hc <;> try simp only [push_cast, Int.reduceEq, Int.reduceLT, Int.reduceLE, Int.reduceNe] at hc | with_reducible refine r_rq (by first | decide | omega) ?_ | ((with_reducible first | apply i_lds | apply i_ldsq | apply i_ld | apply i_ldq); exact rfl) | ((with_reducible first | apply i_ldn | apply i_ldnq); exact rfl; exact rfl; exact rfl) | (with_reducible first | refine r_ph0 ?_ | apply i_kp0) | ((with_reducible first | apply i_st | apply i_stl); (focus simp); exact rfl) | ((try with_reducible refine d_reg ?_); simp only [go_sem, Nat.reduceAdd, Nat.reduceEqDiff, Int.reduceToNat, Nat.reduceMul, Nat.reduceSub]) | clear hK K)
    have T : Fq eN Tryz.prog 109 #[.pointer (some ⟨b, 0, none⟩), .int .i64 4] [ar b 36 [.int .i64 4, .int .i64 txn, .int .i64 prev, .int .i64 page, .int .i64 0, str key, str old, str nw, .int .i64 0, .slice none 0 0, .slice none 0 0, .int .i64 0, .int .i64 0]] [ar b 36 [.int .i64 4, .int .i64 txn, .int .i64 prev, .int .i64 page, .int .i64 0, str key, str old, str [], .int .i64 0, .slice none 0 0, .slice none 0 0, .int .i64 0, .int .i64 0]] () := g109 b ⟨4, txn, prev, page, 0, key, old, nw, 0, (none, 0, 0), (none, 0, 0), 0, 0⟩ 4
    refine i_clq T ?_
    repeat' ((fail_if_success with_reducible refine nph ?_); first | (with_reducible first | (refine d_seq ?_; intro K hK) | (refine hK _ _ ?_; clear hK K) | refine d_blk ?_ | refine d_rt0 ?_ | refine d_sk0 ?_ | refine d_ex0 ?_ | (refine r_nwc ?_; intro b)) | (first | ((with_reducible refine d_cnd ?_); refine And.intro ?_ ?_) | with_reducible refine r_cnd ?_ ?_) <;> intro hc <;> try simp only [push_cast, Int.reduceEq, Int.reduceLT, Int.reduceLE, Int.reduceNe] at hc | with_reducible refine r_rq (by first | decide | omega) ?_ | ((with_reducible first | apply i_lds | apply i_ldsq | apply i_ld | apply i_ldq); exact rfl) | ((with_reducible first | apply i_ldn | apply i_ldnq); exact rfl; exact rfl; exact rfl) | (with_reducible first | refine r_ph0 ?_ | apply i_kp0) | ((with_reducible first | apply i_st | apply i_stl); (focus simp); exact rfl) | ((try with_reducible refine d_reg ?_); simp only [go_sem, Nat.reduceAdd, Nat.reduceEqDiff, Int.reduceToNat, Nat.reduceMul, Nat.reduceSub]) | clear hK K)
    (refine i_ldn (e := e_api_Rec) (x := ⟨4, txn, prev, page, 0, key, old, [], 0, (none, 0, 0), (none, 0, 0), 0, 0⟩) rfl rfl rfl ?_); repeat' ((fail_if_success with_reducible refine nph ?_); first | (with_reducible first | (refine d_seq ?_; intro K hK) | (refine hK _ _ ?_; clear hK K) | refine d_blk ?_ | refine d_rt0 ?_ | refine d_sk0 ?_ | refine d_ex0 ?_ | (refine r_nwc ?_; intro b)) | (first | ((with_reducible refine d_cnd ?_); refine And.intro ?_ ?_) | with_reducible refine r_cnd ?_ ?_) <;> intro hc <;> try simp only [push_cast, Int.reduceEq, Int.reduceLT, Int.reduceLE, Int.reduceNe] at hc | with_reducible refine r_rq (by first | decide | omega) ?_ | ((with_reducible first | apply i_lds | apply i_ldsq | apply i_ld | apply i_ldq); exact rfl) | ((with_reducible first | apply i_ldn | apply i_ldnq); exact rfl; exact rfl; exact rfl) | (with_reducible first | refine r_ph0 ?_ | apply i_kp0) | ((with_reducible first | apply i_st | apply i_stl); (focus simp); exact rfl) | ((try with_reducible refine d_reg ?_); simp only [go_sem, Nat.reduceAdd, Nat.reduceEqDiff, Int.reduceToNat, Nat.reduceMul, Nat.reduceSub]) | clear hK K)
    (refine i_ldn (e := e_api_Rec) (x := ⟨4, txn, prev, page, 0, key, old, [], 0, (none, 0, 0), (none, 0, 0), 0, 0⟩) rfl rfl rfl ?_); ((with_reducible first | apply i_ret0 | apply i_ret2 | apply i_ret3 | apply i_ret); exact rfl); rfl
  by_cases h5 : kind = 5
  · subst h5
    rw [if_pos (.inr (.inr rfl))]
    repeat' ((fail_if_success with_reducible refine nph ?_); first | (with_reducible first | (refine d_seq ?_; intro K hK) | (refine hK _ _ ?_; clear hK K) | refine d_blk ?_ | refine d_rt0 ?_ | refine d_sk0 ?_ | refine d_ex0 ?_ | (refine r_nwc ?_; intro b)) | (first | ((with_reducible refine d_cnd ?_); refine And.intro ?_ ?_) | with_reducible refine r_cnd ?_ ?_) <;> intro hc <;> try simp only [push_cast, Int.reduceEq, Int.reduceLT, Int.reduceLE, Int.reduceNe] at hc | with_reducible refine r_rq (by first | decide | omega) ?_ | ((with_reducible first | apply i_lds | apply i_ldsq | apply i_ld | apply i_ldq); exact rfl) | ((with_reducible first | apply i_ldn | apply i_ldnq); exact rfl; exact rfl; exact rfl) | (with_reducible first | refine r_ph0 ?_ | apply i_kp0) | ((with_reducible first | apply i_st | apply i_stl); (focus simp); exact rfl) | ((try with_reducible refine d_reg ?_); simp only [go_sem, Nat.reduceAdd, Nat.reduceEqDiff, Int.reduceToNat, Nat.reduceMul, Nat.reduceSub]) | clear hK K)
    (refine r_ph [ar b1 36 (rcl ⟨5, txn, prev, page, act, key, old, nw, next, im, tb, epoch, node⟩)] SX.p ?_); repeat' ((fail_if_success with_reducible refine nph ?_); first | (with_reducible first | (refine d_seq ?_; intro K hK) | (refine hK _ _ ?_; clear hK K) | refine d_blk ?_ | refine d_rt0 ?_ | refine d_sk0 ?_ | refine d_ex0 ?_ | (refine r_nwc ?_; intro b)) | (first | ((with_reducible refine d_cnd ?_); refine And.intro ?_ ?_) | with_reducible refine r_cnd ?_ ?_) <;> intro hc <;> try simp only [push_cast, Int.reduceEq, Int.reduceLT, Int.reduceLE, Int.reduceNe] at hc | with_reducible refine r_rq (by first | decide | omega) ?_ | ((with_reducible first | apply i_lds | apply i_ldsq | apply i_ld | apply i_ldq); exact rfl) | ((with_reducible first | apply i_ldn | apply i_ldnq); exact rfl; exact rfl; exact rfl) | (with_reducible first | refine r_ph0 ?_ | apply i_kp0) | ((with_reducible first | apply i_st | apply i_stl); (focus simp); exact rfl) | ((try with_reducible refine d_reg ?_); simp only [go_sem, Nat.reduceAdd, Nat.reduceEqDiff, Int.reduceToNat, Nat.reduceMul, Nat.reduceSub]) | clear hK K)
    have T : Fq eN Tryz.prog 109 #[.pointer (some ⟨b, 0, none⟩), .int .i64 5] [ar b 36 [.int .i64 5, .int .i64 txn, .int .i64 prev, .int .i64 page, .int .i64 0, str key, str old, str nw, .int .i64 0, .slice none 0 0, .slice none 0 0, .int .i64 0, .int .i64 0]] [ar b 36 [.int .i64 5, .int .i64 txn, .int .i64 prev, .int .i64 page, .int .i64 0, str key, str old, str nw, .int .i64 0, .slice none 0 0, .slice none 0 0, .int .i64 0, .int .i64 0]] () := g109 b ⟨5, txn, prev, page, 0, key, old, nw, 0, (none, 0, 0), (none, 0, 0), 0, 0⟩ 5
    refine i_clq T ?_
    repeat' ((fail_if_success with_reducible refine nph ?_); first | (with_reducible first | (refine d_seq ?_; intro K hK) | (refine hK _ _ ?_; clear hK K) | refine d_blk ?_ | refine d_rt0 ?_ | refine d_sk0 ?_ | refine d_ex0 ?_ | (refine r_nwc ?_; intro b)) | (first | ((with_reducible refine d_cnd ?_); refine And.intro ?_ ?_) | with_reducible refine r_cnd ?_ ?_) <;> intro hc <;> try simp only [push_cast, Int.reduceEq, Int.reduceLT, Int.reduceLE, Int.reduceNe] at hc | with_reducible refine r_rq (by first | decide | omega) ?_ | ((with_reducible first | apply i_lds | apply i_ldsq | apply i_ld | apply i_ldq); exact rfl) | ((with_reducible first | apply i_ldn | apply i_ldnq); exact rfl; exact rfl; exact rfl) | (with_reducible first | refine r_ph0 ?_ | apply i_kp0) | ((with_reducible first | apply i_st | apply i_stl); (focus simp); exact rfl) | ((try with_reducible refine d_reg ?_); simp only [go_sem, Nat.reduceAdd, Nat.reduceEqDiff, Int.reduceToNat, Nat.reduceMul, Nat.reduceSub]) | clear hK K)
    (refine i_ldn (e := e_api_Rec) (x := ⟨5, txn, prev, page, 0, key, old, nw, 0, (none, 0, 0), (none, 0, 0), 0, 0⟩) rfl rfl rfl ?_); repeat' ((fail_if_success with_reducible refine nph ?_); first | (with_reducible first | (refine d_seq ?_; intro K hK) | (refine hK _ _ ?_; clear hK K) | refine d_blk ?_ | refine d_rt0 ?_ | refine d_sk0 ?_ | refine d_ex0 ?_ | (refine r_nwc ?_; intro b)) | (first | ((with_reducible refine d_cnd ?_); refine And.intro ?_ ?_) | with_reducible refine r_cnd ?_ ?_) <;> intro hc <;> try simp only [push_cast, Int.reduceEq, Int.reduceLT, Int.reduceLE, Int.reduceNe] at hc | with_reducible refine r_rq (by first | decide | omega) ?_ | ((with_reducible first | apply i_lds | apply i_ldsq | apply i_ld | apply i_ldq); exact rfl) | ((with_reducible first | apply i_ldn | apply i_ldnq); exact rfl; exact rfl; exact rfl) | (with_reducible first | refine r_ph0 ?_ | apply i_kp0) | ((with_reducible first | apply i_st | apply i_stl); (focus simp); exact rfl) | ((try with_reducible refine d_reg ?_); simp only [go_sem, Nat.reduceAdd, Nat.reduceEqDiff, Int.reduceToNat, Nat.reduceMul, Nat.reduceSub]) | clear hK K)
    (refine i_ldn (e := e_api_Rec) (x := ⟨5, txn, prev, page, 0, key, old, nw, 0, (none, 0, 0), (none, 0, 0), 0, 0⟩) rfl rfl rfl ?_); ((with_reducible first | apply i_ret0 | apply i_ret2 | apply i_ret3 | apply i_ret); exact rfl); rfl
  rw [if_neg (by omega)]
  by_cases h6 : kind = 6
  · subst h6
    rw [if_pos rfl]
    repeat' ((fail_if_success with_reducible refine nph ?_); first | (with_reducible first | (refine d_seq ?_; intro K hK) | (refine hK _ _ ?_; clear hK K) | refine d_blk ?_ | refine d_rt0 ?_ | refine d_sk0 ?_ | refine d_ex0 ?_ | (refine r_nwc ?_; intro b)) | (first | ((with_reducible refine d_cnd ?_); refine And.intro ?_ ?_) | with_reducible refine r_cnd ?_ ?_) <;> intro hc <;> try simp only [push_cast, Int.reduceEq, Int.reduceLT, Int.reduceLE, Int.reduceNe] at hc | with_reducible refine r_rq (by first | decide | omega) ?_ | ((with_reducible first | apply i_lds | apply i_ldsq | apply i_ld | apply i_ldq); exact rfl) | ((with_reducible first | apply i_ldn | apply i_ldnq); exact rfl; exact rfl; exact rfl) | (with_reducible first | refine r_ph0 ?_ | apply i_kp0) | ((with_reducible first | apply i_st | apply i_stl); (focus simp); exact rfl) | ((try with_reducible refine d_reg ?_); simp only [go_sem, Nat.reduceAdd, Nat.reduceEqDiff, Int.reduceToNat, Nat.reduceMul, Nat.reduceSub]) | clear hK K)
    (refine r_ph [ar b1 36 (rcl ⟨6, txn, prev, page, act, key, old, nw, next, im, tb, epoch, node⟩)] SX.p ?_); repeat' ((fail_if_success with_reducible refine nph ?_); first | (with_reducible first | (refine d_seq ?_; intro K hK) | (refine hK _ _ ?_; clear hK K) | refine d_blk ?_ | refine d_rt0 ?_ | refine d_sk0 ?_ | refine d_ex0 ?_ | (refine r_nwc ?_; intro b)) | (first | ((with_reducible refine d_cnd ?_); refine And.intro ?_ ?_) | with_reducible refine r_cnd ?_ ?_) <;> intro hc <;> try simp only [push_cast, Int.reduceEq, Int.reduceLT, Int.reduceLE, Int.reduceNe] at hc | with_reducible refine r_rq (by first | decide | omega) ?_ | ((with_reducible first | apply i_lds | apply i_ldsq | apply i_ld | apply i_ldq); exact rfl) | ((with_reducible first | apply i_ldn | apply i_ldnq); exact rfl; exact rfl; exact rfl) | (with_reducible first | refine r_ph0 ?_ | apply i_kp0) | ((with_reducible first | apply i_st | apply i_stl); (focus simp); exact rfl) | ((try with_reducible refine d_reg ?_); simp only [go_sem, Nat.reduceAdd, Nat.reduceEqDiff, Int.reduceToNat, Nat.reduceMul, Nat.reduceSub]) | clear hK K)
    have T := g109 b ⟨6, txn, prev, page, act, key, old, nw, next, (none, 0, 0), (none, 0, 0), 0, 0⟩ act
    rw [show (⟨(rz 6).Kind, txn, prev, page, act, key, old, nw, next, (rz 6).Images, (rz 6).Table, (rz 6).Epoch, (rz 6).Node⟩ : api_Rec) = ⟨6, txn, prev, page, act, key, old, nw, next, (none, 0, 0), (none, 0, 0), 0, 0⟩ from rfl] at *
    generalize tdr ⟨6, txn, prev, page, act, key, old, nw, next, (none, 0, 0), (none, 0, 0), 0, 0⟩ act = y at *
    obtain ⟨y1, y2, y3, y4, y5, y6, y7, y8, y9, y10, y11, y12, y13⟩ := y
    refine i_clq T ?_
    repeat' ((fail_if_success with_reducible refine nph ?_); first | (with_reducible first | (refine d_seq ?_; intro K hK) | (refine hK _ _ ?_; clear hK K) | refine d_blk ?_ | refine d_rt0 ?_ | refine d_sk0 ?_ | refine d_ex0 ?_ | (refine r_nwc ?_; intro b)) | (first | ((with_reducible refine d_cnd ?_); refine And.intro ?_ ?_) | with_reducible refine r_cnd ?_ ?_) <;> intro hc <;> try simp only [push_cast, Int.reduceEq, Int.reduceLT, Int.reduceLE, Int.reduceNe] at hc | with_reducible refine r_rq (by first | decide | omega) ?_ | ((with_reducible first | apply i_lds | apply i_ldsq | apply i_ld | apply i_ldq); exact rfl) | ((with_reducible first | apply i_ldn | apply i_ldnq); exact rfl; exact rfl; exact rfl) | (with_reducible first | refine r_ph0 ?_ | apply i_kp0) | ((with_reducible first | apply i_st | apply i_stl); (focus simp); exact rfl) | ((try with_reducible refine d_reg ?_); simp only [go_sem, Nat.reduceAdd, Nat.reduceEqDiff, Int.reduceToNat, Nat.reduceMul, Nat.reduceSub]) | clear hK K)
    with_reducible apply i_ldn (e := e_api_Rec) (n := 13) (x := ⟨y1, y2, y3, y4, y5, y6, y7, y8, y9, y10, y11, y12, y13⟩)
    · exact rfl
    · exact rfl
    · exact rfl
    (with_reducible first | apply i_ret0 | apply i_ret2 | apply i_ret3 | apply i_ret); exact rfl
    rfl
  rw [if_neg h6]
  by_cases h7 : kind = 7
  · subst h7
    rw [if_pos (.inl rfl)]
    repeat' ((fail_if_success with_reducible refine nph ?_); first | (with_reducible first | (refine d_seq ?_; intro K hK) | (refine hK _ _ ?_; clear hK K) | refine d_blk ?_ | refine d_rt0 ?_ | refine d_sk0 ?_ | refine d_ex0 ?_ | (refine r_nwc ?_; intro b)) | (first | ((with_reducible refine d_cnd ?_); refine And.intro ?_ ?_) | with_reducible refine r_cnd ?_ ?_) <;> intro hc <;> try simp only [push_cast, Int.reduceEq, Int.reduceLT, Int.reduceLE, Int.reduceNe] at hc | with_reducible refine r_rq (by first | decide | omega) ?_ | ((with_reducible first | apply i_lds | apply i_ldsq | apply i_ld | apply i_ldq); exact rfl) | ((with_reducible first | apply i_ldn | apply i_ldnq); exact rfl; exact rfl; exact rfl) | (with_reducible first | refine r_ph0 ?_ | apply i_kp0) | ((with_reducible first | apply i_st | apply i_stl); (focus simp); exact rfl) | ((try with_reducible refine d_reg ?_); simp only [go_sem, Nat.reduceAdd, Nat.reduceEqDiff, Int.reduceToNat, Nat.reduceMul, Nat.reduceSub]) | clear hK K)
    (refine r_ph [ar b1 36 (rcl ⟨7, txn, prev, page, act, key, old, nw, next, im, tb, epoch, node⟩)] SX.p ?_); repeat' ((fail_if_success with_reducible refine nph ?_); first | (with_reducible first | (refine d_seq ?_; intro K hK) | (refine hK _ _ ?_; clear hK K) | refine d_blk ?_ | refine d_rt0 ?_ | refine d_sk0 ?_ | refine d_ex0 ?_ | (refine r_nwc ?_; intro b)) | (first | ((with_reducible refine d_cnd ?_); refine And.intro ?_ ?_) | with_reducible refine r_cnd ?_ ?_) <;> intro hc <;> try simp only [push_cast, Int.reduceEq, Int.reduceLT, Int.reduceLE, Int.reduceNe] at hc | with_reducible refine r_rq (by first | decide | omega) ?_ | ((with_reducible first | apply i_lds | apply i_ldsq | apply i_ld | apply i_ldq); exact rfl) | ((with_reducible first | apply i_ldn | apply i_ldnq); exact rfl; exact rfl; exact rfl) | (with_reducible first | refine r_ph0 ?_ | apply i_kp0) | ((with_reducible first | apply i_st | apply i_stl); (focus simp); exact rfl) | ((try with_reducible refine d_reg ?_); simp only [go_sem, Nat.reduceAdd, Nat.reduceEqDiff, Int.reduceToNat, Nat.reduceMul, Nat.reduceSub]) | clear hK K)
    (refine i_ldn (e := e_api_Rec) (x := ⟨7, txn, prev, 0, 0, [], [], [], 0, (none, 0, 0), (none, 0, 0), 0, 0⟩) rfl rfl rfl ?_); repeat' ((fail_if_success with_reducible refine nph ?_); first | (with_reducible first | (refine d_seq ?_; intro K hK) | (refine hK _ _ ?_; clear hK K) | refine d_blk ?_ | refine d_rt0 ?_ | refine d_sk0 ?_ | refine d_ex0 ?_ | (refine r_nwc ?_; intro b)) | (first | ((with_reducible refine d_cnd ?_); refine And.intro ?_ ?_) | with_reducible refine r_cnd ?_ ?_) <;> intro hc <;> try simp only [push_cast, Int.reduceEq, Int.reduceLT, Int.reduceLE, Int.reduceNe] at hc | with_reducible refine r_rq (by first | decide | omega) ?_ | ((with_reducible first | apply i_lds | apply i_ldsq | apply i_ld | apply i_ldq); exact rfl) | ((with_reducible first | apply i_ldn | apply i_ldnq); exact rfl; exact rfl; exact rfl) | (with_reducible first | refine r_ph0 ?_ | apply i_kp0) | ((with_reducible first | apply i_st | apply i_stl); (focus simp); exact rfl) | ((try with_reducible refine d_reg ?_); simp only [go_sem, Nat.reduceAdd, Nat.reduceEqDiff, Int.reduceToNat, Nat.reduceMul, Nat.reduceSub]) | clear hK K)
    (refine i_ldn (e := e_api_Rec) (x := ⟨7, txn, prev, 0, 0, [], [], [], 0, (none, 0, 0), (none, 0, 0), 0, 0⟩) rfl rfl rfl ?_); ((with_reducible first | apply i_ret0 | apply i_ret2 | apply i_ret3 | apply i_ret); exact rfl); rfl
  by_cases h8 : kind = 8
  · subst h8
    rw [if_pos (.inr rfl)]
    repeat' ((fail_if_success with_reducible refine nph ?_); first | (with_reducible first | (refine d_seq ?_; intro K hK) | (refine hK _ _ ?_; clear hK K) | refine d_blk ?_ | refine d_rt0 ?_ | refine d_sk0 ?_ | refine d_ex0 ?_ | (refine r_nwc ?_; intro b)) | (first | ((with_reducible refine d_cnd ?_); refine And.intro ?_ ?_) | with_reducible refine r_cnd ?_ ?_) <;> intro hc <;> try simp only [push_cast, Int.reduceEq, Int.reduceLT, Int.reduceLE, Int.reduceNe] at hc | with_reducible refine r_rq (by first | decide | omega) ?_ | ((with_reducible first | apply i_lds | apply i_ldsq | apply i_ld | apply i_ldq); exact rfl) | ((with_reducible first | apply i_ldn | apply i_ldnq); exact rfl; exact rfl; exact rfl) | (with_reducible first | refine r_ph0 ?_ | apply i_kp0) | ((with_reducible first | apply i_st | apply i_stl); (focus simp); exact rfl) | ((try with_reducible refine d_reg ?_); simp only [go_sem, Nat.reduceAdd, Nat.reduceEqDiff, Int.reduceToNat, Nat.reduceMul, Nat.reduceSub]) | clear hK K)
    (refine r_ph [ar b1 36 (rcl ⟨8, txn, prev, page, act, key, old, nw, next, im, tb, epoch, node⟩)] SX.p ?_); repeat' ((fail_if_success with_reducible refine nph ?_); first | (with_reducible first | (refine d_seq ?_; intro K hK) | (refine hK _ _ ?_; clear hK K) | refine d_blk ?_ | refine d_rt0 ?_ | refine d_sk0 ?_ | refine d_ex0 ?_ | (refine r_nwc ?_; intro b)) | (first | ((with_reducible refine d_cnd ?_); refine And.intro ?_ ?_) | with_reducible refine r_cnd ?_ ?_) <;> intro hc <;> try simp only [push_cast, Int.reduceEq, Int.reduceLT, Int.reduceLE, Int.reduceNe] at hc | with_reducible refine r_rq (by first | decide | omega) ?_ | ((with_reducible first | apply i_lds | apply i_ldsq | apply i_ld | apply i_ldq); exact rfl) | ((with_reducible first | apply i_ldn | apply i_ldnq); exact rfl; exact rfl; exact rfl) | (with_reducible first | refine r_ph0 ?_ | apply i_kp0) | ((with_reducible first | apply i_st | apply i_stl); (focus simp); exact rfl) | ((try with_reducible refine d_reg ?_); simp only [go_sem, Nat.reduceAdd, Nat.reduceEqDiff, Int.reduceToNat, Nat.reduceMul, Nat.reduceSub]) | clear hK K)
    (refine i_ldn (e := e_api_Rec) (x := ⟨8, txn, prev, 0, 0, [], [], [], 0, (none, 0, 0), (none, 0, 0), 0, 0⟩) rfl rfl rfl ?_); repeat' ((fail_if_success with_reducible refine nph ?_); first | (with_reducible first | (refine d_seq ?_; intro K hK) | (refine hK _ _ ?_; clear hK K) | refine d_blk ?_ | refine d_rt0 ?_ | refine d_sk0 ?_ | refine d_ex0 ?_ | (refine r_nwc ?_; intro b)) | (first | ((with_reducible refine d_cnd ?_); refine And.intro ?_ ?_) | with_reducible refine r_cnd ?_ ?_) <;> intro hc <;> try simp only [push_cast, Int.reduceEq, Int.reduceLT, Int.reduceLE, Int.reduceNe] at hc | with_reducible refine r_rq (by first | decide | omega) ?_ | ((with_reducible first | apply i_lds | apply i_ldsq | apply i_ld | apply i_ldq); exact rfl) | ((with_reducible first | apply i_ldn | apply i_ldnq); exact rfl; exact rfl; exact rfl) | (with_reducible first | refine r_ph0 ?_ | apply i_kp0) | ((with_reducible first | apply i_st | apply i_stl); (focus simp); exact rfl) | ((try with_reducible refine d_reg ?_); simp only [go_sem, Nat.reduceAdd, Nat.reduceEqDiff, Int.reduceToNat, Nat.reduceMul, Nat.reduceSub]) | clear hK K)
    (refine i_ldn (e := e_api_Rec) (x := ⟨8, txn, prev, 0, 0, [], [], [], 0, (none, 0, 0), (none, 0, 0), 0, 0⟩) rfl rfl rfl ?_); ((with_reducible first | apply i_ret0 | apply i_ret2 | apply i_ret3 | apply i_ret); exact rfl); rfl
  rw [if_neg (by omega)]
  by_cases h9 : kind = 9
  · subst h9
    rw [if_pos rfl]
    repeat' ((fail_if_success with_reducible refine nph ?_); first | (with_reducible first | (refine d_seq ?_; intro K hK) | (refine hK _ _ ?_; clear hK K) | refine d_blk ?_ | refine d_rt0 ?_ | refine d_sk0 ?_ | refine d_ex0 ?_ | (refine r_nwc ?_; intro b)) | (first | ((with_reducible refine d_cnd ?_); refine And.intro ?_ ?_) | with_reducible refine r_cnd ?_ ?_) <;> intro hc <;> try simp only [push_cast, Int.reduceEq, Int.reduceLT, Int.reduceLE, Int.reduceNe] at hc | with_reducible refine r_rq (by first | decide | omega) ?_ | ((with_reducible first | apply i_lds | apply i_ldsq | apply i_ld | apply i_ldq); exact rfl) | ((with_reducible first | apply i_ldn | apply i_ldnq); exact rfl; exact rfl; exact rfl) | (with_reducible first | refine r_ph0 ?_ | apply i_kp0) | ((with_reducible first | apply i_st | apply i_stl); (focus simp); exact rfl) | ((try with_reducible refine d_reg ?_); simp only [go_sem, Nat.reduceAdd, Nat.reduceEqDiff, Int.reduceToNat, Nat.reduceMul, Nat.reduceSub]) | clear hK K)
    (refine i_ldn (e := e_api_Rec) (x := ⟨9, 0, 0, 0, 0, [], [], [], 0, (none, 0, 0), tb, 0, 0⟩) rfl rfl rfl ?_); repeat' ((fail_if_success with_reducible refine nph ?_); first | (with_reducible first | (refine d_seq ?_; intro K hK) | (refine hK _ _ ?_; clear hK K) | refine d_blk ?_ | refine d_rt0 ?_ | refine d_sk0 ?_ | refine d_ex0 ?_ | (refine r_nwc ?_; intro b)) | (first | ((with_reducible refine d_cnd ?_); refine And.intro ?_ ?_) | with_reducible refine r_cnd ?_ ?_) <;> intro hc <;> try simp only [push_cast, Int.reduceEq, Int.reduceLT, Int.reduceLE, Int.reduceNe] at hc | with_reducible refine r_rq (by first | decide | omega) ?_ | ((with_reducible first | apply i_lds | apply i_ldsq | apply i_ld | apply i_ldq); exact rfl) | ((with_reducible first | apply i_ldn | apply i_ldnq); exact rfl; exact rfl; exact rfl) | (with_reducible first | refine r_ph0 ?_ | apply i_kp0) | ((with_reducible first | apply i_st | apply i_stl); (focus simp); exact rfl) | ((try with_reducible refine d_reg ?_); simp only [go_sem, Nat.reduceAdd, Nat.reduceEqDiff, Int.reduceToNat, Nat.reduceMul, Nat.reduceSub]) | clear hK K)
    (refine i_ldn (e := e_api_Rec) (x := ⟨9, 0, 0, 0, 0, [], [], [], 0, (none, 0, 0), tb, 0, 0⟩) rfl rfl rfl ?_); ((with_reducible first | apply i_ret0 | apply i_ret2 | apply i_ret3 | apply i_ret); exact rfl); rfl
  rw [if_neg h9]
  by_cases h10 : kind = 10
  · subst h10
    rw [if_pos rfl]
    repeat' ((fail_if_success with_reducible refine nph ?_); first | (with_reducible first | (refine d_seq ?_; intro K hK) | (refine hK _ _ ?_; clear hK K) | refine d_blk ?_ | refine d_rt0 ?_ | refine d_sk0 ?_ | refine d_ex0 ?_ | (refine r_nwc ?_; intro b)) | (first | ((with_reducible refine d_cnd ?_); refine And.intro ?_ ?_) | with_reducible refine r_cnd ?_ ?_) <;> intro hc <;> try simp only [push_cast, Int.reduceEq, Int.reduceLT, Int.reduceLE, Int.reduceNe] at hc | with_reducible refine r_rq (by first | decide | omega) ?_ | ((with_reducible first | apply i_lds | apply i_ldsq | apply i_ld | apply i_ldq); exact rfl) | ((with_reducible first | apply i_ldn | apply i_ldnq); exact rfl; exact rfl; exact rfl) | (with_reducible first | refine r_ph0 ?_ | apply i_kp0) | ((with_reducible first | apply i_st | apply i_stl); (focus simp); exact rfl) | ((try with_reducible refine d_reg ?_); simp only [go_sem, Nat.reduceAdd, Nat.reduceEqDiff, Int.reduceToNat, Nat.reduceMul, Nat.reduceSub]) | clear hK K)
    (refine r_ph [ar b1 36 (rcl ⟨10, txn, prev, page, act, key, old, nw, next, im, tb, epoch, node⟩)] SX.p ?_); repeat' ((fail_if_success with_reducible refine nph ?_); first | (with_reducible first | (refine d_seq ?_; intro K hK) | (refine hK _ _ ?_; clear hK K) | refine d_blk ?_ | refine d_rt0 ?_ | refine d_sk0 ?_ | refine d_ex0 ?_ | (refine r_nwc ?_; intro b)) | (first | ((with_reducible refine d_cnd ?_); refine And.intro ?_ ?_) | with_reducible refine r_cnd ?_ ?_) <;> intro hc <;> try simp only [push_cast, Int.reduceEq, Int.reduceLT, Int.reduceLE, Int.reduceNe] at hc | with_reducible refine r_rq (by first | decide | omega) ?_ | ((with_reducible first | apply i_lds | apply i_ldsq | apply i_ld | apply i_ldq); exact rfl) | ((with_reducible first | apply i_ldn | apply i_ldnq); exact rfl; exact rfl; exact rfl) | (with_reducible first | refine r_ph0 ?_ | apply i_kp0) | ((with_reducible first | apply i_st | apply i_stl); (focus simp); exact rfl) | ((try with_reducible refine d_reg ?_); simp only [go_sem, Nat.reduceAdd, Nat.reduceEqDiff, Int.reduceToNat, Nat.reduceMul, Nat.reduceSub]) | clear hK K)
    (refine i_ldn (e := e_api_Rec) (x := ⟨10, 0, 0, 0, 0, [], [], [], 0, (none, 0, 0), (none, 0, 0), epoch, node⟩) rfl rfl rfl ?_); repeat' ((fail_if_success with_reducible refine nph ?_); first | (with_reducible first | (refine d_seq ?_; intro K hK) | (refine hK _ _ ?_; clear hK K) | refine d_blk ?_ | refine d_rt0 ?_ | refine d_sk0 ?_ | refine d_ex0 ?_ | (refine r_nwc ?_; intro b)) | (first | ((with_reducible refine d_cnd ?_); refine And.intro ?_ ?_) | with_reducible refine r_cnd ?_ ?_) <;> intro hc <;> try simp only [push_cast, Int.reduceEq, Int.reduceLT, Int.reduceLE, Int.reduceNe] at hc | with_reducible refine r_rq (by first | decide | omega) ?_ | ((with_reducible first | apply i_lds | apply i_ldsq | apply i_ld | apply i_ldq); exact rfl) | ((with_reducible first | apply i_ldn | apply i_ldnq); exact rfl; exact rfl; exact rfl) | (with_reducible first | refine r_ph0 ?_ | apply i_kp0) | ((with_reducible first | apply i_st | apply i_stl); (focus simp); exact rfl) | ((try with_reducible refine d_reg ?_); simp only [go_sem, Nat.reduceAdd, Nat.reduceEqDiff, Int.reduceToNat, Nat.reduceMul, Nat.reduceSub]) | clear hK K)
    (refine i_ldn (e := e_api_Rec) (x := ⟨10, 0, 0, 0, 0, [], [], [], 0, (none, 0, 0), (none, 0, 0), epoch, node⟩) rfl rfl rfl ?_); ((with_reducible first | apply i_ret0 | apply i_ret2 | apply i_ret3 | apply i_ret); exact rfl); rfl
  rw [if_neg h10]
  repeat' ((fail_if_success with_reducible refine nph ?_); first | (with_reducible first | (refine d_seq ?_; intro K hK) | (refine hK _ _ ?_; clear hK K) | refine d_blk ?_ | refine d_rt0 ?_ | refine d_sk0 ?_ | refine d_ex0 ?_ | (refine r_nwc ?_; intro b)) | (first | ((with_reducible refine d_cnd ?_); refine And.intro ?_ ?_) | with_reducible refine r_cnd ?_ ?_) <;> intro hc <;> try simp only [push_cast, Int.reduceEq, Int.reduceLT, Int.reduceLE, Int.reduceNe] at hc | with_reducible refine r_rq (by first | decide | omega) ?_ | ((with_reducible first | apply i_lds | apply i_ldsq | apply i_ld | apply i_ldq); exact rfl) | ((with_reducible first | apply i_ldn | apply i_ldnq); exact rfl; exact rfl; exact rfl) | (with_reducible first | refine r_ph0 ?_ | apply i_kp0) | ((with_reducible first | apply i_st | apply i_stl); (focus simp); exact rfl) | ((try with_reducible refine d_reg ?_); simp only [go_sem, Nat.reduceAdd, Nat.reduceEqDiff, Int.reduceToNat, Nat.reduceMul, Nat.reduceSub]) | clear hK K)
  all_goals try (first | contradiction | (simp only [ reduceCtorEq] at *; done) | (exfalso; omega))
  (refine i_ldn (e := e_api_Rec) (x := ⟨kind, 0, 0, 0, 0, [], [], [], 0, (none, 0, 0), (none, 0, 0), 0, 0⟩) rfl rfl rfl ?_); repeat' ((fail_if_success with_reducible refine nph ?_); first | (with_reducible first | (refine d_seq ?_; intro K hK) | (refine hK _ _ ?_; clear hK K) | refine d_blk ?_ | refine d_rt0 ?_ | refine d_sk0 ?_ | refine d_ex0 ?_ | (refine r_nwc ?_; intro b)) | (first | ((with_reducible refine d_cnd ?_); refine And.intro ?_ ?_) | with_reducible refine r_cnd ?_ ?_) <;> intro hc <;> try simp only [push_cast, Int.reduceEq, Int.reduceLT, Int.reduceLE, Int.reduceNe] at hc | with_reducible refine r_rq (by first | decide | omega) ?_ | ((with_reducible first | apply i_lds | apply i_ldsq | apply i_ld | apply i_ldq); exact rfl) | ((with_reducible first | apply i_ldn | apply i_ldnq); exact rfl; exact rfl; exact rfl) | (with_reducible first | refine r_ph0 ?_ | apply i_kp0) | ((with_reducible first | apply i_st | apply i_stl); (focus simp); exact rfl) | ((try with_reducible refine d_reg ?_); simp only [go_sem, Nat.reduceAdd, Nat.reduceEqDiff, Int.reduceToNat, Nat.reduceMul, Nat.reduceSub]) | clear hK K)
  (refine i_ldn (e := e_api_Rec) (x := ⟨kind, 0, 0, 0, 0, [], [], [], 0, (none, 0, 0), (none, 0, 0), 0, 0⟩) rfl rfl rfl ?_); ((with_reducible first | apply i_ret0 | apply i_ret2 | apply i_ret3 | apply i_ret); exact rfl); rfl
end Go.Sp
/- Records: a record's bytes, a frame. -/
namespace Go.Sp
open Go Go.Proofs
set_option linter.unusedSimpArgs false
set_option linter.unusedVariables false
set_option maxRecDepth 10000
def lnkc (x : Wt) (c : Rc) : Wt := layN (layN x c.txn 6) c.prev 6
def chgc0 (x : Wt) (c : Rc) (act : Int) : Wt := if act = 3 then layT (layN x c.page 2) c.key else layT (layT (layN x c.page 2) c.key) c.old
def chgc (x : Wt) (c : Rc) (act : Int) : Wt := if act = 4 then chgc0 x c act else layT (chgc0 x c act) c.nw
def tbg (x : Wt) (l : List api_Active) : Wt := l.foldl (fun x a => layN (layN x a.Txn 6) a.Last 6) x
def bfin (x : Wt) (e : Int) : Wt := if (if e = 0 then x.2 else e) = 0 then (if 4096 < x.1.length then ([], 3) else (x.1, 0)) else ([], if e = 0 then x.2 else e)
def Rc.body (c : Rc) : Wt :=
  if c.kind = 1 then (if c.imgs.length = 1 then bfin (ims (layN ([], 0) c.kind 1) c.imgs).1 (ims (layN ([], 0) c.kind 1) c.imgs).2 else ([], 4))
  else if c.kind = 2 then bfin (ims (layN ([], 0) c.kind 1) c.imgs).1 (ims (layN ([], 0) c.kind 1) c.imgs).2
  else if c.kind = 6 then (if c.act < 3 ∨ 5 < c.act then ([], 4) else bfin (chgc (layN (layN (lnkc (layN ([], 0) c.kind 1) c) c.next 6) c.act 1) c c.act) (cutP c.key c.old c.nw))
  else if c.kind = 3 ∨ c.kind = 4 ∨ c.kind = 5 then bfin (chgc (lnkc (layN ([], 0) c.kind 1) c) c c.kind) (cutP c.key c.old c.nw)
  else if c.kind = 7 ∨ c.kind = 8 then bfin (lnkc (layN ([], 0) c.kind 1) c) 0
  else if c.kind = 9 then bfin (tbg (layN (layN ([], 0) c.kind 1) (c.tbl.length : Int) 1) c.tbl) 0
  else if c.kind = 10 then bfin (layN (layN (layN ([], 0) c.kind 1) c.epoch 4) c.node 1) 0
  else ([], 1)
set_option maxHeartbeats 4000000 in
theorem g71 (A : HP) (r : api_Rec) (c : Rc) (h : RcAt A r c) : Fp (eT2 eS eI) Tryz.prog 71 #[v_api_Rec r] [A] c.body := fun L => by
  obtain ⟨e, hi, ht, li, lt⟩ := h
  obtain ⟨kind, txn, prev, page, act, key, old, nw, next, imgs, tbl, epoch, node⟩ := c
  obtain ⟨kind', txn', prev', page', act', key', old', nw', next', im, tb, epoch', node'⟩ := r
  simp only [Rc.of, Rc.mk.injEq] at e
  obtain ⟨rfl, rfl, rfl, rfl, rfl, rfl, rfl, rfl, rfl, _, _, rfl, rfl⟩ := e
  dsimp only at hi ht li lt
  have hin := hi.len2 cImg_len
  have htn := ht.len2 cAct_len
  obtain ⟨ip, iN, ic⟩ := im
  obtain ⟨tp, tN, tc⟩ := tb
  dsimp only at hin htn
  subst hin htn
  generalize hB : Rc.body _ = B
  unfold Rc.body at hB
  dsimp only at hB
  obtain ⟨rr, hrr⟩ : ∃ rr : api_Rec, rr = ⟨kind, txn, prev, page, act, key, old, nw, next, (ip, imgs.length, ic), (tp, tbl.length, tc), epoch, node⟩ := ⟨_, rfl⟩
  refine c71_fn rfl rfl ?_
  have K1 := layN_len ([], 0) kind 1
  dsimp only [List.length_nil] at K1
  refine d_seq ?_
  intro K0 hK0
  refine d_reg ?_
  simp only [go_sem, Nat.reduceAdd, Nat.reduceEqDiff, Int.reduceToNat, Nat.reduceMul, Nat.reduceSub]
  refine r_nwc ?_
  intro b1
  refine hK0 _ _ ?_
  clear hK0 K0
  refine d_seq ?_
  intro K0 hK0
  refine d_reg ?_
  simp only [go_sem, Nat.reduceAdd, Nat.reduceEqDiff, Int.reduceToNat, Nat.reduceMul, Nat.reduceSub]
  refine r_nwc ?_
  intro wb
  refine hK0 _ _ ?_
  clear hK0 K0
  refine d_seq ?_
  intro K0 hK0
  refine d_reg ?_
  simp only [go_sem, Nat.reduceAdd, Nat.reduceEqDiff, Int.reduceToNat, Nat.reduceMul, Nat.reduceSub]
  refine i_ld (e := eI) rfl ?_
  refine i_clq (gN _ ([], 0) kind 1 (by decide) (by decide) (by decide)) ?_
  refine hK0 _ _ ?_
  clear hK0 K0
  generalize layN ([], 0) kind 1 = x0 at *
  refine d_seq ?_
  intro K0 hK0
  refine d_reg ?_
  simp only [go_sem, Nat.reduceAdd, Nat.reduceEqDiff, Int.reduceToNat, Nat.reduceMul, Nat.reduceSub]
  refine hK0 _ _ ?_
  clear hK0 K0
  refine d_seq ?_
  intro K0 hK0
  have fin : ∀ (x : Wt) (e : Int) (tl : Env), bfin x e = B → E (wr wb x :: ar b1 36 [.int .i64 kind, .int .i64 txn, .int .i64 prev, .int .i64 page, .int .i64 act, str key, str old, str nw, .int .i64 next, .slice ip imgs.length ic, .slice tp tbl.length tc, .int .i64 epoch, .int .i64 node] :: A :: L) (K0 ((4, .pointer (some ⟨wb, 0, none⟩)) :: (5, .int .i64 e) :: tl)) := by
    intro x e tl hx
    subst hx
    refine hK0 _ _ ?_
    clear hK0 K0
    unfold bfin
    obtain ⟨t, f⟩ := x
    dsimp only
    by_cases he : e = 0
    · subst he
      rw [if_pos rfl]
      by_cases hf : f = 0
      · subst hf
        rw [if_pos rfl]
        by_cases hl : 4096 < t.length
        · rw [if_pos hl]
          repeat' ((fail_if_success with_reducible refine nph ?_); first | (with_reducible first | (refine d_seq ?_; intro K hK) | (refine hK _ _ ?_; clear hK K) | refine d_blk ?_ | refine d_rt0 ?_ | refine d_sk0 ?_ | refine d_ex0 ?_ | (refine r_nwc ?_; intro b)) | (first | ((with_reducible refine d_cnd ?_); refine And.intro ?_ ?_) | with_reducible refine r_cnd ?_ ?_) <;> intro hc <;> try simp only [push_cast, Int.reduceEq, Int.reduceLT, Int.reduceLE, Int.reduceNe] at hc | with_reducible refine r_rq (by first | decide | omega) ?_ | ((with_reducible first | apply i_lds | apply i_ldsq | apply i_ld | apply i_ldq); exact rfl) | ((with_reducible first | apply i_ldn | apply i_ldnq); exact rfl; exact rfl; exact rfl) | (with_reducible first | refine r_ph0 ?_ | apply i_kp0) | ((with_reducible first | apply i_st | apply i_stl); (focus simp); exact rfl) | ((try with_reducible refine d_reg ?_); simp only [go_sem, Nat.reduceAdd, Nat.reduceEqDiff, Int.reduceToNat, Nat.reduceMul, Nat.reduceSub]) | clear hK K)
          refine i_clp (f96 wb (t, 0)) ?_
          repeat' ((fail_if_success with_reducible refine nph ?_); first | (with_reducible first | (refine d_seq ?_; intro K hK) | (refine hK _ _ ?_; clear hK K) | refine d_blk ?_ | refine d_rt0 ?_ | refine d_sk0 ?_ | refine d_ex0 ?_ | (refine r_nwc ?_; intro b)) | (first | ((with_reducible refine d_cnd ?_); refine And.intro ?_ ?_) | with_reducible refine r_cnd ?_ ?_) <;> intro hc <;> try simp only [push_cast, Int.reduceEq, Int.reduceLT, Int.reduceLE, Int.reduceNe] at hc | with_reducible refine r_rq (by first | decide | omega) ?_ | ((with_reducible first | apply i_lds | apply i_ldsq | apply i_ld | apply i_ldq); exact rfl) | ((with_reducible first | apply i_ldn | apply i_ldnq); exact rfl; exact rfl; exact rfl) | (with_reducible first | refine r_ph0 ?_ | apply i_kp0) | ((with_reducible first | apply i_st | apply i_stl); (focus simp); exact rfl) | ((try with_reducible refine d_reg ?_); simp only [go_sem, Nat.reduceAdd, Nat.reduceEqDiff, Int.reduceToNat, Nat.reduceMul, Nat.reduceSub]) | clear hK K)
          all_goals try (first | contradiction | (simp only [ reduceCtorEq] at *; done) | (exfalso; omega))
          (with_reducible first | apply i_ret0 | apply i_ret2 | apply i_ret3 | apply i_ret); exact rfl
          rfl
        · rw [if_neg hl]
          repeat' ((fail_if_success with_reducible refine nph ?_); first | (with_reducible first | (refine d_seq ?_; intro K hK) | (refine hK _ _ ?_; clear hK K) | refine d_blk ?_ | refine d_rt0 ?_ | refine d_sk0 ?_ | refine d_ex0 ?_ | (refine r_nwc ?_; intro b)) | (first | ((with_reducible refine d_cnd ?_); refine And.intro ?_ ?_) | with_reducible refine r_cnd ?_ ?_) <;> intro hc <;> try simp only [push_cast, Int.reduceEq, Int.reduceLT, Int.reduceLE, Int.reduceNe] at hc | with_reducible refine r_rq (by first | decide | omega) ?_ | ((with_reducible first | apply i_lds | apply i_ldsq | apply i_ld | apply i_ldq); exact rfl) | ((with_reducible first | apply i_ldn | apply i_ldnq); exact rfl; exact rfl; exact rfl) | (with_reducible first | refine r_ph0 ?_ | apply i_kp0) | ((with_reducible first | apply i_st | apply i_stl); (focus simp); exact rfl) | ((try with_reducible refine d_reg ?_); simp only [go_sem, Nat.reduceAdd, Nat.reduceEqDiff, Int.reduceToNat, Nat.reduceMul, Nat.reduceSub]) | clear hK K)
          refine i_clp (f96 wb (t, 0)) ?_
          repeat' ((fail_if_success with_reducible refine nph ?_); first | (with_reducible first | (refine d_seq ?_; intro K hK) | (refine hK _ _ ?_; clear hK K) | refine d_blk ?_ | refine d_rt0 ?_ | refine d_sk0 ?_ | refine d_ex0 ?_ | (refine r_nwc ?_; intro b)) | (first | ((with_reducible refine d_cnd ?_); refine And.intro ?_ ?_) | with_reducible refine r_cnd ?_ ?_) <;> intro hc <;> try simp only [push_cast, Int.reduceEq, Int.reduceLT, Int.reduceLE, Int.reduceNe] at hc | with_reducible refine r_rq (by first | decide | omega) ?_ | ((with_reducible first | apply i_lds | apply i_ldsq | apply i_ld | apply i_ldq); exact rfl) | ((with_reducible first | apply i_ldn | apply i_ldnq); exact rfl; exact rfl; exact rfl) | (with_reducible first | refine r_ph0 ?_ | apply i_kp0) | ((with_reducible first | apply i_st | apply i_stl); (focus simp); exact rfl) | ((try with_reducible refine d_reg ?_); simp only [go_sem, Nat.reduceAdd, Nat.reduceEqDiff, Int.reduceToNat, Nat.reduceMul, Nat.reduceSub]) | clear hK K)
          all_goals try (first | contradiction | (simp only [ reduceCtorEq] at *; done) | (exfalso; omega))
          (with_reducible first | apply i_ret0 | apply i_ret2 | apply i_ret3 | apply i_ret); exact rfl
          rfl
      · rw [if_neg hf]
        repeat' ((fail_if_success with_reducible refine nph ?_); first | (with_reducible first | (refine d_seq ?_; intro K hK) | (refine hK _ _ ?_; clear hK K) | refine d_blk ?_ | refine d_rt0 ?_ | refine d_sk0 ?_ | refine d_ex0 ?_ | (refine r_nwc ?_; intro b)) | (first | ((with_reducible refine d_cnd ?_); refine And.intro ?_ ?_) | with_reducible refine r_cnd ?_ ?_) <;> intro hc <;> try simp only [push_cast, Int.reduceEq, Int.reduceLT, Int.reduceLE, Int.reduceNe] at hc | with_reducible refine r_rq (by first | decide | omega) ?_ | ((with_reducible first | apply i_lds | apply i_ldsq | apply i_ld | apply i_ldq); exact rfl) | ((with_reducible first | apply i_ldn | apply i_ldnq); exact rfl; exact rfl; exact rfl) | (with_reducible first | refine r_ph0 ?_ | apply i_kp0) | ((with_reducible first | apply i_st | apply i_stl); (focus simp); exact rfl) | ((try with_reducible refine d_reg ?_); simp only [go_sem, Nat.reduceAdd, Nat.reduceEqDiff, Int.reduceToNat, Nat.reduceMul, Nat.reduceSub]) | clear hK K)
        refine i_clp (f96 wb (t, f)) ?_
        repeat' ((fail_if_success with_reducible refine nph ?_); first | (with_reducible first | (refine d_seq ?_; intro K hK) | (refine hK _ _ ?_; clear hK K) | refine d_blk ?_ | refine d_rt0 ?_ | refine d_sk0 ?_ | refine d_ex0 ?_ | (refine r_nwc ?_; intro b)) | (first | ((with_reducible refine d_cnd ?_); refine And.intro ?_ ?_) | with_reducible refine r_cnd ?_ ?_) <;> intro hc <;> try simp only [push_cast, Int.reduceEq, Int.reduceLT, Int.reduceLE, Int.reduceNe] at hc | with_reducible refine r_rq (by first | decide | omega) ?_ | ((with_reducible first | apply i_lds | apply i_ldsq | apply i_ld | apply i_ldq); exact rfl) | ((with_reducible first | apply i_ldn | apply i_ldnq); exact rfl; exact rfl; exact rfl) | (with_reducible first | refine r_ph0 ?_ | apply i_kp0) | ((with_reducible first | apply i_st | apply i_stl); (focus simp); exact rfl) | ((try with_reducible refine d_reg ?_); simp only [go_sem, Nat.reduceAdd, Nat.reduceEqDiff, Int.reduceToNat, Nat.reduceMul, Nat.reduceSub]) | clear hK K)
        all_goals try (first | contradiction | (simp only [ reduceCtorEq] at *; done) | (exfalso; omega))
        (with_reducible first | apply i_ret0 | apply i_ret2 | apply i_ret3 | apply i_ret); exact rfl
        rfl
    · rw [if_neg he, if_neg he]
      repeat' ((fail_if_success with_reducible refine nph ?_); first | (with_reducible first | (refine d_seq ?_; intro K hK) | (refine hK _ _ ?_; clear hK K) | refine d_blk ?_ | refine d_rt0 ?_ | refine d_sk0 ?_ | refine d_ex0 ?_ | (refine r_nwc ?_; intro b)) | (first | ((with_reducible refine d_cnd ?_); refine And.intro ?_ ?_) | with_reducible refine r_cnd ?_ ?_) <;> intro hc <;> try simp only [push_cast, Int.reduceEq, Int.reduceLT, Int.reduceLE, Int.reduceNe] at hc | with_reducible refine r_rq (by first | decide | omega) ?_ | ((with_reducible first | apply i_lds | apply i_ldsq | apply i_ld | apply i_ldq); exact rfl) | ((with_reducible first | apply i_ldn | apply i_ldnq); exact rfl; exact rfl; exact rfl) | (with_reducible first | refine r_ph0 ?_ | apply i_kp0) | ((with_reducible first | apply i_st | apply i_stl); (focus simp); exact rfl) | ((try with_reducible refine d_reg ?_); simp only [go_sem, Nat.reduceAdd, Nat.reduceEqDiff, Int.reduceToNat, Nat.reduceMul, Nat.reduceSub]) | clear hK K)
      refine i_clp (f96 wb (t, f)) ?_
      repeat' ((fail_if_success with_reducible refine nph ?_); first | (with_reducible first | (refine d_seq ?_; intro K hK) | (refine hK _ _ ?_; clear hK K) | refine d_blk ?_ | refine d_rt0 ?_ | refine d_sk0 ?_ | refine d_ex0 ?_ | (refine r_nwc ?_; intro b)) | (first | ((with_reducible refine d_cnd ?_); refine And.intro ?_ ?_) | with_reducible refine r_cnd ?_ ?_) <;> intro hc <;> try simp only [push_cast, Int.reduceEq, Int.reduceLT, Int.reduceLE, Int.reduceNe] at hc | with_reducible refine r_rq (by first | decide | omega) ?_ | ((with_reducible first | apply i_lds | apply i_ldsq | apply i_ld | apply i_ldq); exact rfl) | ((with_reducible first | apply i_ldn | apply i_ldnq); exact rfl; exact rfl; exact rfl) | (with_reducible first | refine r_ph0 ?_ | apply i_kp0) | ((with_reducible first | apply i_st | apply i_stl); (focus simp); exact rfl) | ((try with_reducible refine d_reg ?_); simp only [go_sem, Nat.reduceAdd, Nat.reduceEqDiff, Int.reduceToNat, Nat.reduceMul, Nat.reduceSub]) | clear hK K)
      all_goals try (first | contradiction | (simp only [ reduceCtorEq] at *; done) | (exfalso; omega))
      (with_reducible first | apply i_ret0 | apply i_ret2 | apply i_ret3 | apply i_ret); exact rfl
      rfl
  clear hK0
  by_cases h1 : kind = 1
  · subst h1
    rw [if_pos rfl] at hB
    by_cases hl : imgs.length = 1
    · rw [if_pos hl] at hB
      repeat' ((fail_if_success with_reducible refine nph ?_); first | (with_reducible first | (refine d_seq ?_; intro K hK) | (refine hK _ _ ?_; clear hK K) | refine d_blk ?_ | refine d_rt0 ?_ | refine d_sk0 ?_ | refine d_ex0 ?_ | (refine r_nwc ?_; intro b)) | (first | ((with_reducible refine d_cnd ?_); refine And.intro ?_ ?_) | with_reducible refine r_cnd ?_ ?_) <;> intro hc <;> try simp only [push_cast, Int.reduceEq, Int.reduceLT, Int.reduceLE, Int.reduceNe] at hc | with_reducible refine r_rq (by first | decide | omega) ?_ | ((with_reducible first | apply i_lds | apply i_ldsq | apply i_ld | apply i_ldq); exact rfl) | ((with_reducible first | apply i_ldn | apply i_ldnq); exact rfl; exact rfl; exact rfl) | (with_reducible first | refine r_ph0 ?_ | apply i_kp0) | ((with_reducible first | apply i_st | apply i_stl); (focus simp); exact rfl) | ((try with_reducible refine d_reg ?_); simp only [go_sem, Nat.reduceAdd, Nat.reduceEqDiff, Int.reduceToNat, Nat.reduceMul, Nat.reduceSub]) | clear hK K)
      all_goals try (first | contradiction | (simp only [ reduceCtorEq] at *; done) | (exfalso; omega))
      refine i_clq (g104 A wb x0 (ip, imgs.length, ic) imgs hi li (by omega)) ?_
      exact (fin _ _ _ hB).sub SX.p
    · rw [if_neg hl] at hB
      repeat' ((fail_if_success with_reducible refine nph ?_); first | (with_reducible first | (refine d_seq ?_; intro K hK) | (refine hK _ _ ?_; clear hK K) | refine d_blk ?_ | refine d_rt0 ?_ | refine d_sk0 ?_ | refine d_ex0 ?_ | (refine r_nwc ?_; intro b)) | (first | ((with_reducible refine d_cnd ?_); refine And.intro ?_ ?_) | with_reducible refine r_cnd ?_ ?_) <;> intro hc <;> try simp only [push_cast, Int.reduceEq, Int.reduceLT, Int.reduceLE, Int.reduceNe] at hc | with_reducible refine r_rq (by first | decide | omega) ?_ | ((with_reducible first | apply i_lds | apply i_ldsq | apply i_ld | apply i_ldq); exact rfl) | ((with_reducible first | apply i_ldn | apply i_ldnq); exact rfl; exact rfl; exact rfl) | (with_reducible first | refine r_ph0 ?_ | apply i_kp0) | ((with_reducible first | apply i_st | apply i_stl); (focus simp); exact rfl) | ((try with_reducible refine d_reg ?_); simp only [go_sem, Nat.reduceAdd, Nat.reduceEqDiff, Int.reduceToNat, Nat.reduceMul, Nat.reduceSub]) | clear hK K)
      all_goals try (first | contradiction | (simp only [ reduceCtorEq] at *; done) | (exfalso; omega))
      subst hB
      (with_reducible first | apply i_ret0 | apply i_ret2 | apply i_ret3 | apply i_ret); exact rfl
      rfl
  rw [if_neg h1] at hB
  by_cases h2 : kind = 2
  · subst h2
    rw [if_pos rfl] at hB
    repeat' ((fail_if_success with_reducible refine nph ?_); first | (with_reducible first | (refine d_seq ?_; intro K hK) | (refine hK _ _ ?_; clear hK K) | refine d_blk ?_ | refine d_rt0 ?_ | refine d_sk0 ?_ | refine d_ex0 ?_ | (refine r_nwc ?_; intro b)) | (first | ((with_reducible refine d_cnd ?_); refine And.intro ?_ ?_) | with_reducible refine r_cnd ?_ ?_) <;> intro hc <;> try simp only [push_cast, Int.reduceEq, Int.reduceLT, Int.reduceLE, Int.reduceNe] at hc | with_reducible refine r_rq (by first | decide | omega) ?_ | ((with_reducible first | apply i_lds | apply i_ldsq | apply i_ld | apply i_ldq); exact rfl) | ((with_reducible first | apply i_ldn | apply i_ldnq); exact rfl; exact rfl; exact rfl) | (with_reducible first | refine r_ph0 ?_ | apply i_kp0) | ((with_reducible first | apply i_st | apply i_stl); (focus simp); exact rfl) | ((try with_reducible refine d_reg ?_); simp only [go_sem, Nat.reduceAdd, Nat.reduceEqDiff, Int.reduceToNat, Nat.reduceMul, Nat.reduceSub]) | clear hK K)
    all_goals try (first | contradiction | (simp only [ reduceCtorEq] at *; done) | (exfalso; omega))
    refine i_clq (g104 A wb x0 (ip, imgs.length, ic) imgs hi li (by omega)) ?_
    exact (fin _ _ _ hB).sub SX.p
  rw [if_neg h2] at hB
  by_cases h6 : kind = 6
  · subst h6
    rw [if_pos rfl] at hB
    by_cases ha : act < 3 ∨ 5 < act
    · rw [if_pos ha] at hB
      repeat' ((fail_if_success with_reducible refine nph ?_); first | (with_reducible first | (refine d_seq ?_; intro K hK) | (refine hK _ _ ?_; clear hK K) | refine d_blk ?_ | refine d_rt0 ?_ | refine d_sk0 ?_ | refine d_ex0 ?_ | (refine r_nwc ?_; intro b)) | (first | ((with_reducible refine d_cnd ?_); refine And.intro ?_ ?_) | with_reducible refine r_cnd ?_ ?_) <;> intro hc <;> try simp only [push_cast, Int.reduceEq, Int.reduceLT, Int.reduceLE, Int.reduceNe] at hc | with_reducible refine r_rq (by first | decide | omega) ?_ | ((with_reducible first | apply i_lds | apply i_ldsq | apply i_ld | apply i_ldq); exact rfl) | ((with_reducible first | apply i_ldn | apply i_ldnq); exact rfl; exact rfl; exact rfl) | (with_reducible first | refine r_ph0 ?_ | apply i_kp0) | ((with_reducible first | apply i_st | apply i_stl); (focus simp); exact rfl) | ((try with_reducible refine d_reg ?_); simp only [go_sem, Nat.reduceAdd, Nat.reduceEqDiff, Int.reduceToNat, Nat.reduceMul, Nat.reduceSub]) | clear hK K)
      all_goals try (first | contradiction | (simp only [ reduceCtorEq] at *; done) | (exfalso; omega))
      all_goals
        subst hB
        (with_reducible first | apply i_ret0 | apply i_ret2 | apply i_ret3 | apply i_ret); exact rfl
        rfl
    · rw [if_neg ha] at hB
      repeat' ((fail_if_success with_reducible refine nph ?_); first | (with_reducible first | (refine d_seq ?_; intro K hK) | (refine hK _ _ ?_; clear hK K) | refine d_blk ?_ | refine d_rt0 ?_ | refine d_sk0 ?_ | refine d_ex0 ?_ | (refine r_nwc ?_; intro b)) | (first | ((with_reducible refine d_cnd ?_); refine And.intro ?_ ?_) | with_reducible refine r_cnd ?_ ?_) <;> intro hc <;> try simp only [push_cast, Int.reduceEq, Int.reduceLT, Int.reduceLE, Int.reduceNe] at hc | with_reducible refine r_rq (by first | decide | omega) ?_ | ((with_reducible first | apply i_lds | apply i_ldsq | apply i_ld | apply i_ldq); exact rfl) | ((with_reducible first | apply i_ldn | apply i_ldnq); exact rfl; exact rfl; exact rfl) | (with_reducible first | refine r_ph0 ?_ | apply i_kp0) | ((with_reducible first | apply i_st | apply i_stl); (focus simp); exact rfl) | ((try with_reducible refine d_reg ?_); simp only [go_sem, Nat.reduceAdd, Nat.reduceEqDiff, Int.reduceToNat, Nat.reduceMul, Nat.reduceSub]) | clear hK K)
      all_goals try (exfalso; omega)
      refine i_clp (g105 key old nw _) ?_
      have q1 := layN_len x0 txn 6
      have q2 := layN_len (layN x0 txn 6) prev 6
      have q3 := layN_len (layN (layN x0 txn 6) prev 6) next 6
      have q4 := layN_len (layN (layN (layN x0 txn 6) prev 6) next 6) act 1
      repeat' ((fail_if_success with_reducible refine nph ?_); first | (with_reducible first | (refine d_seq ?_; intro K hK) | (refine hK _ _ ?_; clear hK K) | refine d_blk ?_ | refine d_rt0 ?_ | refine d_sk0 ?_ | refine d_ex0 ?_ | (refine r_nwc ?_; intro b)) | (first | ((with_reducible refine d_cnd ?_); refine And.intro ?_ ?_) | with_reducible refine r_cnd ?_ ?_) <;> intro hc <;> try simp only [push_cast, Int.reduceEq, Int.reduceLT, Int.reduceLE, Int.reduceNe] at hc | with_reducible refine r_rq (by first | decide | omega) ?_ | ((with_reducible first | apply i_lds | apply i_ldsq | apply i_ld | apply i_ldq); exact rfl) | ((with_reducible first | apply i_ldn | apply i_ldnq); exact rfl; exact rfl; exact rfl) | (with_reducible first | refine r_ph0 ?_ | apply i_kp0) | ((with_reducible first | apply i_st | apply i_stl); (focus simp); exact rfl) | ((try with_reducible refine d_reg ?_); simp only [go_sem, Nat.reduceAdd, Nat.reduceEqDiff, Int.reduceToNat, Nat.reduceMul, Nat.reduceSub]) | clear hK K)
      refine i_ldn (e := e_api_Rec) (x := ⟨6, txn, prev, page, act, key, old, nw, next, (ip, imgs.length, ic), (tp, tbl.length, tc), epoch, node⟩) rfl rfl rfl ?_
      refine i_clq (show Fq eN Tryz.prog 106 #[.pointer (some ⟨wb, 0, none⟩), v_api_Rec ⟨6, txn, prev, page, act, key, old, nw, next, (ip, imgs.length, ic), (tp, tbl.length, tc), epoch, node⟩] [wr wb x0] [wr wb (layN (layN x0 txn 6) prev 6)] () from g106 wb x0 _ (by omega)) ?_
      repeat' ((fail_if_success with_reducible refine nph ?_); first | (with_reducible first | (refine d_seq ?_; intro K hK) | (refine hK _ _ ?_; clear hK K) | refine d_blk ?_ | refine d_rt0 ?_ | refine d_sk0 ?_ | refine d_ex0 ?_ | (refine r_nwc ?_; intro b)) | (first | ((with_reducible refine d_cnd ?_); refine And.intro ?_ ?_) | with_reducible refine r_cnd ?_ ?_) <;> intro hc <;> try simp only [push_cast, Int.reduceEq, Int.reduceLT, Int.reduceLE, Int.reduceNe] at hc | with_reducible refine r_rq (by first | decide | omega) ?_ | ((with_reducible first | apply i_lds | apply i_ldsq | apply i_ld | apply i_ldq); exact rfl) | ((with_reducible first | apply i_ldn | apply i_ldnq); exact rfl; exact rfl; exact rfl) | (with_reducible first | refine r_ph0 ?_ | apply i_kp0) | ((with_reducible first | apply i_st | apply i_stl); (focus simp); exact rfl) | ((try with_reducible refine d_reg ?_); simp only [go_sem, Nat.reduceAdd, Nat.reduceEqDiff, Int.reduceToNat, Nat.reduceMul, Nat.reduceSub]) | clear hK K)
      refine i_clq (gN wb (layN (layN x0 txn 6) prev 6) next 6 (by decide) (by decide) (by omega)) ?_
      repeat' ((fail_if_success with_reducible refine nph ?_); first | (with_reducible first | (refine d_seq ?_; intro K hK) | (refine hK _ _ ?_; clear hK K) | refine d_blk ?_ | refine d_rt0 ?_ | refine d_sk0 ?_ | refine d_ex0 ?_ | (refine r_nwc ?_; intro b)) | (first | ((with_reducible refine d_cnd ?_); refine And.intro ?_ ?_) | with_reducible refine r_cnd ?_ ?_) <;> intro hc <;> try simp only [push_cast, Int.reduceEq, Int.reduceLT, Int.reduceLE, Int.reduceNe] at hc | with_reducible refine r_rq (by first | decide | omega) ?_ | ((with_reducible first | apply i_lds | apply i_ldsq | apply i_ld | apply i_ldq); exact rfl) | ((with_reducible first | apply i_ldn | apply i_ldnq); exact rfl; exact rfl; exact rfl) | (with_reducible first | refine r_ph0 ?_ | apply i_kp0) | ((with_reducible first | apply i_st | apply i_stl); (focus simp); exact rfl) | ((try with_reducible refine d_reg ?_); simp only [go_sem, Nat.reduceAdd, Nat.reduceEqDiff, Int.reduceToNat, Nat.reduceMul, Nat.reduceSub]) | clear hK K)
      refine i_clq (gN wb (layN (layN (layN x0 txn 6) prev 6) next 6) act 1 (by decide) (by decide) (by omega)) ?_
      repeat' ((fail_if_success with_reducible refine nph ?_); first | (with_reducible first | (refine d_seq ?_; intro K hK) | (refine hK _ _ ?_; clear hK K) | refine d_blk ?_ | refine d_rt0 ?_ | refine d_sk0 ?_ | refine d_ex0 ?_ | (refine r_nwc ?_; intro b)) | (first | ((with_reducible refine d_cnd ?_); refine And.intro ?_ ?_) | with_reducible refine r_cnd ?_ ?_) <;> intro hc <;> try simp only [push_cast, Int.reduceEq, Int.reduceLT, Int.reduceLE, Int.reduceNe] at hc | with_reducible refine r_rq (by first | decide | omega) ?_ | ((with_reducible first | apply i_lds | apply i_ldsq | apply i_ld | apply i_ldq); exact rfl) | ((with_reducible first | apply i_ldn | apply i_ldnq); exact rfl; exact rfl; exact rfl) | (with_reducible first | refine r_ph0 ?_ | apply i_kp0) | ((with_reducible first | apply i_st | apply i_stl); (focus simp); exact rfl) | ((try with_reducible refine d_reg ?_); simp only [go_sem, Nat.reduceAdd, Nat.reduceEqDiff, Int.reduceToNat, Nat.reduceMul, Nat.reduceSub]) | clear hK K)
      refine i_ldn (e := e_api_Rec) (x := ⟨6, txn, prev, page, act, key, old, nw, next, (ip, imgs.length, ic), (tp, tbl.length, tc), epoch, node⟩) rfl rfl rfl ?_
      repeat' ((fail_if_success with_reducible refine nph ?_); first | (with_reducible first | (refine d_seq ?_; intro K hK) | (refine hK _ _ ?_; clear hK K) | refine d_blk ?_ | refine d_rt0 ?_ | refine d_sk0 ?_ | refine d_ex0 ?_ | (refine r_nwc ?_; intro b)) | (first | ((with_reducible refine d_cnd ?_); refine And.intro ?_ ?_) | with_reducible refine r_cnd ?_ ?_) <;> intro hc <;> try simp only [push_cast, Int.reduceEq, Int.reduceLT, Int.reduceLE, Int.reduceNe] at hc | with_reducible refine r_rq (by first | decide | omega) ?_ | ((with_reducible first | apply i_lds | apply i_ldsq | apply i_ld | apply i_ldq); exact rfl) | ((with_reducible first | apply i_ldn | apply i_ldnq); exact rfl; exact rfl; exact rfl) | (with_reducible first | refine r_ph0 ?_ | apply i_kp0) | ((with_reducible first | apply i_st | apply i_stl); (focus simp); exact rfl) | ((try with_reducible refine d_reg ?_); simp only [go_sem, Nat.reduceAdd, Nat.reduceEqDiff, Int.reduceToNat, Nat.reduceMul, Nat.reduceSub]) | clear hK K)
      refine i_clq (g107 wb (layN (layN (layN (layN x0 txn 6) prev 6) next 6) act 1) ⟨6, txn, prev, page, act, key, old, nw, next, (ip, imgs.length, ic), (tp, tbl.length, tc), epoch, node⟩ act (by omega)) ?_
      repeat' ((fail_if_success with_reducible refine nph ?_); first | (with_reducible first | (refine d_seq ?_; intro K hK) | (refine hK _ _ ?_; clear hK K) | refine d_blk ?_ | refine d_rt0 ?_ | refine d_sk0 ?_ | refine d_ex0 ?_ | (refine r_nwc ?_; intro b)) | (first | ((with_reducible refine d_cnd ?_); refine And.intro ?_ ?_) | with_reducible refine r_cnd ?_ ?_) <;> intro hc <;> try simp only [push_cast, Int.reduceEq, Int.reduceLT, Int.reduceLE, Int.reduceNe] at hc | with_reducible refine r_rq (by first | decide | omega) ?_ | ((with_reducible first | apply i_lds | apply i_ldsq | apply i_ld | apply i_ldq); exact rfl) | ((with_reducible first | apply i_ldn | apply i_ldnq); exact rfl; exact rfl; exact rfl) | (with_reducible first | refine r_ph0 ?_ | apply i_kp0) | ((with_reducible first | apply i_st | apply i_stl); (focus simp); exact rfl) | ((try with_reducible refine d_reg ?_); simp only [go_sem, Nat.reduceAdd, Nat.reduceEqDiff, Int.reduceToNat, Nat.reduceMul, Nat.reduceSub]) | clear hK K)
      exact (fin (chg (layN (layN (layN (layN x0 txn 6) prev 6) next 6) act 1) ⟨6, txn, prev, page, act, key, old, nw, next, (ip, imgs.length, ic), (tp, tbl.length, tc), epoch, node⟩ act) _ _ hB).sub SX.p
  rw [if_neg h6] at hB
  by_cases h345 : kind = 3 ∨ kind = 4 ∨ kind = 5
  · rw [if_pos h345] at hB
    have q1 := layN_len x0 txn 6
    have q2 := layN_len (layN x0 txn 6) prev 6
    repeat' ((fail_if_success with_reducible refine nph ?_); first | (with_reducible first | (refine d_seq ?_; intro K hK) | (refine hK _ _ ?_; clear hK K) | refine d_blk ?_ | refine d_rt0 ?_ | refine d_sk0 ?_ | refine d_ex0 ?_ | (refine r_nwc ?_; intro b)) | (first | ((with_reducible refine d_cnd ?_); refine And.intro ?_ ?_) | with_reducible refine r_cnd ?_ ?_) <;> intro hc <;> try simp only [push_cast, Int.reduceEq, Int.reduceLT, Int.reduceLE, Int.reduceNe] at hc | with_reducible refine r_rq (by first | decide | omega) ?_ | ((with_reducible first | apply i_lds | apply i_ldsq | apply i_ld | apply i_ldq); exact rfl) | ((with_reducible first | apply i_ldn | apply i_ldnq); exact rfl; exact rfl; exact rfl) | (with_reducible first | refine r_ph0 ?_ | apply i_kp0) | ((with_reducible first | apply i_st | apply i_stl); (focus simp); exact rfl) | ((try with_reducible refine d_reg ?_); simp only [go_sem, Nat.reduceAdd, Nat.reduceEqDiff, Int.reduceToNat, Nat.reduceMul, Nat.reduceSub]) | clear hK K)
    all_goals try (exfalso; omega)
    all_goals
      refine i_clp (g105 key old nw _) ?_
      repeat' ((fail_if_success with_reducible refine nph ?_); first | (with_reducible first | (refine d_seq ?_; intro K hK) | (refine hK _ _ ?_; clear hK K) | refine d_blk ?_ | refine d_rt0 ?_ | refine d_sk0 ?_ | refine d_ex0 ?_ | (refine r_nwc ?_; intro b)) | (first | ((with_reducible refine d_cnd ?_); refine And.intro ?_ ?_) | with_reducible refine r_cnd ?_ ?_) <;> intro hc <;> try simp only [push_cast, Int.reduceEq, Int.reduceLT, Int.reduceLE, Int.reduceNe] at hc | with_reducible refine r_rq (by first | decide | omega) ?_ | ((with_reducible first | apply i_lds | apply i_ldsq | apply i_ld | apply i_ldq); exact rfl) | ((with_reducible first | apply i_ldn | apply i_ldnq); exact rfl; exact rfl; exact rfl) | (with_reducible first | refine r_ph0 ?_ | apply i_kp0) | ((with_reducible first | apply i_st | apply i_stl); (focus simp); exact rfl) | ((try with_reducible refine d_reg ?_); simp only [go_sem, Nat.reduceAdd, Nat.reduceEqDiff, Int.reduceToNat, Nat.reduceMul, Nat.reduceSub]) | clear hK K)
      refine i_ldn (e := e_api_Rec) (x := ⟨kind, txn, prev, page, act, key, old, nw, next, (ip, imgs.length, ic), (tp, tbl.length, tc), epoch, node⟩) rfl rfl rfl ?_
      refine i_clq (show Fq eN Tryz.prog 106 #[.pointer (some ⟨wb, 0, none⟩), v_api_Rec ⟨kind, txn, prev, page, act, key, old, nw, next, (ip, imgs.length, ic), (tp, tbl.length, tc), epoch, node⟩] [wr wb x0] [wr wb (layN (layN x0 txn 6) prev 6)] () from g106 wb x0 _ (by omega)) ?_
      repeat' ((fail_if_success with_reducible refine nph ?_); first | (with_reducible first | (refine d_seq ?_; intro K hK) | (refine hK _ _ ?_; clear hK K) | refine d_blk ?_ | refine d_rt0 ?_ | refine d_sk0 ?_ | refine d_ex0 ?_ | (refine r_nwc ?_; intro b)) | (first | ((with_reducible refine d_cnd ?_); refine And.intro ?_ ?_) | with_reducible refine r_cnd ?_ ?_) <;> intro hc <;> try simp only [push_cast, Int.reduceEq, Int.reduceLT, Int.reduceLE, Int.reduceNe] at hc | with_reducible refine r_rq (by first | decide | omega) ?_ | ((with_reducible first | apply i_lds | apply i_ldsq | apply i_ld | apply i_ldq); exact rfl) | ((with_reducible first | apply i_ldn | apply i_ldnq); exact rfl; exact rfl; exact rfl) | (with_reducible first | refine r_ph0 ?_ | apply i_kp0) | ((with_reducible first | apply i_st | apply i_stl); (focus simp); exact rfl) | ((try with_reducible refine d_reg ?_); simp only [go_sem, Nat.reduceAdd, Nat.reduceEqDiff, Int.reduceToNat, Nat.reduceMul, Nat.reduceSub]) | clear hK K)
      refine i_ldn (e := e_api_Rec) (x := ⟨kind, txn, prev, page, act, key, old, nw, next, (ip, imgs.length, ic), (tp, tbl.length, tc), epoch, node⟩) rfl rfl rfl ?_
      repeat' ((fail_if_success with_reducible refine nph ?_); first | (with_reducible first | (refine d_seq ?_; intro K hK) | (refine hK _ _ ?_; clear hK K) | refine d_blk ?_ | refine d_rt0 ?_ | refine d_sk0 ?_ | refine d_ex0 ?_ | (refine r_nwc ?_; intro b)) | (first | ((with_reducible refine d_cnd ?_); refine And.intro ?_ ?_) | with_reducible refine r_cnd ?_ ?_) <;> intro hc <;> try simp only [push_cast, Int.reduceEq, Int.reduceLT, Int.reduceLE, Int.reduceNe] at hc | with_reducible refine r_rq (by first | decide | omega) ?_ | ((with_reducible first | apply i_lds | apply i_ldsq | apply i_ld | apply i_ldq); exact rfl) | ((with_reducible first | apply i_ldn | apply i_ldnq); exact rfl; exact rfl; exact rfl) | (with_reducible first | refine r_ph0 ?_ | apply i_kp0) | ((with_reducible first | apply i_st | apply i_stl); (focus simp); exact rfl) | ((try with_reducible refine d_reg ?_); simp only [go_sem, Nat.reduceAdd, Nat.reduceEqDiff, Int.reduceToNat, Nat.reduceMul, Nat.reduceSub]) | clear hK K)
      refine i_clq (g107 wb (layN (layN x0 txn 6) prev 6) ⟨kind, txn, prev, page, act, key, old, nw, next, (ip, imgs.length, ic), (tp, tbl.length, tc), epoch, node⟩ kind (by omega)) ?_
      repeat' ((fail_if_success with_reducible refine nph ?_); first | (with_reducible first | (refine d_seq ?_; intro K hK) | (refine hK _ _ ?_; clear hK K) | refine d_blk ?_ | refine d_rt0 ?_ | refine d_sk0 ?_ | refine d_ex0 ?_ | (refine r_nwc ?_; intro b)) | (first | ((with_reducible refine d_cnd ?_); refine And.intro ?_ ?_) | with_reducible refine r_cnd ?_ ?_) <;> intro hc <;> try simp only [push_cast, Int.reduceEq, Int.reduceLT, Int.reduceLE, Int.reduceNe] at hc | with_reducible refine r_rq (by first | decide | omega) ?_ | ((with_reducible first | apply i_lds | apply i_ldsq | apply i_ld | apply i_ldq); exact rfl) | ((with_reducible first | apply i_ldn | apply i_ldnq); exact rfl; exact rfl; exact rfl) | (with_reducible first | refine r_ph0 ?_ | apply i_kp0) | ((with_reducible first | apply i_st | apply i_stl); (focus simp); exact rfl) | ((try with_reducible refine d_reg ?_); simp only [go_sem, Nat.reduceAdd, Nat.reduceEqDiff, Int.reduceToNat, Nat.reduceMul, Nat.reduceSub]) | clear hK K)
      exact (fin (chg (layN (layN x0 txn 6) prev 6) ⟨kind, txn, prev, page, act, key, old, nw, next, (ip, imgs.length, ic), (tp, tbl.length, tc), epoch, node⟩ kind) _ _ hB).sub SX.p
  rw [if_neg h345] at hB
  by_cases h78 : kind = 7 ∨ kind = 8
  · rw [if_pos h78] at hB
    repeat' ((fail_if_success with_reducible refine nph ?_); first | (with_reducible first | (refine d_seq ?_; intro K hK) | (refine hK _ _ ?_; clear hK K) | refine d_blk ?_ | refine d_rt0 ?_ | refine d_sk0 ?_ | refine d_ex0 ?_ | (refine r_nwc ?_; intro b)) | (first | ((with_reducible refine d_cnd ?_); refine And.intro ?_ ?_) | with_reducible refine r_cnd ?_ ?_) <;> intro hc <;> try simp only [push_cast, Int.reduceEq, Int.reduceLT, Int.reduceLE, Int.reduceNe] at hc | with_reducible refine r_rq (by first | decide | omega) ?_ | ((with_reducible first | apply i_lds | apply i_ldsq | apply i_ld | apply i_ldq); exact rfl) | ((with_reducible first | apply i_ldn | apply i_ldnq); exact rfl; exact rfl; exact rfl) | (with_reducible first | refine r_ph0 ?_ | apply i_kp0) | ((with_reducible first | apply i_st | apply i_stl); (focus simp); exact rfl) | ((try with_reducible refine d_reg ?_); simp only [go_sem, Nat.reduceAdd, Nat.reduceEqDiff, Int.reduceToNat, Nat.reduceMul, Nat.reduceSub]) | clear hK K)
    all_goals try (exfalso; omega)
    all_goals
      refine i_ldn (e := e_api_Rec) (x := ⟨kind, txn, prev, page, act, key, old, nw, next, (ip, imgs.length, ic), (tp, tbl.length, tc), epoch, node⟩) rfl rfl rfl ?_
      refine i_clq (show Fq eN Tryz.prog 106 #[.pointer (some ⟨wb, 0, none⟩), v_api_Rec ⟨kind, txn, prev, page, act, key, old, nw, next, (ip, imgs.length, ic), (tp, tbl.length, tc), epoch, node⟩] [wr wb x0] [wr wb (layN (layN x0 txn 6) prev 6)] () from g106 wb x0 _ (by omega)) ?_
      repeat' ((fail_if_success with_reducible refine nph ?_); first | (with_reducible first | (refine d_seq ?_; intro K hK) | (refine hK _ _ ?_; clear hK K) | refine d_blk ?_ | refine d_rt0 ?_ | refine d_sk0 ?_ | refine d_ex0 ?_ | (refine r_nwc ?_; intro b)) | (first | ((with_reducible refine d_cnd ?_); refine And.intro ?_ ?_) | with_reducible refine r_cnd ?_ ?_) <;> intro hc <;> try simp only [push_cast, Int.reduceEq, Int.reduceLT, Int.reduceLE, Int.reduceNe] at hc | with_reducible refine r_rq (by first | decide | omega) ?_ | ((with_reducible first | apply i_lds | apply i_ldsq | apply i_ld | apply i_ldq); exact rfl) | ((with_reducible first | apply i_ldn | apply i_ldnq); exact rfl; exact rfl; exact rfl) | (with_reducible first | refine r_ph0 ?_ | apply i_kp0) | ((with_reducible first | apply i_st | apply i_stl); (focus simp); exact rfl) | ((try with_reducible refine d_reg ?_); simp only [go_sem, Nat.reduceAdd, Nat.reduceEqDiff, Int.reduceToNat, Nat.reduceMul, Nat.reduceSub]) | clear hK K)
      exact (fin (layN (layN x0 txn 6) prev 6) _ _ hB).sub SX.p
  rw [if_neg h78] at hB
  by_cases h9 : kind = 9
  · rw [if_pos h9] at hB
    have q1 := layN_len x0 (tbl.length : Int) 1
    repeat' ((fail_if_success with_reducible refine nph ?_); first | (with_reducible first | (refine d_seq ?_; intro K hK) | (refine hK _ _ ?_; clear hK K) | refine d_blk ?_ | refine d_rt0 ?_ | refine d_sk0 ?_ | refine d_ex0 ?_ | (refine r_nwc ?_; intro b)) | (first | ((with_reducible refine d_cnd ?_); refine And.intro ?_ ?_) | with_reducible refine r_cnd ?_ ?_) <;> intro hc <;> try simp only [push_cast, Int.reduceEq, Int.reduceLT, Int.reduceLE, Int.reduceNe] at hc | with_reducible refine r_rq (by first | decide | omega) ?_ | ((with_reducible first | apply i_lds | apply i_ldsq | apply i_ld | apply i_ldq); exact rfl) | ((with_reducible first | apply i_ldn | apply i_ldnq); exact rfl; exact rfl; exact rfl) | (with_reducible first | refine r_ph0 ?_ | apply i_kp0) | ((with_reducible first | apply i_st | apply i_stl); (focus simp); exact rfl) | ((try with_reducible refine d_reg ?_); simp only [go_sem, Nat.reduceAdd, Nat.reduceEqDiff, Int.reduceToNat, Nat.reduceMul, Nat.reduceSub]) | clear hK K)
    all_goals try (exfalso; omega)
    refine i_clq (gN wb x0 (tbl.length : Int) 1 (by decide) (by decide) (by omega)) ?_
    generalize layN x0 (tbl.length : Int) 1 = x1 at *
    repeat' ((fail_if_success with_reducible refine nph ?_); first | (with_reducible first | (refine d_seq ?_; intro K hK) | (refine hK _ _ ?_; clear hK K) | refine d_blk ?_ | refine d_rt0 ?_ | refine d_sk0 ?_ | refine d_ex0 ?_ | (refine r_nwc ?_; intro b)) | (first | ((with_reducible refine d_cnd ?_); refine And.intro ?_ ?_) | with_reducible refine r_cnd ?_ ?_) <;> intro hc <;> try simp only [push_cast, Int.reduceEq, Int.reduceLT, Int.reduceLE, Int.reduceNe] at hc | with_reducible refine r_rq (by first | decide | omega) ?_ | ((with_reducible first | apply i_lds | apply i_ldsq | apply i_ld | apply i_ldq); exact rfl) | ((with_reducible first | apply i_ldn | apply i_ldnq); exact rfl; exact rfl; exact rfl) | (with_reducible first | refine r_ph0 ?_ | apply i_kp0) | ((with_reducible first | apply i_st | apply i_stl); (focus simp); exact rfl) | ((try with_reducible refine d_reg ?_); simp only [go_sem, Nat.reduceAdd, Nat.reduceEqDiff, Int.reduceToNat, Nat.reduceMul, Nat.reduceSub]) | clear hK K)
    refine d_lp [4, 5, 102, 103, 104] (fun i : Nat => [(4, .pointer (some ⟨wb, 0, none⟩)), (5, .int .i64 0), (102, .slice tp tbl.length tc), (103, .int .i64 (tbl.length : Int)), (104, .int .i64 (i : Int))])
      (fun i => wr wb (tbg x1 (tbl.take i)) :: ar b1 36 [.int .i64 kind, .int .i64 txn, .int .i64 prev, .int .i64 page, .int .i64 act, str key, str old, str nw, .int .i64 next, .slice ip imgs.length ic, .slice tp tbl.length tc, .int .i64 epoch, .int .i64 node] :: A :: L) (fun i => i ≤ tbl.length ∧ (tbg x1 (tbl.take i)).1.length ≤ 10 + 12 * i) (fun i => tbl.length - i) 0 rfl ?_ ⟨by omega, by have e0 : (tbg x1 (tbl.take 0)).1.length = x1.1.length := rfl; omega⟩ ?_
    · show Sub (wr wb x1 :: ar b1 36 _ :: A :: L) _
      exact SX.p
    rintro i ⟨hi', hx⟩
    repeat' ((fail_if_success with_reducible refine nph ?_); first | (with_reducible first | (refine d_seq ?_; intro K hK) | (refine hK _ _ ?_; clear hK K) | refine d_blk ?_ | refine d_rt0 ?_ | refine d_sk0 ?_ | refine d_ex0 ?_ | (refine r_nwc ?_; intro b)) | (first | ((with_reducible refine d_cnd ?_); refine And.intro ?_ ?_) | with_reducible refine r_cnd ?_ ?_) <;> intro hc <;> try simp only [push_cast, Int.reduceEq, Int.reduceLT, Int.reduceLE, Int.reduceNe] at hc | with_reducible refine r_rq (by first | decide | omega) ?_ | ((with_reducible first | apply i_lds | apply i_ldsq | apply i_ld | apply i_ldq); exact rfl) | ((with_reducible first | apply i_ldn | apply i_ldnq); exact rfl; exact rfl; exact rfl) | (with_reducible first | refine r_ph0 ?_ | apply i_kp0) | ((with_reducible first | apply i_st | apply i_stl); (focus simp); exact rfl) | ((try with_reducible refine d_reg ?_); simp only [go_sem, Nat.reduceAdd, Nat.reduceEqDiff, Int.reduceToNat, Nat.reduceMul, Nat.reduceSub]) | clear hK K)
    · have hlt : i < tbl.length := by omega
      obtain ⟨m, hm⟩ : ∃ m, tbl[i]? = some m := ⟨tbl[i], by simp [hlt]⟩
      have T : tbg x1 (tbl.take (i + 1)) = layN (layN (tbg x1 (tbl.take i)) m.Txn 6) m.Last 6 := by
        unfold tbg
        rw [List.take_succ_eq_append_getElem hlt, List.foldl_append]
        rw [List.getElem?_eq_getElem hlt] at hm
        simp only [Option.some.injEq] at hm
        rw [hm]
        rfl
      generalize tbg x1 (tbl.take i) = y at *
      have l1 := layN_len y m.Txn 6
      have l2 := layN_len (layN y m.Txn 6) m.Last 6
      rcases tp with _ | a
      · exact absurd rfl (ht.2.1 (by dsimp only; omega))
      · refine r_nn rfl ?_
        refine i_sn (x := m) (y := m) ht cAct_len hm rfl ?_
        repeat' ((fail_if_success with_reducible refine nph ?_); first | (with_reducible first | (refine d_seq ?_; intro K hK) | (refine hK _ _ ?_; clear hK K) | refine d_blk ?_ | refine d_rt0 ?_ | refine d_sk0 ?_ | refine d_ex0 ?_ | (refine r_nwc ?_; intro b)) | (first | ((with_reducible refine d_cnd ?_); refine And.intro ?_ ?_) | with_reducible refine r_cnd ?_ ?_) <;> intro hc <;> try simp only [push_cast, Int.reduceEq, Int.reduceLT, Int.reduceLE, Int.reduceNe] at hc | with_reducible refine r_rq (by first | decide | omega) ?_ | ((with_reducible first | apply i_lds | apply i_ldsq | apply i_ld | apply i_ldq); exact rfl) | ((with_reducible first | apply i_ldn | apply i_ldnq); exact rfl; exact rfl; exact rfl) | (with_reducible first | refine r_ph0 ?_ | apply i_kp0) | ((with_reducible first | apply i_st | apply i_stl); (focus simp); exact rfl) | ((try with_reducible refine d_reg ?_); simp only [go_sem, Nat.reduceAdd, Nat.reduceEqDiff, Int.reduceToNat, Nat.reduceMul, Nat.reduceSub]) | clear hK K)
        refine i_clq (gN wb y m.Txn 6 (by decide) (by decide) (by omega)) ?_
        repeat' ((fail_if_success with_reducible refine nph ?_); first | (with_reducible first | (refine d_seq ?_; intro K hK) | (refine hK _ _ ?_; clear hK K) | refine d_blk ?_ | refine d_rt0 ?_ | refine d_sk0 ?_ | refine d_ex0 ?_ | (refine r_nwc ?_; intro b)) | (first | ((with_reducible refine d_cnd ?_); refine And.intro ?_ ?_) | with_reducible refine r_cnd ?_ ?_) <;> intro hc <;> try simp only [push_cast, Int.reduceEq, Int.reduceLT, Int.reduceLE, Int.reduceNe] at hc | with_reducible refine r_rq (by first | decide | omega) ?_ | ((with_reducible first | apply i_lds | apply i_ldsq | apply i_ld | apply i_ldq); exact rfl) | ((with_reducible first | apply i_ldn | apply i_ldnq); exact rfl; exact rfl; exact rfl) | (with_reducible first | refine r_ph0 ?_ | apply i_kp0) | ((with_reducible first | apply i_st | apply i_stl); (focus simp); exact rfl) | ((try with_reducible refine d_reg ?_); simp only [go_sem, Nat.reduceAdd, Nat.reduceEqDiff, Int.reduceToNat, Nat.reduceMul, Nat.reduceSub]) | clear hK K)
        refine i_clq (gN wb (layN y m.Txn 6) m.Last 6 (by decide) (by decide) (by omega)) ?_
        repeat' ((fail_if_success with_reducible refine nph ?_); first | (with_reducible first | (refine d_seq ?_; intro K hK) | (refine hK _ _ ?_; clear hK K) | refine d_blk ?_ | refine d_rt0 ?_ | refine d_sk0 ?_ | refine d_ex0 ?_ | (refine r_nwc ?_; intro b)) | (first | ((with_reducible refine d_cnd ?_); refine And.intro ?_ ?_) | with_reducible refine r_cnd ?_ ?_) <;> intro hc <;> try simp only [push_cast, Int.reduceEq, Int.reduceLT, Int.reduceLE, Int.reduceNe] at hc | with_reducible refine r_rq (by first | decide | omega) ?_ | ((with_reducible first | apply i_lds | apply i_ldsq | apply i_ld | apply i_ldq); exact rfl) | ((with_reducible first | apply i_ldn | apply i_ldnq); exact rfl; exact rfl; exact rfl) | (with_reducible first | refine r_ph0 ?_ | apply i_kp0) | ((with_reducible first | apply i_st | apply i_stl); (focus simp); exact rfl) | ((try with_reducible refine d_reg ?_); simp only [go_sem, Nat.reduceAdd, Nat.reduceEqDiff, Int.reduceToNat, Nat.reduceMul, Nat.reduceSub]) | clear hK K)
        rw [← T]
        rw [← T] at l2
        rw [w64 (by omega) (by omega)]
        exact i_bk (i + 1) rfl ⟨by omega, by omega⟩ (by omega)
    · obtain rfl : i = tbl.length := by omega
      rw [List.take_length]
      exact (fin _ _ _ hB).sub SX.p
  rw [if_neg h9] at hB
  by_cases h10 : kind = 10
  · rw [if_pos h10] at hB
    have q1 := layN_len x0 epoch 4
    repeat' ((fail_if_success with_reducible refine nph ?_); first | (with_reducible first | (refine d_seq ?_; intro K hK) | (refine hK _ _ ?_; clear hK K) | refine d_blk ?_ | refine d_rt0 ?_ | refine d_sk0 ?_ | refine d_ex0 ?_ | (refine r_nwc ?_; intro b)) | (first | ((with_reducible refine d_cnd ?_); refine And.intro ?_ ?_) | with_reducible refine r_cnd ?_ ?_) <;> intro hc <;> try simp only [push_cast, Int.reduceEq, Int.reduceLT, Int.reduceLE, Int.reduceNe] at hc | with_reducible refine r_rq (by first | decide | omega) ?_ | ((with_reducible first | apply i_lds | apply i_ldsq | apply i_ld | apply i_ldq); exact rfl) | ((with_reducible first | apply i_ldn | apply i_ldnq); exact rfl; exact rfl; exact rfl) | (with_reducible first | refine r_ph0 ?_ | apply i_kp0) | ((with_reducible first | apply i_st | apply i_stl); (focus simp); exact rfl) | ((try with_reducible refine d_reg ?_); simp only [go_sem, Nat.reduceAdd, Nat.reduceEqDiff, Int.reduceToNat, Nat.reduceMul, Nat.reduceSub]) | clear hK K)
    all_goals try (exfalso; omega)
    refine i_clq (gN wb x0 epoch 4 (by decide) (by decide) (by omega)) ?_
    repeat' ((fail_if_success with_reducible refine nph ?_); first | (with_reducible first | (refine d_seq ?_; intro K hK) | (refine hK _ _ ?_; clear hK K) | refine d_blk ?_ | refine d_rt0 ?_ | refine d_sk0 ?_ | refine d_ex0 ?_ | (refine r_nwc ?_; intro b)) | (first | ((with_reducible refine d_cnd ?_); refine And.intro ?_ ?_) | with_reducible refine r_cnd ?_ ?_) <;> intro hc <;> try simp only [push_cast, Int.reduceEq, Int.reduceLT, Int.reduceLE, Int.reduceNe] at hc | with_reducible refine r_rq (by first | decide | omega) ?_ | ((with_reducible first | apply i_lds | apply i_ldsq | apply i_ld | apply i_ldq); exact rfl) | ((with_reducible first | apply i_ldn | apply i_ldnq); exact rfl; exact rfl; exact rfl) | (with_reducible first | refine r_ph0 ?_ | apply i_kp0) | ((with_reducible first | apply i_st | apply i_stl); (focus simp); exact rfl) | ((try with_reducible refine d_reg ?_); simp only [go_sem, Nat.reduceAdd, Nat.reduceEqDiff, Int.reduceToNat, Nat.reduceMul, Nat.reduceSub]) | clear hK K)
    refine i_clq (gN wb (layN x0 epoch 4) node 1 (by decide) (by decide) (by omega)) ?_
    repeat' ((fail_if_success with_reducible refine nph ?_); first | (with_reducible first | (refine d_seq ?_; intro K hK) | (refine hK _ _ ?_; clear hK K) | refine d_blk ?_ | refine d_rt0 ?_ | refine d_sk0 ?_ | refine d_ex0 ?_ | (refine r_nwc ?_; intro b)) | (first | ((with_reducible refine d_cnd ?_); refine And.intro ?_ ?_) | with_reducible refine r_cnd ?_ ?_) <;> intro hc <;> try simp only [push_cast, Int.reduceEq, Int.reduceLT, Int.reduceLE, Int.reduceNe] at hc | with_reducible refine r_rq (by first | decide | omega) ?_ | ((with_reducible first | apply i_lds | apply i_ldsq | apply i_ld | apply i_ldq); exact rfl) | ((with_reducible first | apply i_ldn | apply i_ldnq); exact rfl; exact rfl; exact rfl) | (with_reducible first | refine r_ph0 ?_ | apply i_kp0) | ((with_reducible first | apply i_st | apply i_stl); (focus simp); exact rfl) | ((try with_reducible refine d_reg ?_); simp only [go_sem, Nat.reduceAdd, Nat.reduceEqDiff, Int.reduceToNat, Nat.reduceMul, Nat.reduceSub]) | clear hK K)
    exact (fin _ _ _ hB).sub SX.p
  rw [if_neg h10] at hB
  repeat' ((fail_if_success with_reducible refine nph ?_); first | (with_reducible first | (refine d_seq ?_; intro K hK) | (refine hK _ _ ?_; clear hK K) | refine d_blk ?_ | refine d_rt0 ?_ | refine d_sk0 ?_ | refine d_ex0 ?_ | (refine r_nwc ?_; intro b)) | (first | ((with_reducible refine d_cnd ?_); refine And.intro ?_ ?_) | with_reducible refine r_cnd ?_ ?_) <;> intro hc <;> try simp only [push_cast, Int.reduceEq, Int.reduceLT, Int.reduceLE, Int.reduceNe] at hc | with_reducible refine r_rq (by first | decide | omega) ?_ | ((with_reducible first | apply i_lds | apply i_ldsq | apply i_ld | apply i_ldq); exact rfl) | ((with_reducible first | apply i_ldn | apply i_ldnq); exact rfl; exact rfl; exact rfl) | (with_reducible first | refine r_ph0 ?_ | apply i_kp0) | ((with_reducible first | apply i_st | apply i_stl); (focus simp); exact rfl) | ((try with_reducible refine d_reg ?_); simp only [go_sem, Nat.reduceAdd, Nat.reduceEqDiff, Int.reduceToNat, Nat.reduceMul, Nat.reduceSub]) | clear hK K)
  all_goals try (exfalso; omega)
  subst hB
  (with_reducible first | apply i_ret0 | apply i_ret2 | apply i_ret3 | apply i_ret); exact rfl
  rfl
/-- A frame: how long a record is, its sum, itself. -/
def Rc.frame (c : Rc) : Wt := if c.clean.body.2 = 0 then (lowb (c.clean.body.1.length : Int) 2 ++ (lowb (sm c.clean.body.1) 4 ++ c.clean.body.1), 0) else ([], c.clean.body.2)
theorem bfin_le (x : Wt) (e : Int) : (bfin x e).1.length ≤ 4096 := by
  unfold bfin
  repeat' split
  all_goals first | omega | (simp; done) | (dsimp only; omega)
theorem Rc.body_le (c : Rc) : c.body.1.length ≤ 4096 := by
  unfold Rc.body
  repeat' split
  all_goals first | exact bfin_le _ _ | (simp; done)
theorem put2 {s : List UInt8} (h : s.length ≤ 4096) : putN [] (s.length : Int) 2 = (lowb (s.length : Int) 2, 0) := by
  unfold putN
  have p2 : ((256 ^ 2 : Nat) : Int) = 65536 := by decide
  rw [p2, if_neg (by omega)]
  rfl
theorem g18 (A : HP) (r : api_Rec) (c : Rc) (h : RcAt A r c) : Fp (eT2 eS eI) Tryz.prog 18 #[v_api_Rec r] [A] c.frame := fun L => by
  have hb := c.clean.body_le
  have F := g71 A (clr r) c.clean h.clr
  unfold Rc.frame
  generalize c.clean.body = x at *
  obtain ⟨s, e⟩ := x
  dsimp only at hb ⊢
  obtain ⟨kind, txn, prev, page, act, key, old, nw, next, im, tb, epoch, node⟩ := r
  have hl2 := lowb_len (s.length : Int) 2
  have hl4 := lowb_len (sm s) 4
  have P := f97 [] (s.length : Int) 2 (by decide) (by decide) (by decide)
  rw [put2 hb] at P
  have G := g72 ⟨kind, txn, prev, page, act, key, old, nw, next, im, tb, epoch, node⟩
  generalize clr ⟨kind, txn, prev, page, act, key, old, nw, next, im, tb, epoch, node⟩ = y at *
  refine c18_fn rfl rfl ?_
  by_cases he : e = 0
  · subst he
    rw [if_pos rfl]
    repeat' ((fail_if_success with_reducible refine nph ?_); first | (with_reducible first | (refine d_seq ?_; intro K hK) | (refine hK _ _ ?_; clear hK K) | refine d_blk ?_ | refine d_rt0 ?_ | refine d_sk0 ?_ | refine d_ex0 ?_ | (refine r_nwc ?_; intro b)) | (first | ((with_reducible refine d_cnd ?_); refine And.intro ?_ ?_) | with_reducible refine r_cnd ?_ ?_) <;> intro hc <;> try simp only [push_cast, Int.reduceEq, Int.reduceLT, Int.reduceLE, Int.reduceNe] at hc | with_reducible refine r_rq (by first | decide | omega) ?_ | ((with_reducible first | apply i_lds | apply i_ldsq | apply i_ld | apply i_ldq); exact rfl) | ((with_reducible first | apply i_ldn | apply i_ldnq); exact rfl; exact rfl; exact rfl) | (with_reducible first | refine r_ph0 ?_ | apply i_kp0) | ((with_reducible first | apply i_st | apply i_stl); (focus simp); exact rfl) | ((try with_reducible refine d_reg ?_); simp only [go_sem, Nat.reduceAdd, Nat.reduceEqDiff, Int.reduceToNat, Nat.reduceMul, Nat.reduceSub]) | clear hK K)
    refine i_ldn (e := e_api_Rec) (x := ⟨kind, txn, prev, page, act, key, old, nw, next, im, tb, epoch, node⟩) rfl rfl rfl ?_
    refine i_clp G ?_
    refine i_clp F ?_
    repeat' ((fail_if_success with_reducible refine nph ?_); first | (with_reducible first | (refine d_seq ?_; intro K hK) | (refine hK _ _ ?_; clear hK K) | refine d_blk ?_ | refine d_rt0 ?_ | refine d_sk0 ?_ | refine d_ex0 ?_ | (refine r_nwc ?_; intro b)) | (first | ((with_reducible refine d_cnd ?_); refine And.intro ?_ ?_) | with_reducible refine r_cnd ?_ ?_) <;> intro hc <;> try simp only [push_cast, Int.reduceEq, Int.reduceLT, Int.reduceLE, Int.reduceNe] at hc | with_reducible refine r_rq (by first | decide | omega) ?_ | ((with_reducible first | apply i_lds | apply i_ldsq | apply i_ld | apply i_ldq); exact rfl) | ((with_reducible first | apply i_ldn | apply i_ldnq); exact rfl; exact rfl; exact rfl) | (with_reducible first | refine r_ph0 ?_ | apply i_kp0) | ((with_reducible first | apply i_st | apply i_stl); (focus simp); exact rfl) | ((try with_reducible refine d_reg ?_); simp only [go_sem, Nat.reduceAdd, Nat.reduceEqDiff, Int.reduceToNat, Nat.reduceMul, Nat.reduceSub]) | clear hK K)
    all_goals try (first | contradiction | (simp only [ reduceCtorEq] at *; done) | (exfalso; omega))
    refine i_clp P ?_
    repeat' ((fail_if_success with_reducible refine nph ?_); first | (with_reducible first | (refine d_seq ?_; intro K hK) | (refine hK _ _ ?_; clear hK K) | refine d_blk ?_ | refine d_rt0 ?_ | refine d_sk0 ?_ | refine d_ex0 ?_ | (refine r_nwc ?_; intro b)) | (first | ((with_reducible refine d_cnd ?_); refine And.intro ?_ ?_) | with_reducible refine r_cnd ?_ ?_) <;> intro hc <;> try simp only [push_cast, Int.reduceEq, Int.reduceLT, Int.reduceLE, Int.reduceNe] at hc | with_reducible refine r_rq (by first | decide | omega) ?_ | ((with_reducible first | apply i_lds | apply i_ldsq | apply i_ld | apply i_ldq); exact rfl) | ((with_reducible first | apply i_ldn | apply i_ldnq); exact rfl; exact rfl; exact rfl) | (with_reducible first | refine r_ph0 ?_ | apply i_kp0) | ((with_reducible first | apply i_st | apply i_stl); (focus simp); exact rfl) | ((try with_reducible refine d_reg ?_); simp only [go_sem, Nat.reduceAdd, Nat.reduceEqDiff, Int.reduceToNat, Nat.reduceMul, Nat.reduceSub]) | clear hK K)
    refine i_clp (g74 s (by omega)) ?_
    refine r_rq (by rw [List.length_append]; omega) ?_
    repeat' ((fail_if_success with_reducible refine nph ?_); first | (with_reducible first | (refine d_seq ?_; intro K hK) | (refine hK _ _ ?_; clear hK K) | refine d_blk ?_ | refine d_rt0 ?_ | refine d_sk0 ?_ | refine d_ex0 ?_ | (refine r_nwc ?_; intro b)) | (first | ((with_reducible refine d_cnd ?_); refine And.intro ?_ ?_) | with_reducible refine r_cnd ?_ ?_) <;> intro hc <;> try simp only [push_cast, Int.reduceEq, Int.reduceLT, Int.reduceLE, Int.reduceNe] at hc | with_reducible refine r_rq (by first | decide | omega) ?_ | ((with_reducible first | apply i_lds | apply i_ldsq | apply i_ld | apply i_ldq); exact rfl) | ((with_reducible first | apply i_ldn | apply i_ldnq); exact rfl; exact rfl; exact rfl) | (with_reducible first | refine r_ph0 ?_ | apply i_kp0) | ((with_reducible first | apply i_st | apply i_stl); (focus simp); exact rfl) | ((try with_reducible refine d_reg ?_); simp only [go_sem, Nat.reduceAdd, Nat.reduceEqDiff, Int.reduceToNat, Nat.reduceMul, Nat.reduceSub]) | clear hK K)
    (with_reducible first | apply i_ret0 | apply i_ret2 | apply i_ret3 | apply i_ret); exact rfl
    rfl
  · rw [if_neg he]
    repeat' ((fail_if_success with_reducible refine nph ?_); first | (with_reducible first | (refine d_seq ?_; intro K hK) | (refine hK _ _ ?_; clear hK K) | refine d_blk ?_ | refine d_rt0 ?_ | refine d_sk0 ?_ | refine d_ex0 ?_ | (refine r_nwc ?_; intro b)) | (first | ((with_reducible refine d_cnd ?_); refine And.intro ?_ ?_) | with_reducible refine r_cnd ?_ ?_) <;> intro hc <;> try simp only [push_cast, Int.reduceEq, Int.reduceLT, Int.reduceLE, Int.reduceNe] at hc | with_reducible refine r_rq (by first | decide | omega) ?_ | ((with_reducible first | apply i_lds | apply i_ldsq | apply i_ld | apply i_ldq); exact rfl) | ((with_reducible first | apply i_ldn | apply i_ldnq); exact rfl; exact rfl; exact rfl) | (with_reducible first | refine r_ph0 ?_ | apply i_kp0) | ((with_reducible first | apply i_st | apply i_stl); (focus simp); exact rfl) | ((try with_reducible refine d_reg ?_); simp only [go_sem, Nat.reduceAdd, Nat.reduceEqDiff, Int.reduceToNat, Nat.reduceMul, Nat.reduceSub]) | clear hK K)
    refine i_ldn (e := e_api_Rec) (x := ⟨kind, txn, prev, page, act, key, old, nw, next, im, tb, epoch, node⟩) rfl rfl rfl ?_
    refine i_clp G ?_
    refine i_clp F ?_
    repeat' ((fail_if_success with_reducible refine nph ?_); first | (with_reducible first | (refine d_seq ?_; intro K hK) | (refine hK _ _ ?_; clear hK K) | refine d_blk ?_ | refine d_rt0 ?_ | refine d_sk0 ?_ | refine d_ex0 ?_ | (refine r_nwc ?_; intro b)) | (first | ((with_reducible refine d_cnd ?_); refine And.intro ?_ ?_) | with_reducible refine r_cnd ?_ ?_) <;> intro hc <;> try simp only [push_cast, Int.reduceEq, Int.reduceLT, Int.reduceLE, Int.reduceNe] at hc | with_reducible refine r_rq (by first | decide | omega) ?_ | ((with_reducible first | apply i_lds | apply i_ldsq | apply i_ld | apply i_ldq); exact rfl) | ((with_reducible first | apply i_ldn | apply i_ldnq); exact rfl; exact rfl; exact rfl) | (with_reducible first | refine r_ph0 ?_ | apply i_kp0) | ((with_reducible first | apply i_st | apply i_stl); (focus simp); exact rfl) | ((try with_reducible refine d_reg ?_); simp only [go_sem, Nat.reduceAdd, Nat.reduceEqDiff, Int.reduceToNat, Nat.reduceMul, Nat.reduceSub]) | clear hK K)
    all_goals try (first | contradiction | (simp only [ reduceCtorEq] at *; done) | (exfalso; omega))
    (with_reducible first | apply i_ret0 | apply i_ret2 | apply i_ret3 | apply i_ret); exact rfl
    rfl
end Go.Sp
