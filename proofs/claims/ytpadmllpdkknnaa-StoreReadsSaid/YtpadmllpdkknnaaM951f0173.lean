/- Texts of a proof, one behind the other: Gs0 Gz0 S1 S2 S3 S4 S5 Gxc0 D13. No condition. -/
import Derived.Test.YtpadmllpdkknnaaMbd412558
import Derived.Test.YtpadmllpdkknnaaMc0a85795
import Derived.Test.YtpadmllpdkknnaaM70022181
/- What each region of the Go functions does. Written by my own generator. -/
namespace Go.Sp
open Go
set_option maxRecDepth 100000
set_option linter.unusedVariables false
open Go.Proofs
/-! (*gharry.store.Store).Write -/
noncomputable def c46 : Cfg := { P := Try.prog, n := 62, T := TT, body := (Try.f46.body).getD .skip, res := Try.f46.results.toList, li := lk [] [(0, [0, 1, 2, 3]), (1, [0, 1, 2, 3]), (2, [0, 1, 2, 3, 9]), (3, [9]), (4, [0, 1, 2, 3]), (5, []), (6, [0, 1, 2, 3]), (7, [0, 1, 2, 10, 11]), (8, [11]), (9, [0, 1, 2, 10]), (10, [0, 1, 2, 10, 32]), (11, [0, 1, 2, 10, 32]), (12, [0, 1, 2, 10, 12, 32]), (13, [0, 1, 2, 10, 13, 32]), (14, [13]), (15, [0, 1, 2, 10, 32]), (16, [])], lo := lk [] [(0, [0, 1, 2, 3]), (1, [0, 1, 2, 3, 9]), (2, [0, 1, 2, 3, 9, 18]), (3, [8]), (4, [0, 1, 2, 3, 22]), (5, [8]), (6, [0, 1, 2, 10, 11]), (7, [0, 1, 2, 10, 11, 30]), (8, [8]), (9, [0, 1, 2, 10, 32]), (10, [0, 1, 2, 10, 32, 33]), (11, [0, 1, 2, 10, 12, 32]), (12, [0, 1, 2, 10, 13, 32]), (13, [0, 1, 2, 10, 13, 32, 59]), (14, [8]), (15, [0, 1, 2, 10, 32]), (16, [8]), (1000000, [8])], ord := lk (false, []) [(12, (true, [(0, 1), (1, 1), (2, 1), (3, 0), (4, 1), (5, 1), (6, 1), (7, 0), (8, 1), (9, 1), (10, 1), (11, 1), (12, 1), (13, 1), (14, 1), (15, 1), (16, 1), (17, 1), (18, 1), (19, 1), (20, 1), (21, 1), (22, 4), (23, 1)]))] }
@[go_sem] theorem c46_i0 : c46.li 0 = [0, 1, 2, 3] := rfl
@[go_sem] theorem c46_i1 : c46.li 1 = [0, 1, 2, 3] := rfl
@[go_sem] theorem c46_i2 : c46.li 2 = [0, 1, 2, 3, 9] := rfl
@[go_sem] theorem c46_i3 : c46.li 3 = [9] := rfl
@[go_sem] theorem c46_i4 : c46.li 4 = [0, 1, 2, 3] := rfl
@[go_sem] theorem c46_i5 : c46.li 5 = [] := rfl
@[go_sem] theorem c46_i6 : c46.li 6 = [0, 1, 2, 3] := rfl
@[go_sem] theorem c46_i7 : c46.li 7 = [0, 1, 2, 10, 11] := rfl
@[go_sem] theorem c46_i8 : c46.li 8 = [11] := rfl
@[go_sem] theorem c46_i9 : c46.li 9 = [0, 1, 2, 10] := rfl
@[go_sem] theorem c46_i10 : c46.li 10 = [0, 1, 2, 10, 32] := rfl
@[go_sem] theorem c46_i11 : c46.li 11 = [0, 1, 2, 10, 32] := rfl
@[go_sem] theorem c46_i12 : c46.li 12 = [0, 1, 2, 10, 12, 32] := rfl
@[go_sem] theorem c46_i13 : c46.li 13 = [0, 1, 2, 10, 13, 32] := rfl
@[go_sem] theorem c46_i14 : c46.li 14 = [13] := rfl
@[go_sem] theorem c46_i15 : c46.li 15 = [0, 1, 2, 10, 32] := rfl
@[go_sem] theorem c46_i16 : c46.li 16 = [] := rfl
@[go_sem] theorem c46_r0 (s0 : Option Addr) (id1 : Int) (text2 : List UInt8) (lsn3 : Int) (K : Env → W) : RP c46 0 [(0, .pointer s0), (1, .int .i64 id1), (2, str text2), (3, .int .i64 lsn3)] K =
    (K [(0, .pointer s0), (1, .int .i64 id1), (2, str text2), (3, .int .i64 lsn3)]) := by kernel_rfl
@[go_sem] theorem c46_r1 (s0 : Option Addr) (id1 : Int) (text2 : List UInt8) (lsn3 : Int) (K : Env → W) : RP c46 1 [(0, .pointer s0), (1, .int .i64 id1), (2, str text2), (3, .int .i64 lsn3)] K =
    (cal eI Try.prog 82 #[.pointer s0, .int .i64 id1] fun (y1_ : Int) => (K [(0, .pointer s0), (1, .int .i64 id1), (2, str text2), (3, .int .i64 lsn3), (9, .int .i64 y1_)])) := by kernel_rfl
@[go_sem] theorem c46_r2 (s0 : Option Addr) (id1 : Int) (text2 : List UInt8) (lsn3 : Int) (e9 : Int) (K : Env → W) : RP c46 2 [(0, .pointer s0), (1, .int .i64 id1), (2, str text2), (3, .int .i64 lsn3), (9, .int .i64 e9)] K =
    (K [(0, .pointer s0), (1, .int .i64 id1), (2, str text2), (3, .int .i64 lsn3), (9, .int .i64 e9), (18, .bool ((e9 != (0 : Int))))]) := by kernel_rfl
@[go_sem] theorem c46_r3 (e9 : Int) (K : Env → W) : RP c46 3 [(9, .int .i64 e9)] K =
    (K [(8, .int .i64 e9)]) := by kernel_rfl
@[go_sem] theorem c46_r4 (s0 : Option Addr) (id1 : Int) (text2 : List UInt8) (lsn3 : Int) (K : Env → W) : RP c46 4 [(0, .pointer s0), (1, .int .i64 id1), (2, str text2), (3, .int .i64 lsn3)] K =
    (K [(0, .pointer s0), (1, .int .i64 id1), (2, str text2), (3, .int .i64 lsn3), (22, .bool ((((text2).length : Int) != (224 : Int))))]) := by kernel_rfl
@[go_sem] theorem c46_r5 (K : Env → W) : RP c46 5 [] K =
    (K [(8, .int .i64 ((4 : Int)))]) := by kernel_rfl
@[go_sem] theorem c46_r6 (s0 : Option Addr) (id1 : Int) (text2 : List UInt8) (lsn3 : Int) (K : Env → W) : RP c46 6 [(0, .pointer s0), (1, .int .i64 id1), (2, str text2), (3, .int .i64 lsn3)] K =
    (cal (eT2 eS eI) Try.prog 83 #[.pointer s0, .int .i64 lsn3] fun (y1_ : ((List UInt8) × Int)) => (K [(0, .pointer s0), (1, .int .i64 id1), (2, str text2), (10, str y1_.1), (11, .int .i64 y1_.2)])) := by kernel_rfl
@[go_sem] theorem c46_r7 (s0 : Option Addr) (id1 : Int) (text2 : List UInt8) (m10 : List UInt8) (e11 : Int) (K : Env → W) : RP c46 7 [(0, .pointer s0), (1, .int .i64 id1), (2, str text2), (10, str m10), (11, .int .i64 e11)] K =
    (K [(0, .pointer s0), (1, .int .i64 id1), (2, str text2), (10, str m10), (11, .int .i64 e11), (30, .bool ((e11 != (0 : Int))))]) := by kernel_rfl
@[go_sem] theorem c46_r8 (e11 : Int) (K : Env → W) : RP c46 8 [(11, .int .i64 e11)] K =
    (K [(8, .int .i64 e11)]) := by kernel_rfl
@[go_sem] theorem c46_r9 (s0 : Option Addr) (id1 : Int) (text2 : List UInt8) (m10 : List UInt8) (K : Env → W) : RP c46 9 [(0, .pointer s0), (1, .int .i64 id1), (2, str text2), (10, str m10)] K =
    (K [(0, .pointer s0), (1, .int .i64 id1), (2, str text2), (10, str m10), (32, .int .i64 ((0 : Int)))]) := by kernel_rfl
@[go_sem] theorem c46_r10 (s0 : Option Addr) (id1 : Int) (text2 : List UInt8) (m10 : List UInt8) (t32 : Int) (K : Env → W) : RP c46 10 [(0, .pointer s0), (1, .int .i64 id1), (2, str text2), (10, str m10), (32, .int .i64 t32)] K =
    (K [(0, .pointer s0), (1, .int .i64 id1), (2, str text2), (10, str m10), (32, .int .i64 t32), (33, .bool ((decide (t32 < (4 : Int)))))]) := by kernel_rfl
@[go_sem] theorem c46_r11 (s0 : Option Addr) (id1 : Int) (text2 : List UInt8) (m10 : List UInt8) (t32 : Int) (K : Env → W) : RP c46 11 [(0, .pointer s0), (1, .int .i64 id1), (2, str text2), (10, str m10), (32, .int .i64 t32)] K =
    (K [(0, .pointer s0), (1, .int .i64 id1), (2, str text2), (10, str m10), (12, .int .i64 t32), (32, .int .i64 t32)]) := by kernel_rfl
@[go_sem] theorem c46_r12 (s0 : Option Addr) (id1 : Int) (text2 : List UInt8) (m10 : List UInt8) (i12 : Int) (t32 : Int) (K : Env → W) : RP c46 12 [(0, .pointer s0), (1, .int .i64 id1), (2, str text2), (10, str m10), (12, .int .i64 i12), (32, .int .i64 t32)] K =
    (ph fun S0 => (nn s0 fun y1_ => (ldq S0 eP y1_ fun (y2_ : Option Addr) => (nn s0 fun y3_ => (ldq S0 eI ((y3_.add 1)) fun (y4_ : Int) => (rq (0 ≤ ((IntKind.wrap .i64 (i12 * (56 : Int))) : Int) ∧ (IntKind.wrap .i64 (i12 * (56 : Int))) ≤ (IntKind.wrap .i64 ((IntKind.wrap .i64 (i12 + (1 : Int))) * (56 : Int))) ∧ (IntKind.wrap .i64 ((IntKind.wrap .i64 (i12 + (1 : Int))) * (56 : Int))) ≤ ((text2).length : Int)) (rq (((m10).length : Int) + (((ss text2 ((IntKind.wrap .i64 (i12 * (56 : Int)))) ((IntKind.wrap .i64 ((IntKind.wrap .i64 (i12 + (1 : Int))) * (56 : Int)))))).length : Int) ≤ 9223372036854775807) (cal eI Try.prog 27 #[.pointer y2_, .int .i64 ((IntKind.wrap .i64 ((IntKind.wrap .i64 (y4_ + (IntKind.wrap .i64 ((4 : Int) * id1)))) + i12))), str ((m10 ++ (ss text2 ((IntKind.wrap .i64 (i12 * (56 : Int)))) ((IntKind.wrap .i64 ((IntKind.wrap .i64 (i12 + (1 : Int))) * (56 : Int)))))))] fun (y5_ : Int) => (K [(0, .pointer s0), (1, .int .i64 id1), (2, str text2), (10, str m10), (13, .int .i64 y5_), (32, .int .i64 t32)]))))))))) := by kernel_rfl
@[go_sem] theorem c46_r13 (s0 : Option Addr) (id1 : Int) (text2 : List UInt8) (m10 : List UInt8) (e13 : Int) (t32 : Int) (K : Env → W) : RP c46 13 [(0, .pointer s0), (1, .int .i64 id1), (2, str text2), (10, str m10), (13, .int .i64 e13), (32, .int .i64 t32)] K =
    (K [(0, .pointer s0), (1, .int .i64 id1), (2, str text2), (10, str m10), (13, .int .i64 e13), (32, .int .i64 t32), (59, .bool ((e13 != (0 : Int))))]) := by kernel_rfl
@[go_sem] theorem c46_r14 (e13 : Int) (K : Env → W) : RP c46 14 [(13, .int .i64 e13)] K =
    (K [(8, .int .i64 e13)]) := by kernel_rfl
@[go_sem] theorem c46_r15 (s0 : Option Addr) (id1 : Int) (text2 : List UInt8) (m10 : List UInt8) (t32 : Int) (K : Env → W) : RP c46 15 [(0, .pointer s0), (1, .int .i64 id1), (2, str text2), (10, str m10), (32, .int .i64 t32)] K =
    (K [(0, .pointer s0), (1, .int .i64 id1), (2, str text2), (10, str m10), (32, .int .i64 ((IntKind.wrap .i64 (t32 + (1 : Int)))))]) := by kernel_rfl
@[go_sem] theorem c46_r16 (K : Env → W) : RP c46 16 [] K =
    (K [(8, .int .i64 ((0 : Int)))]) := by kernel_rfl
@[go_sem] theorem c46_o : c46.lo 1000000 = [8] := rfl
@[go_sem] theorem c46_e (t8 : Int) (k : Value → W) : RTp c46 [(8, .int .i64 t8)] k = (k (.int .i64 t8)) := by kernel_rfl
theorem c46_ok : (c46.P.follows .mixedOrders && okc c46 c46.body) = true := by kernel_rfl
theorem c46_fn {e : Enc} {args : Array Value} {G : e.α → W} {L : List HP} {ρ : Env} (hρ : envA 0 args.toList = ρ) (hs : Nat.ble args.size 62 = true) (h : E L (D c46 (.seq (.reg 0) (.seq (.seq (.reg 1) (.seq (.reg 2) (.cond (.tmp 18) (.seq (.reg 3) (.ret)) (.skip)))) (.seq (.seq (.reg 4) (.cond (.tmp 22) (.seq (.reg 5) (.ret)) (.skip))) (.seq (.reg 6) (.seq (.seq (.reg 7) (.cond (.tmp 30) (.seq (.reg 8) (.ret)) (.skip))) (.seq (.seq (.reg 9) (.block 0 (.loop (.seq (.reg 10) (.seq (.cond (.tmp 33) (.skip) (.exit 0)) (.seq (.block 1 (.seq (.reg 11) (.seq (.reg 12) (.seq (.reg 13) (.cond (.tmp 59) (.seq (.reg 14) (.ret)) (.skip)))))) (.reg 15))))))) (.seq (.reg 16) (.ret)))))))) (fnQ c46 e G) ρ)) : E L (cal e Try.prog 46 args G) :=
  d_fn (c := c46) Try.func46 (by kernel_rfl) (by kernel_rfl) (by kernel_rfl) c46_ok (by kernel_rfl) (by kernel_rfl) hρ hs h
-- loop (first region 10): live slots 0:s0 1:id1 2:text2 10:m10 32:t32, of which it writes [32]
/-! (*gharry.store.Store).Sync -/
noncomputable def c48 : Cfg := { P := Try.prog, n := 17, T := TT, body := (Try.f48.body).getD .skip, res := Try.f48.results.toList, li := lk [] [(0, [0]), (1, [0]), (2, []), (3, [0])], lo := lk [] [(0, [0]), (1, [0, 11]), (2, [2]), (3, [2]), (1000000, [2])], ord := lk (false, []) [] }
@[go_sem] theorem c48_i0 : c48.li 0 = [0] := rfl
@[go_sem] theorem c48_i1 : c48.li 1 = [0] := rfl
@[go_sem] theorem c48_i2 : c48.li 2 = [] := rfl
@[go_sem] theorem c48_i3 : c48.li 3 = [0] := rfl
@[go_sem] theorem c48_r0 (s0 : Option Addr) (K : Env → W) : RP c48 0 [(0, .pointer s0)] K =
    (K [(0, .pointer s0)]) := by kernel_rfl
@[go_sem] theorem c48_r1 (s0 : Option Addr) (K : Env → W) : RP c48 1 [(0, .pointer s0)] K =
    (cnd ((s0).isNone) (K [(0, .pointer s0), (11, .bool true)]) (nn s0 fun y1_ => (ld eP y1_ fun (y2_ : Option Addr) => (K [(0, .pointer s0), (11, .bool ((y2_).isNone))])))) := by kernel_rfl
@[go_sem] theorem c48_r2 (K : Env → W) : RP c48 2 [] K =
    (K [(2, .int .i64 ((11 : Int)))]) := by kernel_rfl
@[go_sem] theorem c48_r3 (s0 : Option Addr) (K : Env → W) : RP c48 3 [(0, .pointer s0)] K =
    (nn s0 fun y1_ => (ld eP y1_ fun (y2_ : Option Addr) => (cal eI Try.prog 28 #[.pointer y2_] fun (y3_ : Int) => (K [(2, .int .i64 y3_)])))) := by kernel_rfl
@[go_sem] theorem c48_o : c48.lo 1000000 = [2] := rfl
@[go_sem] theorem c48_e (t2 : Int) (k : Value → W) : RTp c48 [(2, .int .i64 t2)] k = (k (.int .i64 t2)) := by kernel_rfl
theorem c48_ok : (c48.P.follows .mixedOrders && okc c48 c48.body) = true := by kernel_rfl
theorem c48_fn {e : Enc} {args : Array Value} {G : e.α → W} {L : List HP} {ρ : Env} (hρ : envA 0 args.toList = ρ) (hs : Nat.ble args.size 17 = true) (h : E L (D c48 (.seq (.reg 0) (.seq (.seq (.reg 1) (.cond (.tmp 11) (.seq (.reg 2) (.ret)) (.skip))) (.seq (.reg 3) (.ret)))) (fnQ c48 e G) ρ)) : E L (cal e Try.prog 48 args G) :=
  d_fn (c := c48) Try.func48 (by kernel_rfl) (by kernel_rfl) (by kernel_rfl) c48_ok (by kernel_rfl) (by kernel_rfl) hρ hs h
/-! (*gharry.store.Store).Read -/
noncomputable def c49 : Cfg := { P := Try.prog, n := 87, T := TT, body := (Try.f49.body).getD .skip, res := Try.f49.results.toList, li := lk [] [(0, [0, 1]), (1, [0, 1]), (2, [0, 1, 7]), (3, [7]), (4, [0, 1]), (5, [0, 1, 8, 9]), (6, [0, 1, 8, 9, 10, 11]), (7, [0, 1, 8, 9, 10, 11, 23]), (8, [0, 1, 8, 9, 10, 11, 23]), (9, [0, 1, 8, 9, 10, 11, 12, 23]), (10, [0, 1, 8, 9, 10, 11, 12, 13, 14, 23]), (11, [14]), (12, [0, 1, 8, 9, 10, 11, 12, 13, 23]), (13, [0, 1, 8, 10, 11, 13, 23]), (14, [0, 1, 8, 9, 10, 11, 13, 23]), (15, [0, 1, 8, 9, 10, 11, 13, 15, 23]), (16, [0, 1, 8, 9, 10, 11, 13, 23]), (17, [0, 1, 8, 9, 10, 11, 13, 23]), (18, [0, 1, 8, 9, 10, 11, 23]), (19, [8, 9, 10, 11]), (20, []), (21, [8, 9, 11]), (22, []), (23, [8, 9]), (24, [8, 16]), (25, [8, 16])], lo := lk [] [(0, [0, 1]), (1, [0, 1, 7]), (2, [0, 1, 7, 21]), (3, [4, 5, 6]), (4, [0, 1, 8, 9]), (5, [0, 1, 8, 9, 10, 11]), (6, [0, 1, 8, 9, 10, 11, 23]), (7, [0, 1, 8, 9, 10, 11, 23, 24]), (8, [0, 1, 8, 9, 10, 11, 12, 23]), (9, [0, 1, 8, 9, 10, 11, 12, 13, 14, 23]), (10, [0, 1, 8, 9, 10, 11, 12, 13, 14, 23, 44]), (11, [4, 5, 6]), (12, [0, 1, 8, 9, 10, 11, 13, 23, 47]), (13, [0, 1, 8, 9, 10, 11, 13, 23]), (14, [0, 1, 8, 9, 10, 11, 13, 15, 23]), (15, [0, 1, 8, 9, 10, 11, 13, 23]), (16, [0, 1, 8, 9, 10, 11, 13, 23]), (17, [0, 1, 8, 9, 10, 11, 23]), (18, [0, 1, 8, 9, 10, 11, 23]), (19, [8, 9, 11, 74]), (20, [4, 5, 6]), (21, [8, 9, 77]), (22, [4, 5, 6]), (23, [8, 16]), (24, [8, 16]), (25, [4, 5, 6]), (1000000, [4, 5, 6])], ord := lk (false, []) [(9, (true, [(0, 1), (1, 1), (2, 1), (3, 0), (4, 1), (5, 1), (6, 1), (7, 0), (8, 1), (9, 1), (10, 1), (11, 1), (12, 1), (13, 4), (14, 1), (15, 1), (16, 1), (17, 1), (18, 1)])), (15, (true, [(0, 1), (1, 1), (2, 1), (4, 1), (5, 1), (6, 1), (7, 0), (3, 2), (8, 1), (9, 1), (10, 1)]))] }
@[go_sem] theorem c49_i0 : c49.li 0 = [0, 1] := rfl
@[go_sem] theorem c49_i1 : c49.li 1 = [0, 1] := rfl
@[go_sem] theorem c49_i2 : c49.li 2 = [0, 1, 7] := rfl
@[go_sem] theorem c49_i3 : c49.li 3 = [7] := rfl
@[go_sem] theorem c49_i4 : c49.li 4 = [0, 1] := rfl
@[go_sem] theorem c49_i5 : c49.li 5 = [0, 1, 8, 9] := rfl
@[go_sem] theorem c49_i6 : c49.li 6 = [0, 1, 8, 9, 10, 11] := rfl
@[go_sem] theorem c49_i7 : c49.li 7 = [0, 1, 8, 9, 10, 11, 23] := rfl
@[go_sem] theorem c49_i8 : c49.li 8 = [0, 1, 8, 9, 10, 11, 23] := rfl
@[go_sem] theorem c49_i9 : c49.li 9 = [0, 1, 8, 9, 10, 11, 12, 23] := rfl
@[go_sem] theorem c49_i10 : c49.li 10 = [0, 1, 8, 9, 10, 11, 12, 13, 14, 23] := rfl
@[go_sem] theorem c49_i11 : c49.li 11 = [14] := rfl
@[go_sem] theorem c49_i12 : c49.li 12 = [0, 1, 8, 9, 10, 11, 12, 13, 23] := rfl
@[go_sem] theorem c49_i13 : c49.li 13 = [0, 1, 8, 10, 11, 13, 23] := rfl
@[go_sem] theorem c49_i14 : c49.li 14 = [0, 1, 8, 9, 10, 11, 13, 23] := rfl
@[go_sem] theorem c49_i15 : c49.li 15 = [0, 1, 8, 9, 10, 11, 13, 15, 23] := rfl
@[go_sem] theorem c49_i16 : c49.li 16 = [0, 1, 8, 9, 10, 11, 13, 23] := rfl
@[go_sem] theorem c49_i17 : c49.li 17 = [0, 1, 8, 9, 10, 11, 13, 23] := rfl
@[go_sem] theorem c49_i18 : c49.li 18 = [0, 1, 8, 9, 10, 11, 23] := rfl
@[go_sem] theorem c49_i19 : c49.li 19 = [8, 9, 10, 11] := rfl
@[go_sem] theorem c49_i20 : c49.li 20 = [] := rfl
@[go_sem] theorem c49_i21 : c49.li 21 = [8, 9, 11] := rfl
@[go_sem] theorem c49_i22 : c49.li 22 = [] := rfl
@[go_sem] theorem c49_i23 : c49.li 23 = [8, 9] := rfl
@[go_sem] theorem c49_i24 : c49.li 24 = [8, 16] := rfl
@[go_sem] theorem c49_i25 : c49.li 25 = [8, 16] := rfl
@[go_sem] theorem c49_r0 (s0 : Option Addr) (id1 : Int) (K : Env → W) : RP c49 0 [(0, .pointer s0), (1, .int .i64 id1)] K =
    (K [(0, .pointer s0), (1, .int .i64 id1)]) := by kernel_rfl
@[go_sem] theorem c49_r1 (s0 : Option Addr) (id1 : Int) (K : Env → W) : RP c49 1 [(0, .pointer s0), (1, .int .i64 id1)] K =
    (cal eI Try.prog 82 #[.pointer s0, .int .i64 id1] fun (y1_ : Int) => (K [(0, .pointer s0), (1, .int .i64 id1), (7, .int .i64 y1_)])) := by kernel_rfl
@[go_sem] theorem c49_r2 (s0 : Option Addr) (id1 : Int) (e7 : Int) (K : Env → W) : RP c49 2 [(0, .pointer s0), (1, .int .i64 id1), (7, .int .i64 e7)] K =
    (K [(0, .pointer s0), (1, .int .i64 id1), (7, .int .i64 e7), (21, .bool ((e7 != (0 : Int))))]) := by kernel_rfl
@[go_sem] theorem c49_r3 (e7 : Int) (K : Env → W) : RP c49 3 [(7, .int .i64 e7)] K =
    (K [(4, str (([] : List UInt8))), (5, .int .i64 ((0 : Int))), (6, .int .i64 e7)]) := by kernel_rfl
@[go_sem] theorem c49_r4 (s0 : Option Addr) (id1 : Int) (K : Env → W) : RP c49 4 [(0, .pointer s0), (1, .int .i64 id1)] K =
    (K [(0, .pointer s0), (1, .int .i64 id1), (8, str (([] : List UInt8))), (9, str (([] : List UInt8)))]) := by kernel_rfl
@[go_sem] theorem c49_r5 (s0 : Option Addr) (id1 : Int) (text8 : List UInt8) (first9 : List UInt8) (K : Env → W) : RP c49 5 [(0, .pointer s0), (1, .int .i64 id1), (8, str text8), (9, str first9)] K =
    (K [(0, .pointer s0), (1, .int .i64 id1), (8, str text8), (9, str first9), (10, .bool false), (11, .bool true)]) := by kernel_rfl
@[go_sem] theorem c49_r6 (s0 : Option Addr) (id1 : Int) (text8 : List UInt8) (first9 : List UInt8) (some10 : Bool) (whole11 : Bool) (K : Env → W) : RP c49 6 [(0, .pointer s0), (1, .int .i64 id1), (8, str text8), (9, str first9), (10, .bool some10), (11, .bool whole11)] K =
    (K [(0, .pointer s0), (1, .int .i64 id1), (8, str text8), (9, str first9), (10, .bool some10), (11, .bool whole11), (23, .int .i64 ((0 : Int)))]) := by kernel_rfl
@[go_sem] theorem c49_r7 (s0 : Option Addr) (id1 : Int) (text8 : List UInt8) (first9 : List UInt8) (some10 : Bool) (whole11 : Bool) (t23 : Int) (K : Env → W) : RP c49 7 [(0, .pointer s0), (1, .int .i64 id1), (8, str text8), (9, str first9), (10, .bool some10), (11, .bool whole11), (23, .int .i64 t23)] K =
    (K [(0, .pointer s0), (1, .int .i64 id1), (8, str text8), (9, str first9), (10, .bool some10), (11, .bool whole11), (23, .int .i64 t23), (24, .bool ((decide (t23 < (4 : Int)))))]) := by kernel_rfl
@[go_sem] theorem c49_r8 (s0 : Option Addr) (id1 : Int) (text8 : List UInt8) (first9 : List UInt8) (some10 : Bool) (whole11 : Bool) (t23 : Int) (K : Env → W) : RP c49 8 [(0, .pointer s0), (1, .int .i64 id1), (8, str text8), (9, str first9), (10, .bool some10), (11, .bool whole11), (23, .int .i64 t23)] K =
    (K [(0, .pointer s0), (1, .int .i64 id1), (8, str text8), (9, str first9), (10, .bool some10), (11, .bool whole11), (12, .int .i64 t23), (23, .int .i64 t23)]) := by kernel_rfl
@[go_sem] theorem c49_r9 (s0 : Option Addr) (id1 : Int) (text8 : List UInt8) (first9 : List UInt8) (some10 : Bool) (whole11 : Bool) (i12 : Int) (t23 : Int) (K : Env → W) : RP c49 9 [(0, .pointer s0), (1, .int .i64 id1), (8, str text8), (9, str first9), (10, .bool some10), (11, .bool whole11), (12, .int .i64 i12), (23, .int .i64 t23)] K =
    (ph fun S0 => (nn s0 fun y1_ => (ldq S0 eP y1_ fun (y2_ : Option Addr) => (nn s0 fun y3_ => (ldq S0 eI ((y3_.add 1)) fun (y4_ : Int) => (cal (eT2 eS eI) Try.prog 31 #[.pointer y2_, .int .i64 ((IntKind.wrap .i64 ((IntKind.wrap .i64 (y4_ + (IntKind.wrap .i64 ((4 : Int) * id1)))) + i12)))] fun (y5_ : ((List UInt8) × Int)) => (K [(0, .pointer s0), (1, .int .i64 id1), (8, str text8), (9, str first9), (10, .bool some10), (11, .bool whole11), (12, .int .i64 i12), (13, str y5_.1), (14, .int .i64 y5_.2), (23, .int .i64 t23)]))))))) := by kernel_rfl
@[go_sem] theorem c49_r10 (s0 : Option Addr) (id1 : Int) (text8 : List UInt8) (first9 : List UInt8) (some10 : Bool) (whole11 : Bool) (i12 : Int) (b13 : List UInt8) (e14 : Int) (t23 : Int) (K : Env → W) : RP c49 10 [(0, .pointer s0), (1, .int .i64 id1), (8, str text8), (9, str first9), (10, .bool some10), (11, .bool whole11), (12, .int .i64 i12), (13, str b13), (14, .int .i64 e14), (23, .int .i64 t23)] K =
    (K [(0, .pointer s0), (1, .int .i64 id1), (8, str text8), (9, str first9), (10, .bool some10), (11, .bool whole11), (12, .int .i64 i12), (13, str b13), (14, .int .i64 e14), (23, .int .i64 t23), (44, .bool ((e14 != (0 : Int))))]) := by kernel_rfl
@[go_sem] theorem c49_r11 (e14 : Int) (K : Env → W) : RP c49 11 [(14, .int .i64 e14)] K =
    (K [(4, str (([] : List UInt8))), (5, .int .i64 ((0 : Int))), (6, .int .i64 e14)]) := by kernel_rfl
@[go_sem] theorem c49_r12 (s0 : Option Addr) (id1 : Int) (text8 : List UInt8) (first9 : List UInt8) (some10 : Bool) (whole11 : Bool) (i12 : Int) (b13 : List UInt8) (t23 : Int) (K : Env → W) : RP c49 12 [(0, .pointer s0), (1, .int .i64 id1), (8, str text8), (9, str first9), (10, .bool some10), (11, .bool whole11), (12, .int .i64 i12), (13, str b13), (23, .int .i64 t23)] K =
    (K [(0, .pointer s0), (1, .int .i64 id1), (8, str text8), (9, str first9), (10, .bool some10), (11, .bool whole11), (13, str b13), (23, .int .i64 t23), (47, .bool ((i12 == (0 : Int))))]) := by kernel_rfl
@[go_sem] theorem c49_r13 (s0 : Option Addr) (id1 : Int) (text8 : List UInt8) (some10 : Bool) (whole11 : Bool) (b13 : List UInt8) (t23 : Int) (K : Env → W) : RP c49 13 [(0, .pointer s0), (1, .int .i64 id1), (8, str text8), (10, .bool some10), (11, .bool whole11), (13, str b13), (23, .int .i64 t23)] K =
    (rq (0 ≤ (0 : Int) ∧ 0 ≤ (8 : Int) ∧ (8 : Int) ≤ ((b13).length : Int)) (K [(0, .pointer s0), (1, .int .i64 id1), (8, str text8), (9, str ((ss b13 0 ((8 : Int))))), (10, .bool some10), (11, .bool whole11), (13, str b13), (23, .int .i64 t23)])) := by kernel_rfl
@[go_sem] theorem c49_r14 (s0 : Option Addr) (id1 : Int) (text8 : List UInt8) (first9 : List UInt8) (some10 : Bool) (whole11 : Bool) (b13 : List UInt8) (t23 : Int) (K : Env → W) : RP c49 14 [(0, .pointer s0), (1, .int .i64 id1), (8, str text8), (9, str first9), (10, .bool some10), (11, .bool whole11), (13, str b13), (23, .int .i64 t23)] K =
    (cal eP Try.prog 72 #[str b13] fun (y1_ : Option Addr) => (K [(0, .pointer s0), (1, .int .i64 id1), (8, str text8), (9, str first9), (10, .bool some10), (11, .bool whole11), (13, str b13), (15, .pointer y1_), (23, .int .i64 t23)])) := by kernel_rfl
@[go_sem] theorem c49_r15 (s0 : Option Addr) (id1 : Int) (text8 : List UInt8) (first9 : List UInt8) (some10 : Bool) (whole11 : Bool) (b13 : List UInt8) (r15 : Option Addr) (t23 : Int) (K : Env → W) : RP c49 15 [(0, .pointer s0), (1, .int .i64 id1), (8, str text8), (9, str first9), (10, .bool some10), (11, .bool whole11), (13, str b13), (15, .pointer r15), (23, .int .i64 t23)] K =
    (ph fun S0 => (cnd some10 (kpn S0 fun S1 => (K [(0, .pointer s0), (1, .int .i64 id1), (8, str text8), (9, str first9), (10, .bool true), (11, .bool whole11), (13, str b13), (23, .int .i64 t23)])) (nn s0 fun y1_ => (ldq S0 eI ((y1_.add 3)) fun (y2_ : Int) => (cal eI Try.prog 75 #[.pointer r15, .int .i64 ((2 : Int))] fun (y3_ : Int) => (kpn S0 fun S2 => (K [(0, .pointer s0), (1, .int .i64 id1), (8, str text8), (9, str first9), (10, .bool ((y3_ == y2_))), (11, .bool whole11), (13, str b13), (23, .int .i64 t23)]))))))) := by kernel_rfl
@[go_sem] theorem c49_r16 (s0 : Option Addr) (id1 : Int) (text8 : List UInt8) (first9 : List UInt8) (some10 : Bool) (whole11 : Bool) (b13 : List UInt8) (t23 : Int) (K : Env → W) : RP c49 16 [(0, .pointer s0), (1, .int .i64 id1), (8, str text8), (9, str first9), (10, .bool some10), (11, .bool whole11), (13, str b13), (23, .int .i64 t23)] K =
    (cnd whole11 (rq (0 ≤ (0 : Int) ∧ 0 ≤ (8 : Int) ∧ (8 : Int) ≤ ((b13).length : Int)) (K [(0, .pointer s0), (1, .int .i64 id1), (8, str text8), (9, str first9), (10, .bool some10), (11, .bool (((ss b13 0 ((8 : Int))) == first9))), (13, str b13), (23, .int .i64 t23)])) (K [(0, .pointer s0), (1, .int .i64 id1), (8, str text8), (9, str first9), (10, .bool some10), (11, .bool false), (13, str b13), (23, .int .i64 t23)])) := by kernel_rfl
@[go_sem] theorem c49_r17 (s0 : Option Addr) (id1 : Int) (text8 : List UInt8) (first9 : List UInt8) (some10 : Bool) (whole11 : Bool) (b13 : List UInt8) (t23 : Int) (K : Env → W) : RP c49 17 [(0, .pointer s0), (1, .int .i64 id1), (8, str text8), (9, str first9), (10, .bool some10), (11, .bool whole11), (13, str b13), (23, .int .i64 t23)] K =
    (rq (0 ≤ ((8 : Int) : Int) ∧ (8 : Int) ≤ ((b13).length : Int) ∧ ((b13).length : Int) ≤ ((b13).length : Int)) (rq (((text8).length : Int) + (((ss b13 ((8 : Int)) (((b13).length : Int)))).length : Int) ≤ 9223372036854775807) (K [(0, .pointer s0), (1, .int .i64 id1), (8, str ((text8 ++ (ss b13 ((8 : Int)) (((b13).length : Int)))))), (9, str first9), (10, .bool some10), (11, .bool whole11), (23, .int .i64 t23)]))) := by kernel_rfl
@[go_sem] theorem c49_r18 (s0 : Option Addr) (id1 : Int) (text8 : List UInt8) (first9 : List UInt8) (some10 : Bool) (whole11 : Bool) (t23 : Int) (K : Env → W) : RP c49 18 [(0, .pointer s0), (1, .int .i64 id1), (8, str text8), (9, str first9), (10, .bool some10), (11, .bool whole11), (23, .int .i64 t23)] K =
    (K [(0, .pointer s0), (1, .int .i64 id1), (8, str text8), (9, str first9), (10, .bool some10), (11, .bool whole11), (23, .int .i64 ((IntKind.wrap .i64 (t23 + (1 : Int)))))]) := by kernel_rfl
@[go_sem] theorem c49_r19 (text8 : List UInt8) (first9 : List UInt8) (some10 : Bool) (whole11 : Bool) (K : Env → W) : RP c49 19 [(8, str text8), (9, str first9), (10, .bool some10), (11, .bool whole11)] K =
    (K [(8, str text8), (9, str first9), (11, .bool whole11), (74, .bool ((!some10)))]) := by kernel_rfl
@[go_sem] theorem c49_r20 (K : Env → W) : RP c49 20 [] K =
    (K [(4, str (([] : List UInt8))), (5, .int .i64 ((0 : Int))), (6, .int .i64 ((8 : Int)))]) := by kernel_rfl
@[go_sem] theorem c49_r21 (text8 : List UInt8) (first9 : List UInt8) (whole11 : Bool) (K : Env → W) : RP c49 21 [(8, str text8), (9, str first9), (11, .bool whole11)] K =
    (K [(8, str text8), (9, str first9), (77, .bool ((!whole11)))]) := by kernel_rfl
@[go_sem] theorem c49_r22 (K : Env → W) : RP c49 22 [] K =
    (K [(4, str (([] : List UInt8))), (5, .int .i64 ((0 : Int))), (6, .int .i64 ((10 : Int)))]) := by kernel_rfl
@[go_sem] theorem c49_r23 (text8 : List UInt8) (first9 : List UInt8) (K : Env → W) : RP c49 23 [(8, str text8), (9, str first9)] K =
    (cal eP Try.prog 72 #[str first9] fun (y1_ : Option Addr) => (K [(8, str text8), (16, .pointer y1_)])) := by kernel_rfl
@[go_sem] theorem c49_r24 (text8 : List UInt8) (r16 : Option Addr) (K : Env → W) : RP c49 24 [(8, str text8), (16, .pointer r16)] K =
    (cal eI Try.prog 75 #[.pointer r16, .int .i64 ((2 : Int))] fun (y1_ : Int) => (K [(8, str text8), (16, .pointer r16)])) := by kernel_rfl
@[go_sem] theorem c49_r25 (text8 : List UInt8) (r16 : Option Addr) (K : Env → W) : RP c49 25 [(8, str text8), (16, .pointer r16)] K =
    (cal eI Try.prog 75 #[.pointer r16, .int .i64 ((6 : Int))] fun (y1_ : Int) => (K [(4, str text8), (5, .int .i64 y1_), (6, .int .i64 ((0 : Int)))])) := by kernel_rfl
@[go_sem] theorem c49_o : c49.lo 1000000 = [4, 5, 6] := rfl
@[go_sem] theorem c49_e (t4 : List UInt8) (t5 : Int) (t6 : Int) (k : Value → W) : RTp c49 [(4, str t4), (5, .int .i64 t5), (6, .int .i64 t6)] k = (k (.tuple #[str t4, .int .i64 t5, .int .i64 t6])) := by kernel_rfl
theorem c49_ok : (c49.P.follows .mixedOrders && okc c49 c49.body) = true := by kernel_rfl
theorem c49_fn {e : Enc} {args : Array Value} {G : e.α → W} {L : List HP} {ρ : Env} (hρ : envA 0 args.toList = ρ) (hs : Nat.ble args.size 87 = true) (h : E L (D c49 (.seq (.reg 0) (.seq (.seq (.reg 1) (.seq (.reg 2) (.cond (.tmp 21) (.seq (.reg 3) (.ret)) (.skip)))) (.seq (.reg 4) (.seq (.reg 5) (.seq (.seq (.reg 6) (.block 0 (.loop (.seq (.reg 7) (.seq (.cond (.tmp 24) (.skip) (.exit 0)) (.seq (.block 1 (.seq (.reg 8) (.seq (.reg 9) (.seq (.seq (.reg 10) (.cond (.tmp 44) (.seq (.reg 11) (.ret)) (.skip))) (.seq (.seq (.reg 12) (.cond (.tmp 47) (.reg 13) (.skip))) (.seq (.reg 14) (.seq (.reg 15) (.seq (.reg 16) (.reg 17))))))))) (.reg 18))))))) (.seq (.block 2 (.seq (.reg 19) (.cond (.tmp 74) (.seq (.reg 20) (.ret)) (.seq (.reg 21) (.cond (.tmp 77) (.seq (.reg 22) (.ret)) (.skip)))))) (.seq (.reg 23) (.seq (.reg 24) (.seq (.reg 25) (.ret)))))))))) (fnQ c49 e G) ρ)) : E L (cal e Try.prog 49 args G) :=
  d_fn (c := c49) Try.func49 (by kernel_rfl) (by kernel_rfl) (by kernel_rfl) c49_ok (by kernel_rfl) (by kernel_rfl) hρ hs h
-- loop (first region 7): live slots 0:s0 1:id1 8:text8 9:first9 10:some10 11:whole11 23:t23, of which it writes [8, 9, 10, 11, 23]
/-! gharry.store.New -/
noncomputable def c51 : Cfg := { P := Try.prog, n := 53, T := TT, body := (Try.f51.body).getD .skip, res := Try.f51.results.toList, li := lk [] [(0, [0, 1, 2, 3]), (1, [0, 1, 2, 3]), (2, []), (3, [0, 1, 2, 3]), (4, []), (5, [0, 1, 2, 3])], lo := lk [] [(0, [0, 1, 2, 3]), (1, [0, 1, 2, 3, 10]), (2, [8, 9]), (3, [0, 1, 2, 3, 33]), (4, [8, 9]), (5, [8, 9]), (1000000, [8, 9])], ord := lk (false, []) [] }
@[go_sem] theorem c51_i0 : c51.li 0 = [0, 1, 2, 3] := rfl
@[go_sem] theorem c51_i1 : c51.li 1 = [0, 1, 2, 3] := rfl
@[go_sem] theorem c51_i2 : c51.li 2 = [] := rfl
@[go_sem] theorem c51_i3 : c51.li 3 = [0, 1, 2, 3] := rfl
@[go_sem] theorem c51_i4 : c51.li 4 = [] := rfl
@[go_sem] theorem c51_i5 : c51.li 5 = [0, 1, 2, 3] := rfl
@[go_sem] theorem c51_r0 (d0 : Option Addr) (base1 : Int) (pages2 : Int) (gen3 : Int) (K : Env → W) : RP c51 0 [(0, .pointer d0), (1, .int .i64 base1), (2, .int .i64 pages2), (3, .int .i64 gen3)] K =
    (K [(0, .pointer d0), (1, .int .i64 base1), (2, .int .i64 pages2), (3, .int .i64 gen3)]) := by kernel_rfl
@[go_sem] theorem c51_r1 (d0 : Option Addr) (base1 : Int) (pages2 : Int) (gen3 : Int) (K : Env → W) : RP c51 1 [(0, .pointer d0), (1, .int .i64 base1), (2, .int .i64 pages2), (3, .int .i64 gen3)] K =
    (cnd ((d0).isNone) (K [(0, .pointer d0), (1, .int .i64 base1), (2, .int .i64 pages2), (3, .int .i64 gen3), (10, .bool true)]) (cnd ((decide (gen3 < (1 : Int)))) (K [(0, .pointer d0), (1, .int .i64 base1), (2, .int .i64 pages2), (3, .int .i64 gen3), (10, .bool true)]) (cnd ((decide ((65536 : Int) ≤ gen3))) (K [(0, .pointer d0), (1, .int .i64 base1), (2, .int .i64 pages2), (3, .int .i64 gen3), (10, .bool true)]) (cnd ((decide (base1 < (0 : Int)))) (K [(0, .pointer d0), (1, .int .i64 base1), (2, .int .i64 pages2), (3, .int .i64 gen3), (10, .bool true)]) (cnd ((decide (pages2 < (1 : Int)))) (K [(0, .pointer d0), (1, .int .i64 base1), (2, .int .i64 pages2), (3, .int .i64 gen3), (10, .bool true)]) (K [(0, .pointer d0), (1, .int .i64 base1), (2, .int .i64 pages2), (3, .int .i64 gen3), (10, .bool ((decide ((200 : Int) < pages2))))])))))) := by kernel_rfl
@[go_sem] theorem c51_r2 (K : Env → W) : RP c51 2 [] K =
    (K [(8, .pointer none), (9, .int .i64 ((1 : Int)))]) := by kernel_rfl
@[go_sem] theorem c51_r3 (d0 : Option Addr) (base1 : Int) (pages2 : Int) (gen3 : Int) (K : Env → W) : RP c51 3 [(0, .pointer d0), (1, .int .i64 base1), (2, .int .i64 pages2), (3, .int .i64 gen3)] K =
    (cal eI Try.prog 26 #[.pointer d0] fun (y1_ : Int) => (cnd ((decide (y1_ < base1))) (K [(0, .pointer d0), (1, .int .i64 base1), (2, .int .i64 pages2), (3, .int .i64 gen3), (33, .bool true)]) (cal eI Try.prog 26 #[.pointer d0] fun (y2_ : Int) => (K [(0, .pointer d0), (1, .int .i64 base1), (2, .int .i64 pages2), (3, .int .i64 gen3), (33, .bool ((decide ((IntKind.wrap .i64 (y2_ - base1)) < (IntKind.wrap .i64 (pages2 * (4 : Int)))))))])))) := by kernel_rfl
@[go_sem] theorem c51_r4 (K : Env → W) : RP c51 4 [] K =
    (K [(8, .pointer none), (9, .int .i64 ((6 : Int)))]) := by kernel_rfl
@[go_sem] theorem c51_r5 (d0 : Option Addr) (base1 : Int) (pages2 : Int) (gen3 : Int) (K : Env → W) : RP c51 5 [(0, .pointer d0), (1, .int .i64 base1), (2, .int .i64 pages2), (3, .int .i64 gen3)] K =
    (nwc #[.pointer (((⟨d0, base1, pages2, gen3⟩ : store_Store)).disk), .int .i64 (((⟨d0, base1, pages2, gen3⟩ : store_Store)).base), .int .i64 (((⟨d0, base1, pages2, gen3⟩ : store_Store)).pages), .int .i64 (((⟨d0, base1, pages2, gen3⟩ : store_Store)).gen)] 124 fun y1_ => (K [(8, .pointer (some y1_)), (9, .int .i64 ((0 : Int)))])) := by kernel_rfl
@[go_sem] theorem c51_o : c51.lo 1000000 = [8, 9] := rfl
@[go_sem] theorem c51_e (t8 : Option Addr) (t9 : Int) (k : Value → W) : RTp c51 [(8, .pointer t8), (9, .int .i64 t9)] k = (k (.tuple #[.pointer t8, .int .i64 t9])) := by kernel_rfl
theorem c51_ok : (c51.P.follows .mixedOrders && okc c51 c51.body) = true := by kernel_rfl
theorem c51_fn {e : Enc} {args : Array Value} {G : e.α → W} {L : List HP} {ρ : Env} (hρ : envA 0 args.toList = ρ) (hs : Nat.ble args.size 53 = true) (h : E L (D c51 (.seq (.reg 0) (.seq (.block 0 (.seq (.reg 1) (.cond (.tmp 10) (.seq (.reg 2) (.ret)) (.seq (.reg 3) (.cond (.tmp 33) (.seq (.reg 4) (.ret)) (.skip)))))) (.seq (.reg 5) (.ret)))) (fnQ c51 e G) ρ)) : E L (cal e Try.prog 51 args G) :=
  d_fn (c := c51) Try.func51 (by kernel_rfl) (by kernel_rfl) (by kernel_rfl) c51_ok (by kernel_rfl) (by kernel_rfl) hρ hs h
/-! (*gharry.store.Store).Is -/
noncomputable def c53 : Cfg := { P := Try.prog, n := 24, T := TT, body := (Try.f53.body).getD .skip, res := Try.f53.results.toList, li := lk [] [(0, [0, 1, 2]), (1, [0, 1, 2]), (2, [2, 8, 9])], lo := lk [] [(0, [0, 1, 2]), (1, [2, 8, 9]), (2, [6]), (1000000, [6])], ord := lk (false, []) [] }
@[go_sem] theorem c53_i0 : c53.li 0 = [0, 1, 2] := rfl
@[go_sem] theorem c53_i1 : c53.li 1 = [0, 1, 2] := rfl
@[go_sem] theorem c53_i2 : c53.li 2 = [2, 8, 9] := rfl
@[go_sem] theorem c53_r0 (s0 : Option Addr) (id1 : Int) (lsn2 : Int) (K : Env → W) : RP c53 0 [(0, .pointer s0), (1, .int .i64 id1), (2, .int .i64 lsn2)] K =
    (K [(0, .pointer s0), (1, .int .i64 id1), (2, .int .i64 lsn2)]) := by kernel_rfl
@[go_sem] theorem c53_r1 (s0 : Option Addr) (id1 : Int) (lsn2 : Int) (K : Env → W) : RP c53 1 [(0, .pointer s0), (1, .int .i64 id1), (2, .int .i64 lsn2)] K =
    (cal (eT3 eS eI eI) Try.prog 49 #[.pointer s0, .int .i64 id1] fun (y1_ : ((List UInt8) × Int × Int)) => (K [(2, .int .i64 lsn2), (8, .int .i64 y1_.2.1), (9, .int .i64 y1_.2.2)])) := by kernel_rfl
@[go_sem] theorem c53_r2 (lsn2 : Int) (n8 : Int) (e9 : Int) (K : Env → W) : RP c53 2 [(2, .int .i64 lsn2), (8, .int .i64 n8), (9, .int .i64 e9)] K =
    (cnd ((e9 == (0 : Int))) (K [(6, .bool ((n8 == lsn2)))]) (K [(6, .bool false)])) := by kernel_rfl
@[go_sem] theorem c53_o : c53.lo 1000000 = [6] := rfl
@[go_sem] theorem c53_e (t6 : Bool) (k : Value → W) : RTp c53 [(6, .bool t6)] k = (k (.bool t6)) := by kernel_rfl
theorem c53_ok : (c53.P.follows .mixedOrders && okc c53 c53.body) = true := by kernel_rfl
theorem c53_fn {e : Enc} {args : Array Value} {G : e.α → W} {L : List HP} {ρ : Env} (hρ : envA 0 args.toList = ρ) (hs : Nat.ble args.size 24 = true) (h : E L (D c53 (.seq (.reg 0) (.seq (.reg 1) (.seq (.reg 2) (.ret)))) (fnQ c53 e G) ρ)) : E L (cal e Try.prog 53 args G) :=
  d_fn (c := c53) Try.func53 (by kernel_rfl) (by kernel_rfl) (by kernel_rfl) c53_ok (by kernel_rfl) (by kernel_rfl) hρ hs h
/-! (*gharry.store.Store).Pages -/
noncomputable def c57 : Cfg := { P := Try.prog, n := 9, T := TT, body := (Try.f57.body).getD .skip, res := Try.f57.results.toList, li := lk [] [(0, [0]), (1, [0]), (2, []), (3, [0])], lo := lk [] [(0, [0]), (1, [0, 4]), (2, [2]), (3, [2]), (1000000, [2])], ord := lk (false, []) [] }
@[go_sem] theorem c57_i0 : c57.li 0 = [0] := rfl
@[go_sem] theorem c57_i1 : c57.li 1 = [0] := rfl
@[go_sem] theorem c57_i2 : c57.li 2 = [] := rfl
@[go_sem] theorem c57_i3 : c57.li 3 = [0] := rfl
@[go_sem] theorem c57_r0 (s0 : Option Addr) (K : Env → W) : RP c57 0 [(0, .pointer s0)] K =
    (K [(0, .pointer s0)]) := by kernel_rfl
@[go_sem] theorem c57_r1 (s0 : Option Addr) (K : Env → W) : RP c57 1 [(0, .pointer s0)] K =
    (K [(0, .pointer s0), (4, .bool ((s0).isNone))]) := by kernel_rfl
@[go_sem] theorem c57_r2 (K : Env → W) : RP c57 2 [] K =
    (K [(2, .int .i64 ((0 : Int)))]) := by kernel_rfl
@[go_sem] theorem c57_r3 (s0 : Option Addr) (K : Env → W) : RP c57 3 [(0, .pointer s0)] K =
    (nn s0 fun y1_ => (ld eI ((y1_.add 2)) fun (y2_ : Int) => (K [(2, .int .i64 y2_)]))) := by kernel_rfl
@[go_sem] theorem c57_o : c57.lo 1000000 = [2] := rfl
@[go_sem] theorem c57_e (t2 : Int) (k : Value → W) : RTp c57 [(2, .int .i64 t2)] k = (k (.int .i64 t2)) := by kernel_rfl
theorem c57_ok : (c57.P.follows .mixedOrders && okc c57 c57.body) = true := by kernel_rfl
theorem c57_fn {e : Enc} {args : Array Value} {G : e.α → W} {L : List HP} {ρ : Env} (hρ : envA 0 args.toList = ρ) (hs : Nat.ble args.size 9 = true) (h : E L (D c57 (.seq (.reg 0) (.seq (.seq (.reg 1) (.cond (.tmp 4) (.seq (.reg 2) (.ret)) (.skip))) (.seq (.reg 3) (.ret)))) (fnQ c57 e G) ρ)) : E L (cal e Try.prog 57 args G) :=
  d_fn (c := c57) Try.func57 (by kernel_rfl) (by kernel_rfl) (by kernel_rfl) c57_ok (by kernel_rfl) (by kernel_rfl) hρ hs h
/-! (*gharry.store.Store).Gen -/
noncomputable def c58 : Cfg := { P := Try.prog, n := 9, T := TT, body := (Try.f58.body).getD .skip, res := Try.f58.results.toList, li := lk [] [(0, [0]), (1, [0]), (2, []), (3, [0])], lo := lk [] [(0, [0]), (1, [0, 4]), (2, [2]), (3, [2]), (1000000, [2])], ord := lk (false, []) [] }
@[go_sem] theorem c58_i0 : c58.li 0 = [0] := rfl
@[go_sem] theorem c58_i1 : c58.li 1 = [0] := rfl
@[go_sem] theorem c58_i2 : c58.li 2 = [] := rfl
@[go_sem] theorem c58_i3 : c58.li 3 = [0] := rfl
@[go_sem] theorem c58_r0 (s0 : Option Addr) (K : Env → W) : RP c58 0 [(0, .pointer s0)] K =
    (K [(0, .pointer s0)]) := by kernel_rfl
@[go_sem] theorem c58_r1 (s0 : Option Addr) (K : Env → W) : RP c58 1 [(0, .pointer s0)] K =
    (K [(0, .pointer s0), (4, .bool ((s0).isNone))]) := by kernel_rfl
@[go_sem] theorem c58_r2 (K : Env → W) : RP c58 2 [] K =
    (K [(2, .int .i64 ((0 : Int)))]) := by kernel_rfl
@[go_sem] theorem c58_r3 (s0 : Option Addr) (K : Env → W) : RP c58 3 [(0, .pointer s0)] K =
    (nn s0 fun y1_ => (ld eI ((y1_.add 3)) fun (y2_ : Int) => (K [(2, .int .i64 y2_)]))) := by kernel_rfl
@[go_sem] theorem c58_o : c58.lo 1000000 = [2] := rfl
@[go_sem] theorem c58_e (t2 : Int) (k : Value → W) : RTp c58 [(2, .int .i64 t2)] k = (k (.int .i64 t2)) := by kernel_rfl
theorem c58_ok : (c58.P.follows .mixedOrders && okc c58 c58.body) = true := by kernel_rfl
theorem c58_fn {e : Enc} {args : Array Value} {G : e.α → W} {L : List HP} {ρ : Env} (hρ : envA 0 args.toList = ρ) (hs : Nat.ble args.size 9 = true) (h : E L (D c58 (.seq (.reg 0) (.seq (.seq (.reg 1) (.cond (.tmp 4) (.seq (.reg 2) (.ret)) (.skip))) (.seq (.reg 3) (.ret)))) (fnQ c58 e G) ρ)) : E L (cal e Try.prog 58 args G) :=
  d_fn (c := c58) Try.func58 (by kernel_rfl) (by kernel_rfl) (by kernel_rfl) c58_ok (by kernel_rfl) (by kernel_rfl) hρ hs h
/-! (*gharry.store.Store).check -/
noncomputable def c82 : Cfg := { P := Try.prog, n := 26, T := TT, body := (Try.f82.body).getD .skip, res := Try.f82.results.toList, li := lk [] [(0, [0, 1]), (1, [0, 1]), (2, []), (3, [0, 1]), (4, []), (5, [])], lo := lk [] [(0, [0, 1]), (1, [0, 1, 5]), (2, [4]), (3, [15]), (4, [4]), (5, [4]), (1000000, [4])], ord := lk (false, []) [] }
@[go_sem] theorem c82_i0 : c82.li 0 = [0, 1] := rfl
@[go_sem] theorem c82_i1 : c82.li 1 = [0, 1] := rfl
@[go_sem] theorem c82_i2 : c82.li 2 = [] := rfl
@[go_sem] theorem c82_i3 : c82.li 3 = [0, 1] := rfl
@[go_sem] theorem c82_i4 : c82.li 4 = [] := rfl
@[go_sem] theorem c82_i5 : c82.li 5 = [] := rfl
@[go_sem] theorem c82_r0 (s0 : Option Addr) (id1 : Int) (K : Env → W) : RP c82 0 [(0, .pointer s0), (1, .int .i64 id1)] K =
    (K [(0, .pointer s0), (1, .int .i64 id1)]) := by kernel_rfl
@[go_sem] theorem c82_r1 (s0 : Option Addr) (id1 : Int) (K : Env → W) : RP c82 1 [(0, .pointer s0), (1, .int .i64 id1)] K =
    (cnd ((s0).isNone) (K [(0, .pointer s0), (1, .int .i64 id1), (5, .bool true)]) (nn s0 fun y1_ => (ld eP y1_ fun (y2_ : Option Addr) => (K [(0, .pointer s0), (1, .int .i64 id1), (5, .bool ((y2_).isNone))])))) := by kernel_rfl
@[go_sem] theorem c82_r2 (K : Env → W) : RP c82 2 [] K =
    (K [(4, .int .i64 ((11 : Int)))]) := by kernel_rfl
@[go_sem] theorem c82_r3 (s0 : Option Addr) (id1 : Int) (K : Env → W) : RP c82 3 [(0, .pointer s0), (1, .int .i64 id1)] K =
    (cnd ((decide (id1 < (0 : Int)))) (K [(15, .bool true)]) (nn s0 fun y1_ => (ld eI ((y1_.add 2)) fun (y2_ : Int) => (K [(15, .bool ((decide (y2_ ≤ id1))))])))) := by kernel_rfl
@[go_sem] theorem c82_r4 (K : Env → W) : RP c82 4 [] K =
    (K [(4, .int .i64 ((6 : Int)))]) := by kernel_rfl
@[go_sem] theorem c82_r5 (K : Env → W) : RP c82 5 [] K =
    (K [(4, .int .i64 ((0 : Int)))]) := by kernel_rfl
@[go_sem] theorem c82_o : c82.lo 1000000 = [4] := rfl
@[go_sem] theorem c82_e (t4 : Int) (k : Value → W) : RTp c82 [(4, .int .i64 t4)] k = (k (.int .i64 t4)) := by kernel_rfl
theorem c82_ok : (c82.P.follows .mixedOrders && okc c82 c82.body) = true := by kernel_rfl
theorem c82_fn {e : Enc} {args : Array Value} {G : e.α → W} {L : List HP} {ρ : Env} (hρ : envA 0 args.toList = ρ) (hs : Nat.ble args.size 26 = true) (h : E L (D c82 (.seq (.reg 0) (.seq (.block 0 (.seq (.reg 1) (.cond (.tmp 5) (.seq (.reg 2) (.ret)) (.seq (.reg 3) (.cond (.tmp 15) (.seq (.reg 4) (.ret)) (.skip)))))) (.seq (.reg 5) (.ret)))) (fnQ c82 e G) ρ)) : E L (cal e Try.prog 82 args G) :=
  d_fn (c := c82) Try.func82 (by kernel_rfl) (by kernel_rfl) (by kernel_rfl) c82_ok (by kernel_rfl) (by kernel_rfl) hρ hs h
/-! (*gharry.store.Store).mark -/
noncomputable def c83 : Cfg := { P := Try.prog, n := 21, T := TT, body := (Try.f83.body).getD .skip, res := Try.f83.results.toList, li := lk [] [(0, [0, 1]), (1, [0, 1]), (2, [1, 6])], lo := lk [] [(0, [0, 1]), (1, [1, 6]), (2, [4, 5]), (1000000, [4, 5])], ord := lk (false, []) [] }
@[go_sem] theorem c83_i0 : c83.li 0 = [0, 1] := rfl
@[go_sem] theorem c83_i1 : c83.li 1 = [0, 1] := rfl
@[go_sem] theorem c83_i2 : c83.li 2 = [1, 6] := rfl
@[go_sem] theorem c83_r0 (s0 : Option Addr) (lsn1 : Int) (K : Env → W) : RP c83 0 [(0, .pointer s0), (1, .int .i64 lsn1)] K =
    (K [(0, .pointer s0), (1, .int .i64 lsn1)]) := by kernel_rfl
@[go_sem] theorem c83_r1 (s0 : Option Addr) (lsn1 : Int) (K : Env → W) : RP c83 1 [(0, .pointer s0), (1, .int .i64 lsn1)] K =
    (nn s0 fun y1_ => (ld eI ((y1_.add 3)) fun (y2_ : Int) => (cal (eT2 eS eI) Try.prog 97 #[str (([] : List UInt8)), .int .i64 y2_, .int .i64 ((2 : Int))] fun (y3_ : ((List UInt8) × Int)) => (K [(1, .int .i64 lsn1), (6, str y3_.1)])))) := by kernel_rfl
@[go_sem] theorem c83_r2 (lsn1 : Int) (out6 : List UInt8) (K : Env → W) : RP c83 2 [(1, .int .i64 lsn1), (6, str out6)] K =
    (cal (eT2 eS eI) Try.prog 97 #[str out6, .int .i64 lsn1, .int .i64 ((6 : Int))] fun (y1_ : ((List UInt8) × Int)) => (K [(4, str y1_.1), (5, .int .i64 y1_.2)])) := by kernel_rfl
@[go_sem] theorem c83_o : c83.lo 1000000 = [4, 5] := rfl
@[go_sem] theorem c83_e (t4 : List UInt8) (t5 : Int) (k : Value → W) : RTp c83 [(4, str t4), (5, .int .i64 t5)] k = (k (.tuple #[str t4, .int .i64 t5])) := by kernel_rfl
theorem c83_ok : (c83.P.follows .mixedOrders && okc c83 c83.body) = true := by kernel_rfl
theorem c83_fn {e : Enc} {args : Array Value} {G : e.α → W} {L : List HP} {ρ : Env} (hρ : envA 0 args.toList = ρ) (hs : Nat.ble args.size 21 = true) (h : E L (D c83 (.seq (.reg 0) (.seq (.reg 1) (.seq (.reg 2) (.ret)))) (fnQ c83 e G) ρ)) : E L (cal e Try.prog 83 args G) :=
  d_fn (c := c83) Try.func83 (by kernel_rfl) (by kernel_rfl) (by kernel_rfl) c83_ok (by kernel_rfl) (by kernel_rfl) hρ hs h
end Go.Sp
/- What each region of the Go functions does. Written by my own generator. -/
namespace Go.Sp
open Go
set_option maxRecDepth 100000
set_option linter.unusedVariables false
open Go.Proofs
/-! gharry.gharrylaw06.made -/
noncomputable def c45 : Cfg := { P := Try.prog, n := 24, T := TT, body := (Try.f45.body).getD .skip, res := Try.f45.results.toList, li := lk [] [(0, [0]), (1, [0]), (2, [0, 4, 5]), (3, []), (4, [0, 4]), (5, [4, 6, 7]), (6, []), (7, [4, 6])], lo := lk [] [(0, [0]), (1, [0, 4, 5]), (2, [0, 4, 13]), (3, [2, 3]), (4, [4, 6, 7]), (5, [4, 6, 21]), (6, [2, 3]), (7, [2, 3]), (1000000, [2, 3])], ord := lk (false, []) [] }
@[go_sem] theorem c45_i0 : c45.li 0 = [0] := rfl
@[go_sem] theorem c45_i1 : c45.li 1 = [0] := rfl
@[go_sem] theorem c45_i2 : c45.li 2 = [0, 4, 5] := rfl
@[go_sem] theorem c45_i3 : c45.li 3 = [] := rfl
@[go_sem] theorem c45_i4 : c45.li 4 = [0, 4] := rfl
@[go_sem] theorem c45_i5 : c45.li 5 = [4, 6, 7] := rfl
@[go_sem] theorem c45_i6 : c45.li 6 = [] := rfl
@[go_sem] theorem c45_i7 : c45.li 7 = [4, 6] := rfl
@[go_sem] theorem c45_r0 (gen0 : Int) (K : Env → W) : RP c45 0 [(0, .int .i64 gen0)] K =
    (K [(0, .int .i64 gen0)]) := by kernel_rfl
@[go_sem] theorem c45_r1 (gen0 : Int) (K : Env → W) : RP c45 1 [(0, .int .i64 gen0)] K =
    (cal (eT2 eP eI) Try.prog 25 #[.int .i64 ((40 : Int))] fun (y1_ : ((Option Addr) × Int)) => (K [(0, .int .i64 gen0), (4, .pointer y1_.1), (5, .int .i64 y1_.2)])) := by kernel_rfl
@[go_sem] theorem c45_r2 (gen0 : Int) (d4 : Option Addr) (e5 : Int) (K : Env → W) : RP c45 2 [(0, .int .i64 gen0), (4, .pointer d4), (5, .int .i64 e5)] K =
    (K [(0, .int .i64 gen0), (4, .pointer d4), (13, .bool ((e5 != (0 : Int))))]) := by kernel_rfl
@[go_sem] theorem c45_r3 (K : Env → W) : RP c45 3 [] K =
    (K [(2, .pointer none), (3, .pointer none)]) := by kernel_rfl
@[go_sem] theorem c45_r4 (gen0 : Int) (d4 : Option Addr) (K : Env → W) : RP c45 4 [(0, .int .i64 gen0), (4, .pointer d4)] K =
    (cal (eT2 eP eI) Try.prog 51 #[.pointer d4, .int .i64 ((5 : Int)), .int .i64 ((8 : Int)), .int .i64 gen0] fun (y1_ : ((Option Addr) × Int)) => (K [(4, .pointer d4), (6, .pointer y1_.1), (7, .int .i64 y1_.2)])) := by kernel_rfl
@[go_sem] theorem c45_r5 (d4 : Option Addr) (s6 : Option Addr) (f7 : Int) (K : Env → W) : RP c45 5 [(4, .pointer d4), (6, .pointer s6), (7, .int .i64 f7)] K =
    (K [(4, .pointer d4), (6, .pointer s6), (21, .bool ((f7 != (0 : Int))))]) := by kernel_rfl
@[go_sem] theorem c45_r6 (K : Env → W) : RP c45 6 [] K =
    (K [(2, .pointer none), (3, .pointer none)]) := by kernel_rfl
@[go_sem] theorem c45_r7 (d4 : Option Addr) (s6 : Option Addr) (K : Env → W) : RP c45 7 [(4, .pointer d4), (6, .pointer s6)] K =
    (K [(2, .pointer d4), (3, .pointer s6)]) := by kernel_rfl
@[go_sem] theorem c45_o : c45.lo 1000000 = [2, 3] := rfl
@[go_sem] theorem c45_e (t2 : Option Addr) (t3 : Option Addr) (k : Value → W) : RTp c45 [(2, .pointer t2), (3, .pointer t3)] k = (k (.tuple #[.pointer t2, .pointer t3])) := by kernel_rfl
theorem c45_ok : (c45.P.follows .mixedOrders && okc c45 c45.body) = true := by kernel_rfl
theorem c45_fn {e : Enc} {args : Array Value} {G : e.α → W} {L : List HP} {ρ : Env} (hρ : envA 0 args.toList = ρ) (hs : Nat.ble args.size 24 = true) (h : E L (D c45 (.seq (.reg 0) (.seq (.reg 1) (.seq (.seq (.reg 2) (.cond (.tmp 13) (.seq (.reg 3) (.ret)) (.skip))) (.seq (.reg 4) (.seq (.seq (.reg 5) (.cond (.tmp 21) (.seq (.reg 6) (.ret)) (.skip))) (.seq (.reg 7) (.ret))))))) (fnQ c45 e G) ρ)) : E L (cal e Try.prog 45 args G) :=
  d_fn (c := c45) Try.func45 (by kernel_rfl) (by kernel_rfl) (by kernel_rfl) c45_ok (by kernel_rfl) (by kernel_rfl) hρ hs h
/-! gharry.gharrylaw06.fill -/
noncomputable def c47 : Cfg := { P := Try.prog, n := 18, T := TT, body := (Try.f47.body).getD .skip, res := Try.f47.results.toList, li := lk [] [(0, [0]), (1, [0]), (2, [0, 3]), (3, [0, 3, 4]), (4, [0, 3, 4]), (5, [0, 3, 4]), (6, [3])], lo := lk [] [(0, [0]), (1, [0, 3]), (2, [0, 3, 4]), (3, [0, 3, 4, 9]), (4, [0, 3, 4]), (5, [0, 3, 4]), (6, [2]), (1000000, [2])], ord := lk (false, []) [] }
@[go_sem] theorem c47_i0 : c47.li 0 = [0] := rfl
@[go_sem] theorem c47_i1 : c47.li 1 = [0] := rfl
@[go_sem] theorem c47_i2 : c47.li 2 = [0, 3] := rfl
@[go_sem] theorem c47_i3 : c47.li 3 = [0, 3, 4] := rfl
@[go_sem] theorem c47_i4 : c47.li 4 = [0, 3, 4] := rfl
@[go_sem] theorem c47_i5 : c47.li 5 = [0, 3, 4] := rfl
@[go_sem] theorem c47_i6 : c47.li 6 = [3] := rfl
@[go_sem] theorem c47_r0 (c0 : Int) (K : Env → W) : RP c47 0 [(0, .int .u8 c0)] K =
    (K [(0, .int .u8 c0)]) := by kernel_rfl
@[go_sem] theorem c47_r1 (c0 : Int) (K : Env → W) : RP c47 1 [(0, .int .u8 c0)] K =
    (val eSl Try.prog (oMake 125 (.int .i64 ((224 : Int))) (.int .i64 ((224 : Int)))) fun (y1_ : (Option Addr × Nat × Nat)) => (K [(0, .int .u8 c0), (3, .slice y1_.1 y1_.2.1 y1_.2.2)])) := by kernel_rfl
@[go_sem] theorem c47_r2 (c0 : Int) (b3p : Option Addr) (b3n b3c : Nat) (K : Env → W) : RP c47 2 [(0, .int .u8 c0), (3, .slice b3p b3n b3c)] K =
    (K [(0, .int .u8 c0), (3, .slice b3p b3n b3c), (4, .int .i64 ((0 : Int)))]) := by kernel_rfl
@[go_sem] theorem c47_r3 (c0 : Int) (b3p : Option Addr) (b3n b3c : Nat) (i4 : Int) (K : Env → W) : RP c47 3 [(0, .int .u8 c0), (3, .slice b3p b3n b3c), (4, .int .i64 i4)] K =
    (K [(0, .int .u8 c0), (3, .slice b3p b3n b3c), (4, .int .i64 i4), (9, .bool ((decide (i4 < (b3n : Int)))))]) := by kernel_rfl
@[go_sem] theorem c47_r4 (c0 : Int) (b3p : Option Addr) (b3n b3c : Nat) (i4 : Int) (K : Env → W) : RP c47 4 [(0, .int .u8 c0), (3, .slice b3p b3n b3c), (4, .int .i64 i4)] K =
    (K [(0, .int .u8 c0), (3, .slice b3p b3n b3c), (4, .int .i64 ((IntKind.wrap .i64 (i4 + (1 : Int)))))]) := by kernel_rfl
@[go_sem] theorem c47_r5 (c0 : Int) (b3p : Option Addr) (b3n b3c : Nat) (i4 : Int) (K : Env → W) : RP c47 5 [(0, .int .u8 c0), (3, .slice b3p b3n b3c), (4, .int .i64 i4)] K =
    (rq (0 ≤ i4 ∧ i4 < (b3n : Int)) (nn b3p fun y1_ => (st ((Addr.add y1_ ((i4).toNat * 1))) (.int .u8 c0) (K [(0, .int .u8 c0), (3, .slice b3p b3n b3c), (4, .int .i64 i4)])))) := by kernel_rfl
@[go_sem] theorem c47_r6 (b3p : Option Addr) (b3n b3c : Nat) (K : Env → W) : RP c47 6 [(3, .slice b3p b3n b3c)] K =
    (val eS Try.prog (oConv 125 9 (.slice b3p b3n b3c)) fun (y1_ : List UInt8) => (K [(2, str y1_)])) := by kernel_rfl
@[go_sem] theorem c47_o : c47.lo 1000000 = [2] := rfl
@[go_sem] theorem c47_e (t2 : List UInt8) (k : Value → W) : RTp c47 [(2, str t2)] k = (k (str t2)) := by kernel_rfl
theorem c47_ok : (c47.P.follows .mixedOrders && okc c47 c47.body) = true := by kernel_rfl
theorem c47_fn {e : Enc} {args : Array Value} {G : e.α → W} {L : List HP} {ρ : Env} (hρ : envA 0 args.toList = ρ) (hs : Nat.ble args.size 18 = true) (h : E L (D c47 (.seq (.reg 0) (.seq (.reg 1) (.seq (.seq (.reg 2) (.block 0 (.loop (.seq (.seq (.reg 3) (.cond (.tmp 9) (.skip) (.exit 0))) (.seq (.block 1 (.reg 5)) (.reg 4)))))) (.seq (.reg 6) (.ret))))) (fnQ c47 e G) ρ)) : E L (cal e Try.prog 47 args G) :=
  d_fn (c := c47) Try.func47 (by kernel_rfl) (by kernel_rfl) (by kernel_rfl) c47_ok (by kernel_rfl) (by kernel_rfl) hρ hs h
-- loop (first region 3): live slots 0:c0 3:b3 4:i4, of which it writes [4]
/-! gharry.gharrylaw06.awake -/
noncomputable def c50 : Cfg := { P := Try.prog, n := 71, T := TT, body := (Try.f50.body).getD .skip, res := Try.f50.results.toList, li := lk [] [(0, []), (1, []), (2, [1, 2]), (3, []), (4, [1, 2]), (5, [1, 2, 3, 4, 5]), (6, []), (7, [2]), (8, [8])], lo := lk [] [(0, []), (1, [1, 2]), (2, [1, 2, 35]), (3, [0]), (4, [1, 2, 3, 4, 5]), (5, [2, 62]), (6, [0]), (7, [8]), (8, [0]), (1000000, [0])], ord := lk (false, []) [] }
@[go_sem] theorem c50_i0 : c50.li 0 = [] := rfl
@[go_sem] theorem c50_i1 : c50.li 1 = [] := rfl
@[go_sem] theorem c50_i2 : c50.li 2 = [1, 2] := rfl
@[go_sem] theorem c50_i3 : c50.li 3 = [] := rfl
@[go_sem] theorem c50_i4 : c50.li 4 = [1, 2] := rfl
@[go_sem] theorem c50_i5 : c50.li 5 = [1, 2, 3, 4, 5] := rfl
@[go_sem] theorem c50_i6 : c50.li 6 = [] := rfl
@[go_sem] theorem c50_i7 : c50.li 7 = [2] := rfl
@[go_sem] theorem c50_i8 : c50.li 8 = [8] := rfl
@[go_sem] theorem c50_r0 (K : Env → W) : RP c50 0 [] K =
    (K []) := by kernel_rfl
@[go_sem] theorem c50_r1 (K : Env → W) : RP c50 1 [] K =
    (cal (eT2 eP eP) Try.prog 45 #[.int .i64 ((1 : Int))] fun (y1_ : ((Option Addr) × (Option Addr))) => (K [(1, .pointer y1_.1), (2, .pointer y1_.2)])) := by kernel_rfl
@[go_sem] theorem c50_r2 (d1 : Option Addr) (s2 : Option Addr) (K : Env → W) : RP c50 2 [(1, .pointer d1), (2, .pointer s2)] K =
    (cnd ((d1).isNone) (K [(1, .pointer d1), (2, .pointer s2), (35, .bool true)]) (cnd ((s2).isNone) (K [(1, .pointer d1), (2, .pointer s2), (35, .bool true)]) (cal eS Try.prog 47 #[.int .u8 ((1 : Int))] fun (y1_ : List UInt8) => (cal eI Try.prog 46 #[.pointer s2, .int .i64 ((0 : Int)), str y1_, .int .i64 ((7 : Int))] fun (y2_ : Int) => (cnd ((y2_ != (0 : Int))) (K [(1, .pointer d1), (2, .pointer s2), (35, .bool true)]) (cal eI Try.prog 48 #[.pointer s2] fun (y3_ : Int) => (cnd ((y3_ != (0 : Int))) (K [(1, .pointer d1), (2, .pointer s2), (35, .bool true)]) (cal eS Try.prog 47 #[.int .u8 ((2 : Int))] fun (y4_ : List UInt8) => (cal eI Try.prog 46 #[.pointer s2, .int .i64 ((0 : Int)), str y4_, .int .i64 ((8 : Int))] fun (y5_ : Int) => (K [(1, .pointer d1), (2, .pointer s2), (35, .bool ((y5_ != (0 : Int))))])))))))))) := by kernel_rfl
@[go_sem] theorem c50_r3 (K : Env → W) : RP c50 3 [] K =
    (K [(0, .bool false)]) := by kernel_rfl
@[go_sem] theorem c50_r4 (d1 : Option Addr) (s2 : Option Addr) (K : Env → W) : RP c50 4 [(1, .pointer d1), (2, .pointer s2)] K =
    (cal (eT3 eS eI eI) Try.prog 49 #[.pointer s2, .int .i64 ((0 : Int))] fun (y1_ : ((List UInt8) × Int × Int)) => (K [(1, .pointer d1), (2, .pointer s2), (3, str y1_.1), (4, .int .i64 y1_.2.1), (5, .int .i64 y1_.2.2)])) := by kernel_rfl
@[go_sem] theorem c50_r5 (d1 : Option Addr) (s2 : Option Addr) (p3 : List UInt8) (n4 : Int) (e5 : Int) (K : Env → W) : RP c50 5 [(1, .pointer d1), (2, .pointer s2), (3, str p3), (4, .int .i64 n4), (5, .int .i64 e5)] K =
    (cal eS Try.prog 47 #[.int .u8 ((2 : Int))] fun (y1_ : List UInt8) => (cnd ((!(p3 == y1_))) (K [(2, .pointer s2), (62, .bool true)]) (cnd ((n4 != (8 : Int))) (K [(2, .pointer s2), (62, .bool true)]) (cnd ((e5 != (0 : Int))) (K [(2, .pointer s2), (62, .bool true)]) (cal eI Try.prog 29 #[.pointer d1, .int .u64 ((5 : Int))] fun (y2_ : Int) => (cnd ((y2_ != (0 : Int))) (K [(2, .pointer s2), (62, .bool true)]) (cal eI Try.prog 30 #[.pointer d1] fun (y3_ : Int) => (K [(2, .pointer s2), (62, .bool ((y3_ != (0 : Int))))])))))))) := by kernel_rfl
@[go_sem] theorem c50_r6 (K : Env → W) : RP c50 6 [] K =
    (K [(0, .bool false)]) := by kernel_rfl
@[go_sem] theorem c50_r7 (s2 : Option Addr) (K : Env → W) : RP c50 7 [(2, .pointer s2)] K =
    (cal (eT3 eS eI eI) Try.prog 49 #[.pointer s2, .int .i64 ((0 : Int))] fun (y1_ : ((List UInt8) × Int × Int)) => (K [(8, .int .i64 y1_.2.2)])) := by kernel_rfl
@[go_sem] theorem c50_r8 (f8 : Int) (K : Env → W) : RP c50 8 [(8, .int .i64 f8)] K =
    (K [(0, .bool ((f8 == (10 : Int))))]) := by kernel_rfl
@[go_sem] theorem c50_o : c50.lo 1000000 = [0] := rfl
@[go_sem] theorem c50_e (t0 : Bool) (k : Value → W) : RTp c50 [(0, .bool t0)] k = (k (.bool t0)) := by kernel_rfl
theorem c50_ok : (c50.P.follows .mixedOrders && okc c50 c50.body) = true := by kernel_rfl
theorem c50_fn {e : Enc} {args : Array Value} {G : e.α → W} {L : List HP} {ρ : Env} (hρ : envA 0 args.toList = ρ) (hs : Nat.ble args.size 71 = true) (h : E L (D c50 (.seq (.reg 0) (.seq (.reg 1) (.seq (.seq (.reg 2) (.cond (.tmp 35) (.seq (.reg 3) (.ret)) (.skip))) (.seq (.reg 4) (.seq (.seq (.reg 5) (.cond (.tmp 62) (.seq (.reg 6) (.ret)) (.skip))) (.seq (.reg 7) (.seq (.reg 8) (.ret)))))))) (fnQ c50 e G) ρ)) : E L (cal e Try.prog 50 args G) :=
  d_fn (c := c50) Try.func50 (by kernel_rfl) (by kernel_rfl) (by kernel_rfl) c50_ok (by kernel_rfl) (by kernel_rfl) hρ hs h
end Go.Sp
/- The store: what a page is in its sectors; its small functions. -/
namespace Go.Sp
open Go Go.Proofs
set_option linter.unusedSimpArgs false
set_option linter.unusedVariables false
set_option maxRecDepth 10000
structure St where
  q : Nat
  base : Nat
  pages : Nat
  gen : Nat
abbrev spt (S : St) (sb : Nat) : HP := ar S.q 124 [.pointer (some ⟨sb, 0, none⟩), .int .i64 (S.base : Int), .int .i64 (S.pages : Int), .int .i64 (S.gen : Int)]
abbrev St.p (S : St) : Value := .pointer (some ⟨S.q, 0, none⟩)
/-- The store lies in its disk. -/
structure St.ok (S : St) (n : Nat) : Prop where
  g1 : 1 ≤ S.gen
  g2 : S.gen < 65536
  p1 : 1 ≤ S.pages
  p2 : S.pages ≤ 200
  fit : S.base + 4 * S.pages ≤ n
  n1 : n ≤ 8192
def St.chk (S : St) (id : Int) : Int := if id < 0 ∨ (S.pages : Int) ≤ id then 6 else 0
theorem f82 (S : St) (sb : Nat) (id : Int) : Fp eI Try.prog 82 #[S.p, .int .i64 id] [spt S sb] (S.chk id) := fun L => by
  refine c82_fn rfl rfl ?_
  unfold St.chk
  repeat' ((fail_if_success with_reducible refine (id : E _ (ph _) → E _ (ph _)) ?_); first | ((with_reducible refine d_seq ?_); intro K hK) | ((with_reducible refine d_reg ?_); simp only [go_sem, Nat.reduceAdd, Nat.reduceEqDiff, Int.reduceToNat, Nat.reduceMul, Nat.reduceSub]) | ((first | ((with_reducible refine d_cnd ?_); refine And.intro ?_ ?_) | (with_reducible refine r_cnd ?_ ?_)); all_goals (intro hc; (try simp only [push_cast, Int.reduceEq, Int.reduceLT, Int.reduceLE, Int.reduceNe] at hc))) | ((with_reducible refine hK _ _ ?_); clear hK; clear K) | ((with_reducible first | refine d_blk ?_ | refine d_rt0 ?_ | refine d_sk0 ?_ | refine d_ex0 ?_); (try simp only [go_sem, Nat.reduceAdd, Nat.reduceEqDiff, Int.reduceToNat, Nat.reduceMul, Nat.reduceSub])) | (with_reducible refine r_rq (by first | decide | omega) ?_) | ((with_reducible refine r_nwc ?_); intro b) | ((with_reducible first | apply i_lds | apply i_ldsq | apply i_ld | apply i_ldq); exact rfl) | ((with_reducible first | apply i_ldn | apply i_ldnq); exact rfl; exact rfl; exact rfl) | (with_reducible first | refine r_ph0 ?_ | apply i_kp0) | ((with_reducible first | apply i_st | apply i_stl); (focus simp); exact rfl) | simp only [go_sem, Nat.reduceAdd, Nat.reduceEqDiff, Int.reduceToNat, Nat.reduceMul, Nat.reduceSub] | (clear hK; clear K))
  · (with_reducible first | apply i_ret0 | apply i_ret2 | apply i_ret3 | apply i_ret); exact rfl
    rw [if_pos (by omega)]
  · (with_reducible first | apply i_ret0 | apply i_ret2 | apply i_ret3 | apply i_ret); exact rfl
    rw [if_pos (by omega)]
  · (with_reducible first | apply i_ret0 | apply i_ret2 | apply i_ret3 | apply i_ret); exact rfl
    rw [if_neg (by omega)]
theorem f57 (S : St) (sb : Nat) : Fp eI Try.prog 57 #[S.p] [spt S sb] (S.pages : Int) := fun L => by
  refine c57_fn rfl rfl ?_
  repeat' ((fail_if_success with_reducible refine (id : E _ (ph _) → E _ (ph _)) ?_); first | ((with_reducible refine d_seq ?_); intro K hK) | ((with_reducible refine d_reg ?_); simp only [go_sem, Nat.reduceAdd, Nat.reduceEqDiff, Int.reduceToNat, Nat.reduceMul, Nat.reduceSub]) | ((first | ((with_reducible refine d_cnd ?_); refine And.intro ?_ ?_) | (with_reducible refine r_cnd ?_ ?_)); all_goals (intro hc; (try simp only [push_cast, Int.reduceEq, Int.reduceLT, Int.reduceLE, Int.reduceNe] at hc))) | ((with_reducible refine hK _ _ ?_); clear hK; clear K) | ((with_reducible first | refine d_blk ?_ | refine d_rt0 ?_ | refine d_sk0 ?_ | refine d_ex0 ?_); (try simp only [go_sem, Nat.reduceAdd, Nat.reduceEqDiff, Int.reduceToNat, Nat.reduceMul, Nat.reduceSub])) | (with_reducible refine r_rq (by first | decide | omega) ?_) | ((with_reducible refine r_nwc ?_); intro b) | ((with_reducible first | apply i_lds | apply i_ldsq | apply i_ld | apply i_ldq); exact rfl) | ((with_reducible first | apply i_ldn | apply i_ldnq); exact rfl; exact rfl; exact rfl) | (with_reducible first | refine r_ph0 ?_ | apply i_kp0) | ((with_reducible first | apply i_st | apply i_stl); (focus simp); exact rfl) | simp only [go_sem, Nat.reduceAdd, Nat.reduceEqDiff, Int.reduceToNat, Nat.reduceMul, Nat.reduceSub] | (clear hK; clear K))
  (with_reducible first | apply i_ret0 | apply i_ret2 | apply i_ret3 | apply i_ret); exact rfl
  rfl
theorem f58 (S : St) (sb : Nat) : Fp eI Try.prog 58 #[S.p] [spt S sb] (S.gen : Int) := fun L => by
  refine c58_fn rfl rfl ?_
  repeat' ((fail_if_success with_reducible refine (id : E _ (ph _) → E _ (ph _)) ?_); first | ((with_reducible refine d_seq ?_); intro K hK) | ((with_reducible refine d_reg ?_); simp only [go_sem, Nat.reduceAdd, Nat.reduceEqDiff, Int.reduceToNat, Nat.reduceMul, Nat.reduceSub]) | ((first | ((with_reducible refine d_cnd ?_); refine And.intro ?_ ?_) | (with_reducible refine r_cnd ?_ ?_)); all_goals (intro hc; (try simp only [push_cast, Int.reduceEq, Int.reduceLT, Int.reduceLE, Int.reduceNe] at hc))) | ((with_reducible refine hK _ _ ?_); clear hK; clear K) | ((with_reducible first | refine d_blk ?_ | refine d_rt0 ?_ | refine d_sk0 ?_ | refine d_ex0 ?_); (try simp only [go_sem, Nat.reduceAdd, Nat.reduceEqDiff, Int.reduceToNat, Nat.reduceMul, Nat.reduceSub])) | (with_reducible refine r_rq (by first | decide | omega) ?_) | ((with_reducible refine r_nwc ?_); intro b) | ((with_reducible first | apply i_lds | apply i_ldsq | apply i_ld | apply i_ldq); exact rfl) | ((with_reducible first | apply i_ldn | apply i_ldnq); exact rfl; exact rfl; exact rfl) | (with_reducible first | refine r_ph0 ?_ | apply i_kp0) | ((with_reducible first | apply i_st | apply i_stl); (focus simp); exact rfl) | simp only [go_sem, Nat.reduceAdd, Nat.reduceEqDiff, Int.reduceToNat, Nat.reduceMul, Nat.reduceSub] | (clear hK; clear K))
  (with_reducible first | apply i_ret0 | apply i_ret2 | apply i_ret3 | apply i_ret); exact rfl
  rfl
def mk8 (gen : Nat) (lsn : Int) : List UInt8 := lowb (gen : Int) 2 ++ lowb lsn 6
theorem mk8_len (gen : Nat) (lsn : Int) : (mk8 gen lsn).length = 8 := by simp [mk8, lowb_len]
theorem p2566 : ((256 ^ 6 : Nat) : Int) = 281474976710656 := by decide
theorem p2562 : ((256 ^ 2 : Nat) : Int) = 65536 := by decide
theorem f83 (S : St) (sb : Nat) (hg : S.gen < 65536) (lsn : Int) : Fp (eT2 eS eI) Try.prog 83 #[S.p, .int .i64 lsn] [spt S sb] (if lsn < 0 ∨ 281474976710656 ≤ lsn then ([], 6) else (mk8 S.gen lsn, 0)) := fun L => by
  have F := f97 [] (S.gen : Int) 2 (by decide) (by decide) (by decide)
  have G := f97 (lowb (S.gen : Int) 2) lsn 6 (by decide) (by decide) (by rw [lowb_len]; decide)
  unfold putN at F G
  rw [p2562, if_neg (by omega)] at F
  rw [p2566] at G
  refine c83_fn rfl rfl ?_
  repeat' ((fail_if_success with_reducible refine (id : E _ (ph _) → E _ (ph _)) ?_); first | ((with_reducible refine d_seq ?_); intro K hK) | ((with_reducible refine d_reg ?_); simp only [go_sem, Nat.reduceAdd, Nat.reduceEqDiff, Int.reduceToNat, Nat.reduceMul, Nat.reduceSub]) | ((first | ((with_reducible refine d_cnd ?_); refine And.intro ?_ ?_) | (with_reducible refine r_cnd ?_ ?_)); all_goals (intro hc; (try simp only [push_cast, Int.reduceEq, Int.reduceLT, Int.reduceLE, Int.reduceNe] at hc))) | ((with_reducible refine hK _ _ ?_); clear hK; clear K) | ((with_reducible first | refine d_blk ?_ | refine d_rt0 ?_ | refine d_sk0 ?_ | refine d_ex0 ?_); (try simp only [go_sem, Nat.reduceAdd, Nat.reduceEqDiff, Int.reduceToNat, Nat.reduceMul, Nat.reduceSub])) | (with_reducible refine r_rq (by first | decide | omega) ?_) | ((with_reducible refine r_nwc ?_); intro b) | ((with_reducible first | apply i_lds | apply i_ldsq | apply i_ld | apply i_ldq); exact rfl) | ((with_reducible first | apply i_ldn | apply i_ldnq); exact rfl; exact rfl; exact rfl) | (with_reducible first | refine r_ph0 ?_ | apply i_kp0) | ((with_reducible first | apply i_st | apply i_stl); (focus simp); exact rfl) | simp only [go_sem, Nat.reduceAdd, Nat.reduceEqDiff, Int.reduceToNat, Nat.reduceMul, Nat.reduceSub] | (clear hK; clear K))
  refine i_clp F ?_
  repeat' ((fail_if_success with_reducible refine (id : E _ (ph _) → E _ (ph _)) ?_); first | ((with_reducible refine d_seq ?_); intro K hK) | ((with_reducible refine d_reg ?_); simp only [go_sem, Nat.reduceAdd, Nat.reduceEqDiff, Int.reduceToNat, Nat.reduceMul, Nat.reduceSub]) | ((first | ((with_reducible refine d_cnd ?_); refine And.intro ?_ ?_) | (with_reducible refine r_cnd ?_ ?_)); all_goals (intro hc; (try simp only [push_cast, Int.reduceEq, Int.reduceLT, Int.reduceLE, Int.reduceNe] at hc))) | ((with_reducible refine hK _ _ ?_); clear hK; clear K) | ((with_reducible first | refine d_blk ?_ | refine d_rt0 ?_ | refine d_sk0 ?_ | refine d_ex0 ?_); (try simp only [go_sem, Nat.reduceAdd, Nat.reduceEqDiff, Int.reduceToNat, Nat.reduceMul, Nat.reduceSub])) | (with_reducible refine r_rq (by first | decide | omega) ?_) | ((with_reducible refine r_nwc ?_); intro b) | ((with_reducible first | apply i_lds | apply i_ldsq | apply i_ld | apply i_ldq); exact rfl) | ((with_reducible first | apply i_ldn | apply i_ldnq); exact rfl; exact rfl; exact rfl) | (with_reducible first | refine r_ph0 ?_ | apply i_kp0) | ((with_reducible first | apply i_st | apply i_stl); (focus simp); exact rfl) | simp only [go_sem, Nat.reduceAdd, Nat.reduceEqDiff, Int.reduceToNat, Nat.reduceMul, Nat.reduceSub] | (clear hK; clear K))
  refine i_clp G ?_
  repeat' ((fail_if_success with_reducible refine (id : E _ (ph _) → E _ (ph _)) ?_); first | ((with_reducible refine d_seq ?_); intro K hK) | ((with_reducible refine d_reg ?_); simp only [go_sem, Nat.reduceAdd, Nat.reduceEqDiff, Int.reduceToNat, Nat.reduceMul, Nat.reduceSub]) | ((first | ((with_reducible refine d_cnd ?_); refine And.intro ?_ ?_) | (with_reducible refine r_cnd ?_ ?_)); all_goals (intro hc; (try simp only [push_cast, Int.reduceEq, Int.reduceLT, Int.reduceLE, Int.reduceNe] at hc))) | ((with_reducible refine hK _ _ ?_); clear hK; clear K) | ((with_reducible first | refine d_blk ?_ | refine d_rt0 ?_ | refine d_sk0 ?_ | refine d_ex0 ?_); (try simp only [go_sem, Nat.reduceAdd, Nat.reduceEqDiff, Int.reduceToNat, Nat.reduceMul, Nat.reduceSub])) | (with_reducible refine r_rq (by first | decide | omega) ?_) | ((with_reducible refine r_nwc ?_); intro b) | ((with_reducible first | apply i_lds | apply i_ldsq | apply i_ld | apply i_ldq); exact rfl) | ((with_reducible first | apply i_ldn | apply i_ldnq); exact rfl; exact rfl; exact rfl) | (with_reducible first | refine r_ph0 ?_ | apply i_kp0) | ((with_reducible first | apply i_st | apply i_stl); (focus simp); exact rfl) | simp only [go_sem, Nat.reduceAdd, Nat.reduceEqDiff, Int.reduceToNat, Nat.reduceMul, Nat.reduceSub] | (clear hK; clear K))
  (with_reducible first | apply i_ret0 | apply i_ret2 | apply i_ret3 | apply i_ret); exact rfl
  rfl
def fl (c : UInt8) : List UInt8 := List.replicate 224 c
theorem f47 (c : UInt8) : Fp eS Try.prog 47 #[.int .u8 (c.toNat : Int)] [] (fl c) := fun L => by
  refine c47_fn rfl rfl ?_
  repeat' ((fail_if_success with_reducible refine (id : E _ (ph _) → E _ (ph _)) ?_); first | ((with_reducible refine d_seq ?_); intro K hK) | ((with_reducible refine d_reg ?_); simp only [go_sem, Nat.reduceAdd, Nat.reduceEqDiff, Int.reduceToNat, Nat.reduceMul, Nat.reduceSub]) | ((first | ((with_reducible refine d_cnd ?_); refine And.intro ?_ ?_) | (with_reducible refine r_cnd ?_ ?_)); all_goals (intro hc; (try simp only [push_cast, Int.reduceEq, Int.reduceLT, Int.reduceLE, Int.reduceNe] at hc))) | ((with_reducible refine hK _ _ ?_); clear hK; clear K) | ((with_reducible first | refine d_blk ?_ | refine d_rt0 ?_ | refine d_sk0 ?_ | refine d_ex0 ?_); (try simp only [go_sem, Nat.reduceAdd, Nat.reduceEqDiff, Int.reduceToNat, Nat.reduceMul, Nat.reduceSub])) | (with_reducible refine r_rq (by first | decide | omega) ?_) | ((with_reducible refine r_nwc ?_); intro b) | ((with_reducible first | apply i_lds | apply i_ldsq | apply i_ld | apply i_ldq); exact rfl) | ((with_reducible first | apply i_ldn | apply i_ldnq); exact rfl; exact rfl; exact rfl) | (with_reducible first | refine r_ph0 ?_ | apply i_kp0) | ((with_reducible first | apply i_st | apply i_stl); (focus simp); exact rfl) | simp only [go_sem, Nat.reduceAdd, Nat.reduceEqDiff, Int.reduceToNat, Nat.reduceMul, Nat.reduceSub] | (clear hK; clear K))
  refine r_mkb (el := 5) 224 (by kernel_rfl) rfl (by decide) fun b => ?_
  repeat' ((fail_if_success with_reducible refine (id : E _ (ph _) → E _ (ph _)) ?_); first | ((with_reducible refine d_seq ?_); intro K hK) | ((with_reducible refine d_reg ?_); simp only [go_sem, Nat.reduceAdd, Nat.reduceEqDiff, Int.reduceToNat, Nat.reduceMul, Nat.reduceSub]) | ((first | ((with_reducible refine d_cnd ?_); refine And.intro ?_ ?_) | (with_reducible refine r_cnd ?_ ?_)); all_goals (intro hc; (try simp only [push_cast, Int.reduceEq, Int.reduceLT, Int.reduceLE, Int.reduceNe] at hc))) | ((with_reducible refine hK _ _ ?_); clear hK; clear K) | ((with_reducible first | refine d_blk ?_ | refine d_rt0 ?_ | refine d_sk0 ?_ | refine d_ex0 ?_); (try simp only [go_sem, Nat.reduceAdd, Nat.reduceEqDiff, Int.reduceToNat, Nat.reduceMul, Nat.reduceSub])) | (with_reducible refine r_rq (by first | decide | omega) ?_) | ((with_reducible refine r_nwc ?_); intro b) | ((with_reducible first | apply i_lds | apply i_ldsq | apply i_ld | apply i_ldq); exact rfl) | ((with_reducible first | apply i_ldn | apply i_ldnq); exact rfl; exact rfl; exact rfl) | (with_reducible first | refine r_ph0 ?_ | apply i_kp0) | ((with_reducible first | apply i_st | apply i_stl); (focus simp); exact rfl) | simp only [go_sem, Nat.reduceAdd, Nat.reduceEqDiff, Int.reduceToNat, Nat.reduceMul, Nat.reduceSub] | (clear hK; clear K))
  refine d_lp [0, 3, 4] (fun i : Nat => [(0, .int .u8 (c.toNat : Int)), (3, .slice (some ⟨b, 0, none⟩) 224 224), (4, .int .i64 (i : Int))])
    (fun i => ar b 5 (cb ((List.replicate 224 c).take i ++ List.replicate (224 - i) 0)) :: L) (fun i => i ≤ 224) (fun i => 224 - i) 0 rfl ?_ (by omega) ?_
  · have e : (List.replicate 224 c).take 0 ++ List.replicate (224 - 0) (0 : UInt8) = List.replicate 224 0 := by simp
    rw [e]
    exact SX.p
  intro i hi
  repeat' ((fail_if_success with_reducible refine (id : E _ (ph _) → E _ (ph _)) ?_); first | ((with_reducible refine d_seq ?_); intro K hK) | ((with_reducible refine d_reg ?_); simp only [go_sem, Nat.reduceAdd, Nat.reduceEqDiff, Int.reduceToNat, Nat.reduceMul, Nat.reduceSub]) | ((first | ((with_reducible refine d_cnd ?_); refine And.intro ?_ ?_) | (with_reducible refine r_cnd ?_ ?_)); all_goals (intro hc; (try simp only [push_cast, Int.reduceEq, Int.reduceLT, Int.reduceLE, Int.reduceNe] at hc))) | ((with_reducible refine hK _ _ ?_); clear hK; clear K) | ((with_reducible first | refine d_blk ?_ | refine d_rt0 ?_ | refine d_sk0 ?_ | refine d_ex0 ?_); (try simp only [go_sem, Nat.reduceAdd, Nat.reduceEqDiff, Int.reduceToNat, Nat.reduceMul, Nat.reduceSub])) | (with_reducible refine r_rq (by first | decide | omega) ?_) | ((with_reducible refine r_nwc ?_); intro b) | ((with_reducible first | apply i_lds | apply i_ldsq | apply i_ld | apply i_ldq); exact rfl) | ((with_reducible first | apply i_ldn | apply i_ldnq); exact rfl; exact rfl; exact rfl) | (with_reducible first | refine r_ph0 ?_ | apply i_kp0) | ((with_reducible first | apply i_st | apply i_stl); (focus simp); exact rfl) | simp only [go_sem, Nat.reduceAdd, Nat.reduceEqDiff, Int.reduceToNat, Nat.reduceMul, Nat.reduceSub] | (clear hK; clear K))
  · refine r_bs c .here (by rw [List.length_append, List.length_take, List.length_replicate, List.length_replicate]; omega) rfl ?_
    rw [part_set (by omega) (by simp) (by rw [List.getElem?_replicate, if_pos (by omega)])]
    repeat' ((fail_if_success with_reducible refine (id : E _ (ph _) → E _ (ph _)) ?_); first | ((with_reducible refine d_seq ?_); intro K hK) | ((with_reducible refine d_reg ?_); simp only [go_sem, Nat.reduceAdd, Nat.reduceEqDiff, Int.reduceToNat, Nat.reduceMul, Nat.reduceSub]) | ((first | ((with_reducible refine d_cnd ?_); refine And.intro ?_ ?_) | (with_reducible refine r_cnd ?_ ?_)); all_goals (intro hc; (try simp only [push_cast, Int.reduceEq, Int.reduceLT, Int.reduceLE, Int.reduceNe] at hc))) | ((with_reducible refine hK _ _ ?_); clear hK; clear K) | ((with_reducible first | refine d_blk ?_ | refine d_rt0 ?_ | refine d_sk0 ?_ | refine d_ex0 ?_); (try simp only [go_sem, Nat.reduceAdd, Nat.reduceEqDiff, Int.reduceToNat, Nat.reduceMul, Nat.reduceSub])) | (with_reducible refine r_rq (by first | decide | omega) ?_) | ((with_reducible refine r_nwc ?_); intro b) | ((with_reducible first | apply i_lds | apply i_ldsq | apply i_ld | apply i_ldq); exact rfl) | ((with_reducible first | apply i_ldn | apply i_ldnq); exact rfl; exact rfl; exact rfl) | (with_reducible first | refine r_ph0 ?_ | apply i_kp0) | ((with_reducible first | apply i_st | apply i_stl); (focus simp); exact rfl) | simp only [go_sem, Nat.reduceAdd, Nat.reduceEqDiff, Int.reduceToNat, Nat.reduceMul, Nat.reduceSub] | (clear hK; clear K))
    rw [w64 (by omega) (by omega)]
    exact i_bk (i + 1) rfl (by omega) (by omega)
  · obtain rfl : i = 224 := by omega
    have e : (List.replicate 224 c).take 224 ++ List.replicate (224 - 224) (0 : UInt8) = fl c := by simp [fl]
    rw [e]
    refine r_conv (bs := fl c) (by kernel_rfl) ((Rs_ar (by rw [cb_len]; rfl)).eqn rfl) .here ?_
    repeat' (first | ((with_reducible refine d_seq ?_); intro K hK) | ((with_reducible refine d_reg ?_); simp only [go_sem, Nat.reduceAdd, Nat.reduceEqDiff, Int.reduceToNat, Nat.reduceMul, Nat.reduceSub]) | ((first | ((with_reducible refine d_cnd ?_); refine And.intro ?_ ?_) | (with_reducible refine r_cnd ?_ ?_)); all_goals (intro hc; (try simp only [push_cast, Int.reduceEq, Int.reduceLT, Int.reduceLE, Int.reduceNe] at hc))) | ((with_reducible refine hK _ _ ?_); clear hK; clear K) | ((with_reducible first | refine d_blk ?_ | refine d_rt0 ?_ | refine d_sk0 ?_ | refine d_ex0 ?_); (try simp only [go_sem, Nat.reduceAdd, Nat.reduceEqDiff, Int.reduceToNat, Nat.reduceMul, Nat.reduceSub])) | (with_reducible refine r_rq (by first | decide | omega) ?_) | ((with_reducible refine r_nwc ?_); intro b) | ((with_reducible first | apply i_lds | apply i_ldsq | apply i_ld | apply i_ldq); exact rfl) | ((with_reducible first | apply i_ldn | apply i_ldnq); exact rfl; exact rfl; exact rfl) | (with_reducible first | refine r_ph0 ?_ | apply i_kp0) | ((with_reducible first | apply i_st | apply i_stl); (focus simp); exact rfl) | simp only [go_sem, Nat.reduceAdd, Nat.reduceEqDiff, Int.reduceToNat, Nat.reduceMul, Nat.reduceSub] | (clear hK; clear K))
    (with_reducible first | apply i_ret0 | apply i_ret2 | apply i_ret3 | apply i_ret); exact rfl
    rfl
end Go.Sp
/- The store: a page is written. -/
namespace Go.Sp
open Go Go.Proofs
set_option linter.unusedSimpArgs false
set_option linter.unusedVariables false
set_option maxRecDepth 10000
def pt (text : List UInt8) (i : Nat) : List UInt8 := (text.drop (56 * i)).take 56
theorem pt_len {text : List UInt8} (h : text.length = 224) {i : Nat} (hi : i < 4) : (pt text i).length = 56 := by
  simp [pt, h]; omega
theorem pt_ss (text : List UInt8) (i : Nat) : ss text ((i * 56 : Nat) : Int) (((i + 1) * 56 : Nat) : Int) = pt text i := by
  have e : (i + 1) * 56 = 56 * i + 56 := by omega
  unfold pt
  rw [e, Nat.mul_comm i 56]
  exact ss_n text (56 * i) 56
def Dk.wp (Z : Dk) (a : Nat) (m text : List UInt8) : Nat → Int × Dk
  | 0 => (0, Z)
  | k + 1 => if (Z.wp a m text k).1 = 0 then (Z.wp a m text k).2.write ((a + k : Nat) : Int) (m ++ pt text k) else Z.wp a m text k
theorem Dk.wp_ok {Z : Dk} (h : Z.ok) (a : Nat) (m text : List UInt8) : ∀ k, (Z.wp a m text k).2.ok ∧ (Z.wp a m text k).2.sb = Z.sb
  | 0 => ⟨h, rfl⟩
  | k + 1 => by
    obtain ⟨h1, h2⟩ := Dk.wp_ok h a m text k
    unfold Dk.wp
    split
    · exact ⟨Dk.write_ok h1 _ _, (Dk.write_sb _ _ _).trans h2⟩
    · exact ⟨h1, h2⟩
theorem Dk.wp_bad {Z : Dk} {a : Nat} {m text : List UInt8} {i : Nat} (h : (Z.wp a m text i).1 ≠ 0) : ∀ k, Z.wp a m text (i + k) = Z.wp a m text i
  | 0 => rfl
  | k + 1 => by
    have ih := Dk.wp_bad h k
    show (if (Z.wp a m text (i + k)).1 = 0 then _ else Z.wp a m text (i + k)) = _
    rw [ih, if_neg h]
def Dk.wpg (Z : Dk) (S : St) (id : Int) (text : List UInt8) (lsn : Int) : Int × Dk :=
  if S.chk id = 0 then (if text.length = 224 then (if lsn < 0 ∨ 281474976710656 ≤ lsn then (6, Z) else Z.wp (S.base + 4 * id.toNat) (mk8 S.gen lsn) text 4) else (4, Z)) else (6, Z)
theorem St.chk_or (S : St) (id : Int) : S.chk id = 6 ∨ S.chk id = 0 := by unfold St.chk; split <;> simp
theorem St.chk_in {S : St} {id : Int} (h : S.chk id = 0) : ∃ p : Nat, id = (p : Int) ∧ p < S.pages := by
  unfold St.chk at h
  split at h
  · cases h
  · exact ⟨id.toNat, by omega, by omega⟩
theorem f46 (S : St) (Z : Dk) (h : Z.ok) (hS : S.ok Z.sure.length) (id : Int) (text : List UInt8) (lsn : Int) :
    Fq eI Try.prog 46 #[S.p, .int .i64 id, str text, .int .i64 lsn] [spt S Z.sb, dk Z] [spt S Z.sb, dk (Z.wpg S id text lsn).2] (Z.wpg S id text lsn).1 := by
  have C := f82 S Z.sb id
  have M := f83 S Z.sb hS.g2 lsn
  unfold Dk.wpg
  rcases S.chk_or id with hc | hc
  · rw [hc] at C ⊢
    rw [if_neg (by decide : ¬ (6 : Int) = 0)]
    intro L
    refine c46_fn rfl rfl ?_
    repeat' ((fail_if_success with_reducible refine (id : E _ (ph _) → E _ (ph _)) ?_); first | ((with_reducible refine d_seq ?_); intro K hK) | ((with_reducible refine d_reg ?_); simp only [go_sem, Nat.reduceAdd, Nat.reduceEqDiff, Int.reduceToNat, Nat.reduceMul, Nat.reduceSub]) | ((first | ((with_reducible refine d_cnd ?_); refine And.intro ?_ ?_) | (with_reducible refine r_cnd ?_ ?_)); all_goals (intro hc; (try simp only [push_cast, Int.reduceEq, Int.reduceLT, Int.reduceLE, Int.reduceNe] at hc))) | ((with_reducible refine hK _ _ ?_); clear hK; clear K) | ((with_reducible first | refine d_blk ?_ | refine d_rt0 ?_ | refine d_sk0 ?_ | refine d_ex0 ?_); (try simp only [go_sem, Nat.reduceAdd, Nat.reduceEqDiff, Int.reduceToNat, Nat.reduceMul, Nat.reduceSub])) | (with_reducible refine r_rq (by first | decide | omega) ?_) | ((with_reducible refine r_nwc ?_); intro b) | ((with_reducible first | apply i_lds | apply i_ldsq | apply i_ld | apply i_ldq); exact rfl) | ((with_reducible first | apply i_ldn | apply i_ldnq); exact rfl; exact rfl; exact rfl) | (with_reducible first | refine r_ph0 ?_ | apply i_kp0) | ((with_reducible first | apply i_st | apply i_stl); (focus simp); exact rfl) | simp only [go_sem, Nat.reduceAdd, Nat.reduceEqDiff, Int.reduceToNat, Nat.reduceMul, Nat.reduceSub] | (clear hK; clear K))
    refine i_clp C ?_
    repeat' ((fail_if_success with_reducible refine (id : E _ (ph _) → E _ (ph _)) ?_); first | ((with_reducible refine d_seq ?_); intro K hK) | ((with_reducible refine d_reg ?_); simp only [go_sem, Nat.reduceAdd, Nat.reduceEqDiff, Int.reduceToNat, Nat.reduceMul, Nat.reduceSub]) | ((first | ((with_reducible refine d_cnd ?_); refine And.intro ?_ ?_) | (with_reducible refine r_cnd ?_ ?_)); all_goals (intro hc; (try simp only [push_cast, Int.reduceEq, Int.reduceLT, Int.reduceLE, Int.reduceNe] at hc))) | ((with_reducible refine hK _ _ ?_); clear hK; clear K) | ((with_reducible first | refine d_blk ?_ | refine d_rt0 ?_ | refine d_sk0 ?_ | refine d_ex0 ?_); (try simp only [go_sem, Nat.reduceAdd, Nat.reduceEqDiff, Int.reduceToNat, Nat.reduceMul, Nat.reduceSub])) | (with_reducible refine r_rq (by first | decide | omega) ?_) | ((with_reducible refine r_nwc ?_); intro b) | ((with_reducible first | apply i_lds | apply i_ldsq | apply i_ld | apply i_ldq); exact rfl) | ((with_reducible first | apply i_ldn | apply i_ldnq); exact rfl; exact rfl; exact rfl) | (with_reducible first | refine r_ph0 ?_ | apply i_kp0) | ((with_reducible first | apply i_st | apply i_stl); (focus simp); exact rfl) | simp only [go_sem, Nat.reduceAdd, Nat.reduceEqDiff, Int.reduceToNat, Nat.reduceMul, Nat.reduceSub] | (clear hK; clear K))
    all_goals try (first | contradiction | (simp only [ reduceCtorEq] at *; done) | (exfalso; omega))
    (with_reducible first | apply i_ret0 | apply i_ret2 | apply i_ret3 | apply i_ret); exact rfl
    rfl
  · obtain ⟨p, rfl, hp⟩ := St.chk_in hc
    rw [hc] at C ⊢
    rw [if_pos rfl]
    by_cases h1 : text.length = 224
    · rw [if_pos h1]
      by_cases h2 : lsn < 0 ∨ 281474976710656 ≤ lsn
      · rw [if_pos h2] at M ⊢
        intro L
        refine c46_fn rfl rfl ?_
        repeat' ((fail_if_success with_reducible refine (id : E _ (ph _) → E _ (ph _)) ?_); first | ((with_reducible refine d_seq ?_); intro K hK) | ((with_reducible refine d_reg ?_); simp only [go_sem, Nat.reduceAdd, Nat.reduceEqDiff, Int.reduceToNat, Nat.reduceMul, Nat.reduceSub]) | ((first | ((with_reducible refine d_cnd ?_); refine And.intro ?_ ?_) | (with_reducible refine r_cnd ?_ ?_)); all_goals (intro hc; (try simp only [push_cast, Int.reduceEq, Int.reduceLT, Int.reduceLE, Int.reduceNe] at hc))) | ((with_reducible refine hK _ _ ?_); clear hK; clear K) | ((with_reducible first | refine d_blk ?_ | refine d_rt0 ?_ | refine d_sk0 ?_ | refine d_ex0 ?_); (try simp only [go_sem, Nat.reduceAdd, Nat.reduceEqDiff, Int.reduceToNat, Nat.reduceMul, Nat.reduceSub])) | (with_reducible refine r_rq (by first | decide | omega) ?_) | ((with_reducible refine r_nwc ?_); intro b) | ((with_reducible first | apply i_lds | apply i_ldsq | apply i_ld | apply i_ldq); exact rfl) | ((with_reducible first | apply i_ldn | apply i_ldnq); exact rfl; exact rfl; exact rfl) | (with_reducible first | refine r_ph0 ?_ | apply i_kp0) | ((with_reducible first | apply i_st | apply i_stl); (focus simp); exact rfl) | simp only [go_sem, Nat.reduceAdd, Nat.reduceEqDiff, Int.reduceToNat, Nat.reduceMul, Nat.reduceSub] | (clear hK; clear K))
        refine i_clp C ?_
        repeat' ((fail_if_success with_reducible refine (id : E _ (ph _) → E _ (ph _)) ?_); first | ((with_reducible refine d_seq ?_); intro K hK) | ((with_reducible refine d_reg ?_); simp only [go_sem, Nat.reduceAdd, Nat.reduceEqDiff, Int.reduceToNat, Nat.reduceMul, Nat.reduceSub]) | ((first | ((with_reducible refine d_cnd ?_); refine And.intro ?_ ?_) | (with_reducible refine r_cnd ?_ ?_)); all_goals (intro hc; (try simp only [push_cast, Int.reduceEq, Int.reduceLT, Int.reduceLE, Int.reduceNe] at hc))) | ((with_reducible refine hK _ _ ?_); clear hK; clear K) | ((with_reducible first | refine d_blk ?_ | refine d_rt0 ?_ | refine d_sk0 ?_ | refine d_ex0 ?_); (try simp only [go_sem, Nat.reduceAdd, Nat.reduceEqDiff, Int.reduceToNat, Nat.reduceMul, Nat.reduceSub])) | (with_reducible refine r_rq (by first | decide | omega) ?_) | ((with_reducible refine r_nwc ?_); intro b) | ((with_reducible first | apply i_lds | apply i_ldsq | apply i_ld | apply i_ldq); exact rfl) | ((with_reducible first | apply i_ldn | apply i_ldnq); exact rfl; exact rfl; exact rfl) | (with_reducible first | refine r_ph0 ?_ | apply i_kp0) | ((with_reducible first | apply i_st | apply i_stl); (focus simp); exact rfl) | simp only [go_sem, Nat.reduceAdd, Nat.reduceEqDiff, Int.reduceToNat, Nat.reduceMul, Nat.reduceSub] | (clear hK; clear K))
        all_goals try (exfalso; omega)
        refine i_clp M ?_
        repeat' ((fail_if_success with_reducible refine (id : E _ (ph _) → E _ (ph _)) ?_); first | ((with_reducible refine d_seq ?_); intro K hK) | ((with_reducible refine d_reg ?_); simp only [go_sem, Nat.reduceAdd, Nat.reduceEqDiff, Int.reduceToNat, Nat.reduceMul, Nat.reduceSub]) | ((first | ((with_reducible refine d_cnd ?_); refine And.intro ?_ ?_) | (with_reducible refine r_cnd ?_ ?_)); all_goals (intro hc; (try simp only [push_cast, Int.reduceEq, Int.reduceLT, Int.reduceLE, Int.reduceNe] at hc))) | ((with_reducible refine hK _ _ ?_); clear hK; clear K) | ((with_reducible first | refine d_blk ?_ | refine d_rt0 ?_ | refine d_sk0 ?_ | refine d_ex0 ?_); (try simp only [go_sem, Nat.reduceAdd, Nat.reduceEqDiff, Int.reduceToNat, Nat.reduceMul, Nat.reduceSub])) | (with_reducible refine r_rq (by first | decide | omega) ?_) | ((with_reducible refine r_nwc ?_); intro b) | ((with_reducible first | apply i_lds | apply i_ldsq | apply i_ld | apply i_ldq); exact rfl) | ((with_reducible first | apply i_ldn | apply i_ldnq); exact rfl; exact rfl; exact rfl) | (with_reducible first | refine r_ph0 ?_ | apply i_kp0) | ((with_reducible first | apply i_st | apply i_stl); (focus simp); exact rfl) | simp only [go_sem, Nat.reduceAdd, Nat.reduceEqDiff, Int.reduceToNat, Nat.reduceMul, Nat.reduceSub] | (clear hK; clear K))
        all_goals try (first | contradiction | (simp only [ reduceCtorEq] at *; done) | (exfalso; omega))
        (with_reducible first | apply i_ret0 | apply i_ret2 | apply i_ret3 | apply i_ret); exact rfl
        rfl
      · rw [if_neg h2] at M ⊢
        rw [Int.toNat_natCast]
        have hm := mk8_len S.gen lsn
        generalize mk8 S.gen lsn = m at *
        obtain ⟨a, ha⟩ : ∃ a, a = S.base + 4 * p := ⟨_, rfl⟩
        rw [← ha]
        have hfit := hS.fit
        have hn1 := hS.n1
        clear h2 hc
        intro L
        refine c46_fn rfl rfl ?_
        repeat' ((fail_if_success with_reducible refine (id : E _ (ph _) → E _ (ph _)) ?_); first | ((with_reducible refine d_seq ?_); intro K hK) | ((with_reducible refine d_reg ?_); simp only [go_sem, Nat.reduceAdd, Nat.reduceEqDiff, Int.reduceToNat, Nat.reduceMul, Nat.reduceSub]) | ((first | ((with_reducible refine d_cnd ?_); refine And.intro ?_ ?_) | (with_reducible refine r_cnd ?_ ?_)); all_goals (intro hc; (try simp only [push_cast, Int.reduceEq, Int.reduceLT, Int.reduceLE, Int.reduceNe] at hc))) | ((with_reducible refine hK _ _ ?_); clear hK; clear K) | ((with_reducible first | refine d_blk ?_ | refine d_rt0 ?_ | refine d_sk0 ?_ | refine d_ex0 ?_); (try simp only [go_sem, Nat.reduceAdd, Nat.reduceEqDiff, Int.reduceToNat, Nat.reduceMul, Nat.reduceSub])) | (with_reducible refine r_rq (by first | decide | omega) ?_) | ((with_reducible refine r_nwc ?_); intro b) | ((with_reducible first | apply i_lds | apply i_ldsq | apply i_ld | apply i_ldq); exact rfl) | ((with_reducible first | apply i_ldn | apply i_ldnq); exact rfl; exact rfl; exact rfl) | (with_reducible first | refine r_ph0 ?_ | apply i_kp0) | ((with_reducible first | apply i_st | apply i_stl); (focus simp); exact rfl) | simp only [go_sem, Nat.reduceAdd, Nat.reduceEqDiff, Int.reduceToNat, Nat.reduceMul, Nat.reduceSub] | (clear hK; clear K))
        refine i_clp C ?_
        repeat' ((fail_if_success with_reducible refine (id : E _ (ph _) → E _ (ph _)) ?_); first | ((with_reducible refine d_seq ?_); intro K hK) | ((with_reducible refine d_reg ?_); simp only [go_sem, Nat.reduceAdd, Nat.reduceEqDiff, Int.reduceToNat, Nat.reduceMul, Nat.reduceSub]) | ((first | ((with_reducible refine d_cnd ?_); refine And.intro ?_ ?_) | (with_reducible refine r_cnd ?_ ?_)); all_goals (intro hc; (try simp only [push_cast, Int.reduceEq, Int.reduceLT, Int.reduceLE, Int.reduceNe] at hc))) | ((with_reducible refine hK _ _ ?_); clear hK; clear K) | ((with_reducible first | refine d_blk ?_ | refine d_rt0 ?_ | refine d_sk0 ?_ | refine d_ex0 ?_); (try simp only [go_sem, Nat.reduceAdd, Nat.reduceEqDiff, Int.reduceToNat, Nat.reduceMul, Nat.reduceSub])) | (with_reducible refine r_rq (by first | decide | omega) ?_) | ((with_reducible refine r_nwc ?_); intro b) | ((with_reducible first | apply i_lds | apply i_ldsq | apply i_ld | apply i_ldq); exact rfl) | ((with_reducible first | apply i_ldn | apply i_ldnq); exact rfl; exact rfl; exact rfl) | (with_reducible first | refine r_ph0 ?_ | apply i_kp0) | ((with_reducible first | apply i_st | apply i_stl); (focus simp); exact rfl) | simp only [go_sem, Nat.reduceAdd, Nat.reduceEqDiff, Int.reduceToNat, Nat.reduceMul, Nat.reduceSub] | (clear hK; clear K))
        all_goals try (exfalso; omega)
        refine i_clp M ?_
        repeat' ((fail_if_success with_reducible refine (id : E _ (ph _) → E _ (ph _)) ?_); first | ((with_reducible refine d_seq ?_); intro K hK) | ((with_reducible refine d_reg ?_); simp only [go_sem, Nat.reduceAdd, Nat.reduceEqDiff, Int.reduceToNat, Nat.reduceMul, Nat.reduceSub]) | ((first | ((with_reducible refine d_cnd ?_); refine And.intro ?_ ?_) | (with_reducible refine r_cnd ?_ ?_)); all_goals (intro hc; (try simp only [push_cast, Int.reduceEq, Int.reduceLT, Int.reduceLE, Int.reduceNe] at hc))) | ((with_reducible refine hK _ _ ?_); clear hK; clear K) | ((with_reducible first | refine d_blk ?_ | refine d_rt0 ?_ | refine d_sk0 ?_ | refine d_ex0 ?_); (try simp only [go_sem, Nat.reduceAdd, Nat.reduceEqDiff, Int.reduceToNat, Nat.reduceMul, Nat.reduceSub])) | (with_reducible refine r_rq (by first | decide | omega) ?_) | ((with_reducible refine r_nwc ?_); intro b) | ((with_reducible first | apply i_lds | apply i_ldsq | apply i_ld | apply i_ldq); exact rfl) | ((with_reducible first | apply i_ldn | apply i_ldnq); exact rfl; exact rfl; exact rfl) | (with_reducible first | refine r_ph0 ?_ | apply i_kp0) | ((with_reducible first | apply i_st | apply i_stl); (focus simp); exact rfl) | simp only [go_sem, Nat.reduceAdd, Nat.reduceEqDiff, Int.reduceToNat, Nat.reduceMul, Nat.reduceSub] | (clear hK; clear K))
        all_goals try (first | contradiction | (simp only [ reduceCtorEq] at *; done) | (exfalso; omega))
        refine d_lp [0, 1, 2, 10, 32] (fun i : Nat => [(0, .pointer (some ⟨S.q, 0, none⟩)), (1, .int .i64 (p : Int)), (2, str text), (10, str m), (32, .int .i64 (i : Int))])
          (fun i => spt S Z.sb :: dk (Z.wp a m text i).2 :: L) (fun i => i ≤ 4 ∧ (Z.wp a m text i).1 = 0) (fun i => 4 - i) 0 rfl ?_ ⟨by omega, rfl⟩ ?_
        · show Sub (spt S Z.sb :: dk Z :: L) _
          exact SX.p
        rintro i ⟨hi, h0⟩
        repeat' ((fail_if_success with_reducible refine (id : E _ (ph _) → E _ (ph _)) ?_); first | ((with_reducible refine d_seq ?_); intro K hK) | ((with_reducible refine d_reg ?_); simp only [go_sem, Nat.reduceAdd, Nat.reduceEqDiff, Int.reduceToNat, Nat.reduceMul, Nat.reduceSub]) | ((first | ((with_reducible refine d_cnd ?_); refine And.intro ?_ ?_) | (with_reducible refine r_cnd ?_ ?_)); all_goals (intro hc; (try simp only [push_cast, Int.reduceEq, Int.reduceLT, Int.reduceLE, Int.reduceNe] at hc))) | ((with_reducible refine hK _ _ ?_); clear hK; clear K) | ((with_reducible first | refine d_blk ?_ | refine d_rt0 ?_ | refine d_sk0 ?_ | refine d_ex0 ?_); (try simp only [go_sem, Nat.reduceAdd, Nat.reduceEqDiff, Int.reduceToNat, Nat.reduceMul, Nat.reduceSub])) | (with_reducible refine r_rq (by first | decide | omega) ?_) | ((with_reducible refine r_nwc ?_); intro b) | ((with_reducible first | apply i_lds | apply i_ldsq | apply i_ld | apply i_ldq); exact rfl) | ((with_reducible first | apply i_ldn | apply i_ldnq); exact rfl; exact rfl; exact rfl) | (with_reducible first | refine r_ph0 ?_ | apply i_kp0) | ((with_reducible first | apply i_st | apply i_stl); (focus simp); exact rfl) | simp only [go_sem, Nat.reduceAdd, Nat.reduceEqDiff, Int.reduceToNat, Nat.reduceMul, Nat.reduceSub] | (clear hK; clear K))
        · obtain ⟨o1, o2⟩ := Dk.wp_ok h a m text i
          have F := F27 _ o1 ((a + i : Nat) : Int) (m ++ pt text i)
          have es : Z.wp a m text (i + 1) = (Z.wp a m text i).2.write ((a + i : Nat) : Int) (m ++ pt text i) := by show ite _ _ _ = _; rw [if_pos h0]
          rw [← es] at F
          simp only [Dk.p, o2] at F
          have e1 : IntKind.wrap .i64 ((i : Int) * 56) = ((i * 56 : Nat) : Int) := by rw [w64 (by omega) (by omega)]; omega
          have e2 : IntKind.wrap .i64 (IntKind.wrap .i64 ((i : Int) + 1) * 56) = (((i + 1) * 56 : Nat) : Int) := by rw [w64 (n := (i : Int) + 1) (by omega) (by omega), w64 (by omega) (by omega)]; omega
          have e3 : IntKind.wrap .i64 (IntKind.wrap .i64 ((S.base : Int) + IntKind.wrap .i64 (4 * (p : Int))) + (i : Int)) = ((a + i : Nat) : Int) := by
            rw [w64 (n := 4 * (p : Int)) (by omega) (by omega), w64 (n := (S.base : Int) + 4 * (p : Int)) (by omega) (by omega), w64 (by omega) (by omega)]; omega
          have hpl := pt_len h1 (i := i) (by omega)
          rw [e1, e2, pt_ss]
          repeat' (first | ((with_reducible refine d_seq ?_); intro K hK) | ((with_reducible refine d_reg ?_); simp only [go_sem, Nat.reduceAdd, Nat.reduceEqDiff, Int.reduceToNat, Nat.reduceMul, Nat.reduceSub]) | ((first | ((with_reducible refine d_cnd ?_); refine And.intro ?_ ?_) | (with_reducible refine r_cnd ?_ ?_)); all_goals (intro hc; (try simp only [push_cast, Int.reduceEq, Int.reduceLT, Int.reduceLE, Int.reduceNe] at hc))) | ((with_reducible refine hK _ _ ?_); clear hK; clear K) | ((with_reducible first | refine d_blk ?_ | refine d_rt0 ?_ | refine d_sk0 ?_ | refine d_ex0 ?_); (try simp only [go_sem, Nat.reduceAdd, Nat.reduceEqDiff, Int.reduceToNat, Nat.reduceMul, Nat.reduceSub])) | (with_reducible refine r_rq (by first | decide | omega) ?_) | ((with_reducible refine r_nwc ?_); intro b) | ((with_reducible first | apply i_lds | apply i_ldsq | apply i_ld | apply i_ldq); exact rfl) | ((with_reducible first | apply i_ldn | apply i_ldnq); exact rfl; exact rfl; exact rfl) | (with_reducible first | refine r_ph0 ?_ | apply i_kp0) | ((with_reducible first | apply i_st | apply i_stl); (focus simp); exact rfl) | simp only [go_sem, Nat.reduceAdd, Nat.reduceEqDiff, Int.reduceToNat, Nat.reduceMul, Nat.reduceSub] | (clear hK; clear K))
          rw [e3]
          refine i_clq F ?_
          repeat' ((fail_if_success with_reducible refine (id : E _ (ph _) → E _ (ph _)) ?_); first | ((with_reducible refine d_seq ?_); intro K hK) | ((with_reducible refine d_reg ?_); simp only [go_sem, Nat.reduceAdd, Nat.reduceEqDiff, Int.reduceToNat, Nat.reduceMul, Nat.reduceSub]) | ((first | ((with_reducible refine d_cnd ?_); refine And.intro ?_ ?_) | (with_reducible refine r_cnd ?_ ?_)); all_goals (intro hc; (try simp only [push_cast, Int.reduceEq, Int.reduceLT, Int.reduceLE, Int.reduceNe] at hc))) | ((with_reducible refine hK _ _ ?_); clear hK; clear K) | ((with_reducible first | refine d_blk ?_ | refine d_rt0 ?_ | refine d_sk0 ?_ | refine d_ex0 ?_); (try simp only [go_sem, Nat.reduceAdd, Nat.reduceEqDiff, Int.reduceToNat, Nat.reduceMul, Nat.reduceSub])) | (with_reducible refine r_rq (by first | decide | omega) ?_) | ((with_reducible refine r_nwc ?_); intro b) | ((with_reducible first | apply i_lds | apply i_ldsq | apply i_ld | apply i_ldq); exact rfl) | ((with_reducible first | apply i_ldn | apply i_ldnq); exact rfl; exact rfl; exact rfl) | (with_reducible first | refine r_ph0 ?_ | apply i_kp0) | ((with_reducible first | apply i_st | apply i_stl); (focus simp); exact rfl) | simp only [go_sem, Nat.reduceAdd, Nat.reduceEqDiff, Int.reduceToNat, Nat.reduceMul, Nat.reduceSub] | (clear hK; clear K))
          · have hb : (Z.wp a m text (i + 1)).1 ≠ 0 := by assumption
            have e4 : Z.wp a m text 4 = Z.wp a m text (i + 1) := by
              have := Dk.wp_bad hb (4 - (i + 1))
              rwa [show i + 1 + (4 - (i + 1)) = 4 by omega] at this
            rw [e4]
            (with_reducible first | apply i_ret0 | apply i_ret2 | apply i_ret3 | apply i_ret); exact rfl
            rfl
          · have hb : (Z.wp a m text (i + 1)).1 = 0 := by assumption
            rw [w64 (by omega) (by omega)]
            exact i_bk (i + 1) rfl ⟨by omega, hb⟩ (by omega)
        · obtain rfl : i = 4 := by omega
          (with_reducible first | apply i_ret0 | apply i_ret2 | apply i_ret3 | apply i_ret); exact rfl
          exact h0.symm
    · rw [if_neg h1]
      intro L
      refine c46_fn rfl rfl ?_
      repeat' ((fail_if_success with_reducible refine (id : E _ (ph _) → E _ (ph _)) ?_); first | ((with_reducible refine d_seq ?_); intro K hK) | ((with_reducible refine d_reg ?_); simp only [go_sem, Nat.reduceAdd, Nat.reduceEqDiff, Int.reduceToNat, Nat.reduceMul, Nat.reduceSub]) | ((first | ((with_reducible refine d_cnd ?_); refine And.intro ?_ ?_) | (with_reducible refine r_cnd ?_ ?_)); all_goals (intro hc; (try simp only [push_cast, Int.reduceEq, Int.reduceLT, Int.reduceLE, Int.reduceNe] at hc))) | ((with_reducible refine hK _ _ ?_); clear hK; clear K) | ((with_reducible first | refine d_blk ?_ | refine d_rt0 ?_ | refine d_sk0 ?_ | refine d_ex0 ?_); (try simp only [go_sem, Nat.reduceAdd, Nat.reduceEqDiff, Int.reduceToNat, Nat.reduceMul, Nat.reduceSub])) | (with_reducible refine r_rq (by first | decide | omega) ?_) | ((with_reducible refine r_nwc ?_); intro b) | ((with_reducible first | apply i_lds | apply i_ldsq | apply i_ld | apply i_ldq); exact rfl) | ((with_reducible first | apply i_ldn | apply i_ldnq); exact rfl; exact rfl; exact rfl) | (with_reducible first | refine r_ph0 ?_ | apply i_kp0) | ((with_reducible first | apply i_st | apply i_stl); (focus simp); exact rfl) | simp only [go_sem, Nat.reduceAdd, Nat.reduceEqDiff, Int.reduceToNat, Nat.reduceMul, Nat.reduceSub] | (clear hK; clear K))
      refine i_clp C ?_
      repeat' ((fail_if_success with_reducible refine (id : E _ (ph _) → E _ (ph _)) ?_); first | ((with_reducible refine d_seq ?_); intro K hK) | ((with_reducible refine d_reg ?_); simp only [go_sem, Nat.reduceAdd, Nat.reduceEqDiff, Int.reduceToNat, Nat.reduceMul, Nat.reduceSub]) | ((first | ((with_reducible refine d_cnd ?_); refine And.intro ?_ ?_) | (with_reducible refine r_cnd ?_ ?_)); all_goals (intro hc; (try simp only [push_cast, Int.reduceEq, Int.reduceLT, Int.reduceLE, Int.reduceNe] at hc))) | ((with_reducible refine hK _ _ ?_); clear hK; clear K) | ((with_reducible first | refine d_blk ?_ | refine d_rt0 ?_ | refine d_sk0 ?_ | refine d_ex0 ?_); (try simp only [go_sem, Nat.reduceAdd, Nat.reduceEqDiff, Int.reduceToNat, Nat.reduceMul, Nat.reduceSub])) | (with_reducible refine r_rq (by first | decide | omega) ?_) | ((with_reducible refine r_nwc ?_); intro b) | ((with_reducible first | apply i_lds | apply i_ldsq | apply i_ld | apply i_ldq); exact rfl) | ((with_reducible first | apply i_ldn | apply i_ldnq); exact rfl; exact rfl; exact rfl) | (with_reducible first | refine r_ph0 ?_ | apply i_kp0) | ((with_reducible first | apply i_st | apply i_stl); (focus simp); exact rfl) | simp only [go_sem, Nat.reduceAdd, Nat.reduceEqDiff, Int.reduceToNat, Nat.reduceMul, Nat.reduceSub] | (clear hK; clear K))
      all_goals try (exfalso; omega)
      (with_reducible first | apply i_ret0 | apply i_ret2 | apply i_ret3 | apply i_ret); exact rfl
      rfl
end Go.Sp
/- The store: a page is read. -/
namespace Go.Sp
open Go Go.Proofs
set_option linter.unusedSimpArgs false
set_option linter.unusedVariables false
set_option maxRecDepth 10000
def Dk.sc (Z : Dk) (a i : Nat) : List UInt8 := Z.get ((a + i : Nat) : Int)
def Dk.rtx (Z : Dk) (a : Nat) : Nat → List UInt8
  | 0 => []
  | i + 1 => Z.rtx a i ++ (Z.sc a i).drop 8
def Dk.rsm (Z : Dk) (a gen : Nat) : Nat → Bool
  | 0 => false
  | i + 1 => Z.rsm a gen i || (be ((Z.sc a i).take 2) == gen)
def Dk.rwh (Z : Dk) (a : Nat) : Nat → Bool
  | 0 => true
  | i + 1 => Z.rwh a i && ((Z.sc a i).take 8 == (Z.sc a 0).take 8)
def Dk.rpg (Z : Dk) (S : St) (id : Int) : List UInt8 × Int × Int :=
  if S.chk id = 0 then (if Z.up then (if Z.rsm (S.base + 4 * id.toNat) S.gen 4 then (if Z.rwh (S.base + 4 * id.toNat) 4 then (Z.rtx (S.base + 4 * id.toNat) 4, (be ((((Z.sc (S.base + 4 * id.toNat) 0).take 8).drop 2).take 6) : Int), 0) else ([], 0, 10)) else ([], 0, 8)) else ([], 0, 9)) else ([], 0, 6)
theorem ss_08 (s : List UInt8) : ss s 0 8 = s.take 8 := by unfold ss; simp
theorem ss_8n {s : List UInt8} : ss s 8 (s.length : Int) = s.drop 8 := by unfold ss; simp
theorem nbeq (m n : Nat) : ((m : Int) == (n : Int)) = (m == n) := by
  rw [Bool.eq_iff_iff, beq_iff_eq, beq_iff_eq]
  omega
set_option maxHeartbeats 1000000 in
theorem f49 (S : St) (Z : Dk) (h : Z.ok) (hS : S.ok Z.sure.length) (id : Int) : Fp (eT3 eS eI eI) Try.prog 49 #[S.p, .int .i64 id] [spt S Z.sb, dk Z] (Z.rpg S id) := by
  have C := f82 S Z.sb id
  unfold Dk.rpg
  rcases S.chk_or id with hc | hc
  · rw [hc] at C ⊢
    rw [if_neg (by decide : ¬ (6 : Int) = 0)]
    intro L
    refine c49_fn rfl rfl ?_
    repeat' ((fail_if_success with_reducible refine (id : E _ (ph _) → E _ (ph _)) ?_); first | ((with_reducible refine d_seq ?_); intro K hK) | ((with_reducible refine d_reg ?_); simp only [go_sem, Nat.reduceAdd, Nat.reduceEqDiff, Int.reduceToNat, Nat.reduceMul, Nat.reduceSub]) | ((first | ((with_reducible refine d_cnd ?_); refine And.intro ?_ ?_) | (with_reducible refine r_cnd ?_ ?_)); all_goals (intro hc; (try simp only [push_cast, Int.reduceEq, Int.reduceLT, Int.reduceLE, Int.reduceNe] at hc))) | ((with_reducible refine hK _ _ ?_); clear hK; clear K) | ((with_reducible first | refine d_blk ?_ | refine d_rt0 ?_ | refine d_sk0 ?_ | refine d_ex0 ?_); (try simp only [go_sem, Nat.reduceAdd, Nat.reduceEqDiff, Int.reduceToNat, Nat.reduceMul, Nat.reduceSub])) | (with_reducible refine r_rq (by first | decide | omega) ?_) | ((with_reducible refine r_nwc ?_); intro b) | ((with_reducible first | apply i_lds | apply i_ldsq | apply i_ld | apply i_ldq); exact rfl) | ((with_reducible first | apply i_ldn | apply i_ldnq); exact rfl; exact rfl; exact rfl) | (with_reducible first | refine r_ph0 ?_ | apply i_kp0) | ((with_reducible first | apply i_st | apply i_stl); (focus simp); exact rfl) | simp only [go_sem, Nat.reduceAdd, Nat.reduceEqDiff, Int.reduceToNat, Nat.reduceMul, Nat.reduceSub] | (clear hK; clear K))
    refine i_clp C ?_
    repeat' ((fail_if_success with_reducible refine (id : E _ (ph _) → E _ (ph _)) ?_); first | ((with_reducible refine d_seq ?_); intro K hK) | ((with_reducible refine d_reg ?_); simp only [go_sem, Nat.reduceAdd, Nat.reduceEqDiff, Int.reduceToNat, Nat.reduceMul, Nat.reduceSub]) | ((first | ((with_reducible refine d_cnd ?_); refine And.intro ?_ ?_) | (with_reducible refine r_cnd ?_ ?_)); all_goals (intro hc; (try simp only [push_cast, Int.reduceEq, Int.reduceLT, Int.reduceLE, Int.reduceNe] at hc))) | ((with_reducible refine hK _ _ ?_); clear hK; clear K) | ((with_reducible first | refine d_blk ?_ | refine d_rt0 ?_ | refine d_sk0 ?_ | refine d_ex0 ?_); (try simp only [go_sem, Nat.reduceAdd, Nat.reduceEqDiff, Int.reduceToNat, Nat.reduceMul, Nat.reduceSub])) | (with_reducible refine r_rq (by first | decide | omega) ?_) | ((with_reducible refine r_nwc ?_); intro b) | ((with_reducible first | apply i_lds | apply i_ldsq | apply i_ld | apply i_ldq); exact rfl) | ((with_reducible first | apply i_ldn | apply i_ldnq); exact rfl; exact rfl; exact rfl) | (with_reducible first | refine r_ph0 ?_ | apply i_kp0) | ((with_reducible first | apply i_st | apply i_stl); (focus simp); exact rfl) | simp only [go_sem, Nat.reduceAdd, Nat.reduceEqDiff, Int.reduceToNat, Nat.reduceMul, Nat.reduceSub] | (clear hK; clear K))
    all_goals try (first | contradiction | (simp only [ reduceCtorEq] at *; done) | (exfalso; omega))
    (with_reducible first | apply i_ret0 | apply i_ret2 | apply i_ret3 | apply i_ret); exact rfl
    rfl
  · obtain ⟨p, rfl, hp⟩ := St.chk_in hc
    rw [hc] at C ⊢
    rw [if_pos rfl, Int.toNat_natCast]
    obtain ⟨a, ha⟩ : ∃ a, a = S.base + 4 * p := ⟨_, rfl⟩
    rw [← ha]
    have hfit := hS.fit
    have hn1 := hS.n1
    have e3 : ∀ i : Nat, i < 4 → IntKind.wrap .i64 (IntKind.wrap .i64 ((S.base : Int) + IntKind.wrap .i64 (4 * (p : Int))) + (i : Int)) = ((a + i : Nat) : Int) := fun i hi => by
      rw [w64 (n := 4 * (p : Int)) (by omega) (by omega), w64 (n := (S.base : Int) + 4 * (p : Int)) (by omega) (by omega), w64 (by omega) (by omega)]; omega
    clear hc
    cases hu : Z.up
    · have F : Fp (eT2 eS eI) Try.prog 31 #[.pointer (some ⟨Z.sb, 0, none⟩), .int .i64 ((a + 0 : Nat) : Int)] [dk Z] ([], 9) := by
        have := F31 Z h ((a + 0 : Nat) : Int)
        have e : Z.chk ((a + 0 : Nat) : Int) = 9 := by unfold Dk.chk; rw [hu, if_pos rfl]
        rw [e, if_neg (by decide : ¬ (9 : Int) = 0)] at this
        exact this
      rw [← e3 0 (by decide)] at F
      rw [if_neg Bool.false_ne_true]
      intro L
      refine c49_fn rfl rfl ?_
      repeat' ((fail_if_success with_reducible refine (id : E _ (ph _) → E _ (ph _)) ?_); first | ((with_reducible refine d_seq ?_); intro K hK) | ((with_reducible refine d_reg ?_); simp only [go_sem, Nat.reduceAdd, Nat.reduceEqDiff, Int.reduceToNat, Nat.reduceMul, Nat.reduceSub]) | ((first | ((with_reducible refine d_cnd ?_); refine And.intro ?_ ?_) | (with_reducible refine r_cnd ?_ ?_)); all_goals (intro hc; (try simp only [push_cast, Int.reduceEq, Int.reduceLT, Int.reduceLE, Int.reduceNe] at hc))) | ((with_reducible refine hK _ _ ?_); clear hK; clear K) | ((with_reducible first | refine d_blk ?_ | refine d_rt0 ?_ | refine d_sk0 ?_ | refine d_ex0 ?_); (try simp only [go_sem, Nat.reduceAdd, Nat.reduceEqDiff, Int.reduceToNat, Nat.reduceMul, Nat.reduceSub])) | (with_reducible refine r_rq (by first | decide | omega) ?_) | ((with_reducible refine r_nwc ?_); intro b) | ((with_reducible first | apply i_lds | apply i_ldsq | apply i_ld | apply i_ldq); exact rfl) | ((with_reducible first | apply i_ldn | apply i_ldnq); exact rfl; exact rfl; exact rfl) | (with_reducible first | refine r_ph0 ?_ | apply i_kp0) | ((with_reducible first | apply i_st | apply i_stl); (focus simp); exact rfl) | simp only [go_sem, Nat.reduceAdd, Nat.reduceEqDiff, Int.reduceToNat, Nat.reduceMul, Nat.reduceSub] | (clear hK; clear K))
      refine i_clp C ?_
      repeat' ((fail_if_success with_reducible refine (id : E _ (ph _) → E _ (ph _)) ?_); first | ((with_reducible refine d_seq ?_); intro K hK) | ((with_reducible refine d_reg ?_); simp only [go_sem, Nat.reduceAdd, Nat.reduceEqDiff, Int.reduceToNat, Nat.reduceMul, Nat.reduceSub]) | ((first | ((with_reducible refine d_cnd ?_); refine And.intro ?_ ?_) | (with_reducible refine r_cnd ?_ ?_)); all_goals (intro hc; (try simp only [push_cast, Int.reduceEq, Int.reduceLT, Int.reduceLE, Int.reduceNe] at hc))) | ((with_reducible refine hK _ _ ?_); clear hK; clear K) | ((with_reducible first | refine d_blk ?_ | refine d_rt0 ?_ | refine d_sk0 ?_ | refine d_ex0 ?_); (try simp only [go_sem, Nat.reduceAdd, Nat.reduceEqDiff, Int.reduceToNat, Nat.reduceMul, Nat.reduceSub])) | (with_reducible refine r_rq (by first | decide | omega) ?_) | ((with_reducible refine r_nwc ?_); intro b) | ((with_reducible first | apply i_lds | apply i_ldsq | apply i_ld | apply i_ldq); exact rfl) | ((with_reducible first | apply i_ldn | apply i_ldnq); exact rfl; exact rfl; exact rfl) | (with_reducible first | refine r_ph0 ?_ | apply i_kp0) | ((with_reducible first | apply i_st | apply i_stl); (focus simp); exact rfl) | simp only [go_sem, Nat.reduceAdd, Nat.reduceEqDiff, Int.reduceToNat, Nat.reduceMul, Nat.reduceSub] | (clear hK; clear K))
      all_goals try (first | contradiction | (simp only [ reduceCtorEq] at *; done) | (exfalso; omega))
      refine d_lp [0, 1, 8, 9, 10, 11, 23] (fun _ : Unit => [(0, .pointer (some ⟨S.q, 0, none⟩)), (1, .int .i64 (p : Int)), (8, str []), (9, str []), (10, .bool false), (11, .bool true), (23, .int .i64 0)])
        (fun _ => spt S Z.sb :: dk Z :: L) (fun _ => True) (fun _ => 0) () rfl SX.p trivial ?_
      intro _ _
      repeat' ((fail_if_success with_reducible refine (id : E _ (ph _) → E _ (ph _)) ?_); first | ((with_reducible refine d_seq ?_); intro K hK) | ((with_reducible refine d_reg ?_); simp only [go_sem, Nat.reduceAdd, Nat.reduceEqDiff, Int.reduceToNat, Nat.reduceMul, Nat.reduceSub]) | ((first | ((with_reducible refine d_cnd ?_); refine And.intro ?_ ?_) | (with_reducible refine r_cnd ?_ ?_)); all_goals (intro hc; (try simp only [push_cast, Int.reduceEq, Int.reduceLT, Int.reduceLE, Int.reduceNe] at hc))) | ((with_reducible refine hK _ _ ?_); clear hK; clear K) | ((with_reducible first | refine d_blk ?_ | refine d_rt0 ?_ | refine d_sk0 ?_ | refine d_ex0 ?_); (try simp only [go_sem, Nat.reduceAdd, Nat.reduceEqDiff, Int.reduceToNat, Nat.reduceMul, Nat.reduceSub])) | (with_reducible refine r_rq (by first | decide | omega) ?_) | ((with_reducible refine r_nwc ?_); intro b) | ((with_reducible first | apply i_lds | apply i_ldsq | apply i_ld | apply i_ldq); exact rfl) | ((with_reducible first | apply i_ldn | apply i_ldnq); exact rfl; exact rfl; exact rfl) | (with_reducible first | refine r_ph0 ?_ | apply i_kp0) | ((with_reducible first | apply i_st | apply i_stl); (focus simp); exact rfl) | simp only [go_sem, Nat.reduceAdd, Nat.reduceEqDiff, Int.reduceToNat, Nat.reduceMul, Nat.reduceSub] | (clear hK; clear K))
      all_goals try (first | contradiction | (simp only [ reduceCtorEq] at *; done) | (exfalso; omega))
      repeat' (first | ((with_reducible refine d_seq ?_); intro K hK) | ((with_reducible refine d_reg ?_); simp only [go_sem, Nat.reduceAdd, Nat.reduceEqDiff, Int.reduceToNat, Nat.reduceMul, Nat.reduceSub]) | ((first | ((with_reducible refine d_cnd ?_); refine And.intro ?_ ?_) | (with_reducible refine r_cnd ?_ ?_)); all_goals (intro hc; (try simp only [push_cast, Int.reduceEq, Int.reduceLT, Int.reduceLE, Int.reduceNe] at hc))) | ((with_reducible refine hK _ _ ?_); clear hK; clear K) | ((with_reducible first | refine d_blk ?_ | refine d_rt0 ?_ | refine d_sk0 ?_ | refine d_ex0 ?_); (try simp only [go_sem, Nat.reduceAdd, Nat.reduceEqDiff, Int.reduceToNat, Nat.reduceMul, Nat.reduceSub])) | (with_reducible refine r_rq (by first | decide | omega) ?_) | ((with_reducible refine r_nwc ?_); intro b) | ((with_reducible first | apply i_lds | apply i_ldsq | apply i_ld | apply i_ldq); exact rfl) | ((with_reducible first | apply i_ldn | apply i_ldnq); exact rfl; exact rfl; exact rfl) | (with_reducible first | refine r_ph0 ?_ | apply i_kp0) | ((with_reducible first | apply i_st | apply i_stl); (focus simp); exact rfl) | simp only [go_sem, Nat.reduceAdd, Nat.reduceEqDiff, Int.reduceToNat, Nat.reduceMul, Nat.reduceSub] | (clear hK; clear K))
      refine i_clp F ?_
      repeat' (first | ((with_reducible refine d_seq ?_); intro K hK) | ((with_reducible refine d_reg ?_); simp only [go_sem, Nat.reduceAdd, Nat.reduceEqDiff, Int.reduceToNat, Nat.reduceMul, Nat.reduceSub]) | ((first | ((with_reducible refine d_cnd ?_); refine And.intro ?_ ?_) | (with_reducible refine r_cnd ?_ ?_)); all_goals (intro hc; (try simp only [push_cast, Int.reduceEq, Int.reduceLT, Int.reduceLE, Int.reduceNe] at hc))) | ((with_reducible refine hK _ _ ?_); clear hK; clear K) | ((with_reducible first | refine d_blk ?_ | refine d_rt0 ?_ | refine d_sk0 ?_ | refine d_ex0 ?_); (try simp only [go_sem, Nat.reduceAdd, Nat.reduceEqDiff, Int.reduceToNat, Nat.reduceMul, Nat.reduceSub])) | (with_reducible refine r_rq (by first | decide | omega) ?_) | ((with_reducible refine r_nwc ?_); intro b) | ((with_reducible first | apply i_lds | apply i_ldsq | apply i_ld | apply i_ldq); exact rfl) | ((with_reducible first | apply i_ldn | apply i_ldnq); exact rfl; exact rfl; exact rfl) | (with_reducible first | refine r_ph0 ?_ | apply i_kp0) | ((with_reducible first | apply i_st | apply i_stl); (focus simp); exact rfl) | simp only [go_sem, Nat.reduceAdd, Nat.reduceEqDiff, Int.reduceToNat, Nat.reduceMul, Nat.reduceSub] | (clear hK; clear K))
      all_goals try (first | contradiction | (simp only [ reduceCtorEq] at *; done) | (exfalso; omega))
      (with_reducible first | apply i_ret0 | apply i_ret2 | apply i_ret3 | apply i_ret); exact rfl
      rfl
    · have F : ∀ i : Nat, i < 4 → Fp (eT2 eS eI) Try.prog 31 #[.pointer (some ⟨Z.sb, 0, none⟩), .int .i64 ((a + i : Nat) : Int)] [dk Z] (Z.sc a i, 0) := fun i hi => by
        have := F31 Z h ((a + i : Nat) : Int)
        have e : Z.chk ((a + i : Nat) : Int) = 0 := by unfold Dk.chk; rw [hu, if_neg (by simp), if_neg (by omega)]
        rw [e, if_pos rfl] at this
        exact this
      have Ln : ∀ i : Nat, i < 4 → (Z.sc a i).length = 64 := fun i hi => by
        refine Dk.get_len h ?_
        unfold Dk.chk; rw [hu, if_neg (by simp), if_neg (by omega)]
      rw [if_pos rfl]
      intro L
      refine c49_fn rfl rfl ?_
      repeat' ((fail_if_success with_reducible refine (id : E _ (ph _) → E _ (ph _)) ?_); first | ((with_reducible refine d_seq ?_); intro K hK) | ((with_reducible refine d_reg ?_); simp only [go_sem, Nat.reduceAdd, Nat.reduceEqDiff, Int.reduceToNat, Nat.reduceMul, Nat.reduceSub]) | ((first | ((with_reducible refine d_cnd ?_); refine And.intro ?_ ?_) | (with_reducible refine r_cnd ?_ ?_)); all_goals (intro hc; (try simp only [push_cast, Int.reduceEq, Int.reduceLT, Int.reduceLE, Int.reduceNe] at hc))) | ((with_reducible refine hK _ _ ?_); clear hK; clear K) | ((with_reducible first | refine d_blk ?_ | refine d_rt0 ?_ | refine d_sk0 ?_ | refine d_ex0 ?_); (try simp only [go_sem, Nat.reduceAdd, Nat.reduceEqDiff, Int.reduceToNat, Nat.reduceMul, Nat.reduceSub])) | (with_reducible refine r_rq (by first | decide | omega) ?_) | ((with_reducible refine r_nwc ?_); intro b) | ((with_reducible first | apply i_lds | apply i_ldsq | apply i_ld | apply i_ldq); exact rfl) | ((with_reducible first | apply i_ldn | apply i_ldnq); exact rfl; exact rfl; exact rfl) | (with_reducible first | refine r_ph0 ?_ | apply i_kp0) | ((with_reducible first | apply i_st | apply i_stl); (focus simp); exact rfl) | simp only [go_sem, Nat.reduceAdd, Nat.reduceEqDiff, Int.reduceToNat, Nat.reduceMul, Nat.reduceSub] | (clear hK; clear K))
      refine i_clp C ?_
      repeat' ((fail_if_success with_reducible refine (id : E _ (ph _) → E _ (ph _)) ?_); first | ((with_reducible refine d_seq ?_); intro K hK) | ((with_reducible refine d_reg ?_); simp only [go_sem, Nat.reduceAdd, Nat.reduceEqDiff, Int.reduceToNat, Nat.reduceMul, Nat.reduceSub]) | ((first | ((with_reducible refine d_cnd ?_); refine And.intro ?_ ?_) | (with_reducible refine r_cnd ?_ ?_)); all_goals (intro hc; (try simp only [push_cast, Int.reduceEq, Int.reduceLT, Int.reduceLE, Int.reduceNe] at hc))) | ((with_reducible refine hK _ _ ?_); clear hK; clear K) | ((with_reducible first | refine d_blk ?_ | refine d_rt0 ?_ | refine d_sk0 ?_ | refine d_ex0 ?_); (try simp only [go_sem, Nat.reduceAdd, Nat.reduceEqDiff, Int.reduceToNat, Nat.reduceMul, Nat.reduceSub])) | (with_reducible refine r_rq (by first | decide | omega) ?_) | ((with_reducible refine r_nwc ?_); intro b) | ((with_reducible first | apply i_lds | apply i_ldsq | apply i_ld | apply i_ldq); exact rfl) | ((with_reducible first | apply i_ldn | apply i_ldnq); exact rfl; exact rfl; exact rfl) | (with_reducible first | refine r_ph0 ?_ | apply i_kp0) | ((with_reducible first | apply i_st | apply i_stl); (focus simp); exact rfl) | simp only [go_sem, Nat.reduceAdd, Nat.reduceEqDiff, Int.reduceToNat, Nat.reduceMul, Nat.reduceSub] | (clear hK; clear K))
      all_goals try (first | contradiction | (simp only [ reduceCtorEq] at *; done) | (exfalso; omega))
      refine d_lp [0, 1, 8, 9, 10, 11, 23] (fun i : Nat => [(0, .pointer (some ⟨S.q, 0, none⟩)), (1, .int .i64 (p : Int)), (8, str (Z.rtx a i)), (9, str (if i = 0 then [] else (Z.sc a 0).take 8)), (10, .bool (Z.rsm a S.gen i)), (11, .bool (Z.rwh a i)), (23, .int .i64 (i : Int))])
        (fun i => spt S Z.sb :: dk Z :: L) (fun i => i ≤ 4 ∧ (Z.rtx a i).length = 56 * i) (fun i => 4 - i) 0 rfl SX.p ⟨by omega, rfl⟩ ?_
      rintro i ⟨hi, ht⟩
      have Fi := F i
      have Li := Ln i
      have T1 : Z.rtx a (i + 1) = Z.rtx a i ++ (Z.sc a i).drop 8 := rfl
      have T2 : Z.rsm a S.gen (i + 1) = (Z.rsm a S.gen i || (be ((Z.sc a i).take 2) == S.gen)) := rfl
      have T3 : Z.rwh a (i + 1) = (Z.rwh a i && ((Z.sc a i).take 8 == (Z.sc a 0).take 8)) := rfl
      repeat' ((fail_if_success with_reducible refine (id : E _ (ph _) → E _ (ph _)) ?_); first | ((with_reducible refine d_seq ?_); intro K hK) | ((with_reducible refine d_reg ?_); simp only [go_sem, Nat.reduceAdd, Nat.reduceEqDiff, Int.reduceToNat, Nat.reduceMul, Nat.reduceSub]) | ((first | ((with_reducible refine d_cnd ?_); refine And.intro ?_ ?_) | (with_reducible refine r_cnd ?_ ?_)); all_goals (intro hc; (try simp only [push_cast, Int.reduceEq, Int.reduceLT, Int.reduceLE, Int.reduceNe] at hc))) | ((with_reducible refine hK _ _ ?_); clear hK; clear K) | ((with_reducible first | refine d_blk ?_ | refine d_rt0 ?_ | refine d_sk0 ?_ | refine d_ex0 ?_); (try simp only [go_sem, Nat.reduceAdd, Nat.reduceEqDiff, Int.reduceToNat, Nat.reduceMul, Nat.reduceSub])) | (with_reducible refine r_rq (by first | decide | omega) ?_) | ((with_reducible refine r_nwc ?_); intro b) | ((with_reducible first | apply i_lds | apply i_ldsq | apply i_ld | apply i_ldq); exact rfl) | ((with_reducible first | apply i_ldn | apply i_ldnq); exact rfl; exact rfl; exact rfl) | (with_reducible first | refine r_ph0 ?_ | apply i_kp0) | ((with_reducible first | apply i_st | apply i_stl); (focus simp); exact rfl) | simp only [go_sem, Nat.reduceAdd, Nat.reduceEqDiff, Int.reduceToNat, Nat.reduceMul, Nat.reduceSub] | (clear hK; clear K))
      · repeat' (first | ((with_reducible refine d_seq ?_); intro K hK) | ((with_reducible refine d_reg ?_); simp only [go_sem, Nat.reduceAdd, Nat.reduceEqDiff, Int.reduceToNat, Nat.reduceMul, Nat.reduceSub]) | ((first | ((with_reducible refine d_cnd ?_); refine And.intro ?_ ?_) | (with_reducible refine r_cnd ?_ ?_)); all_goals (intro hc; (try simp only [push_cast, Int.reduceEq, Int.reduceLT, Int.reduceLE, Int.reduceNe] at hc))) | ((with_reducible refine hK _ _ ?_); clear hK; clear K) | ((with_reducible first | refine d_blk ?_ | refine d_rt0 ?_ | refine d_sk0 ?_ | refine d_ex0 ?_); (try simp only [go_sem, Nat.reduceAdd, Nat.reduceEqDiff, Int.reduceToNat, Nat.reduceMul, Nat.reduceSub])) | (with_reducible refine r_rq (by first | decide | omega) ?_) | ((with_reducible refine r_nwc ?_); intro b) | ((with_reducible first | apply i_lds | apply i_ldsq | apply i_ld | apply i_ldq); exact rfl) | ((with_reducible first | apply i_ldn | apply i_ldnq); exact rfl; exact rfl; exact rfl) | (with_reducible first | refine r_ph0 ?_ | apply i_kp0) | ((with_reducible first | apply i_st | apply i_stl); (focus simp); exact rfl) | simp only [go_sem, Nat.reduceAdd, Nat.reduceEqDiff, Int.reduceToNat, Nat.reduceMul, Nat.reduceSub] | (clear hK; clear K))
        rw [e3 i (by omega)]
        refine i_clp (Fi (by omega)) ?_
        repeat' ((fail_if_success with_reducible refine (id : E _ (D _ (.seq (.seq _ _) _) _ _) → E _ (D _ (.seq (.seq _ _) _) _ _)) ?_); first | ((with_reducible refine d_seq ?_); intro K hK) | ((with_reducible refine d_reg ?_); simp only [go_sem, Nat.reduceAdd, Nat.reduceEqDiff, Int.reduceToNat, Nat.reduceMul, Nat.reduceSub]) | ((first | ((with_reducible refine d_cnd ?_); refine And.intro ?_ ?_) | (with_reducible refine r_cnd ?_ ?_)); all_goals (intro hc; (try simp only [push_cast, Int.reduceEq, Int.reduceLT, Int.reduceLE, Int.reduceNe] at hc))) | ((with_reducible refine hK _ _ ?_); clear hK; clear K) | ((with_reducible first | refine d_blk ?_ | refine d_rt0 ?_ | refine d_sk0 ?_ | refine d_ex0 ?_); (try simp only [go_sem, Nat.reduceAdd, Nat.reduceEqDiff, Int.reduceToNat, Nat.reduceMul, Nat.reduceSub])) | (with_reducible refine r_rq (by first | decide | omega) ?_) | ((with_reducible refine r_nwc ?_); intro b) | ((with_reducible first | apply i_lds | apply i_ldsq | apply i_ld | apply i_ldq); exact rfl) | ((with_reducible first | apply i_ldn | apply i_ldnq); exact rfl; exact rfl; exact rfl) | (with_reducible first | refine r_ph0 ?_ | apply i_kp0) | ((with_reducible first | apply i_st | apply i_stl); (focus simp); exact rfl) | simp only [go_sem, Nat.reduceAdd, Nat.reduceEqDiff, Int.reduceToNat, Nat.reduceMul, Nat.reduceSub] | (clear hK; clear K))
        first | ((with_reducible refine d_seq ?_); intro K hK) | ((with_reducible refine d_reg ?_); simp only [go_sem, Nat.reduceAdd, Nat.reduceEqDiff, Int.reduceToNat, Nat.reduceMul, Nat.reduceSub]) | ((first | ((with_reducible refine d_cnd ?_); refine And.intro ?_ ?_) | (with_reducible refine r_cnd ?_ ?_)); all_goals (intro hc; (try simp only [push_cast, Int.reduceEq, Int.reduceLT, Int.reduceLE, Int.reduceNe] at hc))) | ((with_reducible refine hK _ _ ?_); clear hK; clear K) | ((with_reducible first | refine d_blk ?_ | refine d_rt0 ?_ | refine d_sk0 ?_ | refine d_ex0 ?_); (try simp only [go_sem, Nat.reduceAdd, Nat.reduceEqDiff, Int.reduceToNat, Nat.reduceMul, Nat.reduceSub])) | (with_reducible refine r_rq (by first | decide | omega) ?_) | ((with_reducible refine r_nwc ?_); intro b) | ((with_reducible first | apply i_lds | apply i_ldsq | apply i_ld | apply i_ldq); exact rfl) | ((with_reducible first | apply i_ldn | apply i_ldnq); exact rfl; exact rfl; exact rfl) | (with_reducible first | refine r_ph0 ?_ | apply i_kp0) | ((with_reducible first | apply i_st | apply i_stl); (focus simp); exact rfl) | simp only [go_sem, Nat.reduceAdd, Nat.reduceEqDiff, Int.reduceToNat, Nat.reduceMul, Nat.reduceSub] | (clear hK; clear K)
        repeat' ((fail_if_success with_reducible refine (id : E _ (D _ (.seq (.seq _ _) _) _ _) → E _ (D _ (.seq (.seq _ _) _) _ _)) ?_); first | ((with_reducible refine d_seq ?_); intro K hK) | ((with_reducible refine d_reg ?_); simp only [go_sem, Nat.reduceAdd, Nat.reduceEqDiff, Int.reduceToNat, Nat.reduceMul, Nat.reduceSub]) | ((first | ((with_reducible refine d_cnd ?_); refine And.intro ?_ ?_) | (with_reducible refine r_cnd ?_ ?_)); all_goals (intro hc; (try simp only [push_cast, Int.reduceEq, Int.reduceLT, Int.reduceLE, Int.reduceNe] at hc))) | ((with_reducible refine hK _ _ ?_); clear hK; clear K) | ((with_reducible first | refine d_blk ?_ | refine d_rt0 ?_ | refine d_sk0 ?_ | refine d_ex0 ?_); (try simp only [go_sem, Nat.reduceAdd, Nat.reduceEqDiff, Int.reduceToNat, Nat.reduceMul, Nat.reduceSub])) | (with_reducible refine r_rq (by first | decide | omega) ?_) | ((with_reducible refine r_nwc ?_); intro b) | ((with_reducible first | apply i_lds | apply i_ldsq | apply i_ld | apply i_ldq); exact rfl) | ((with_reducible first | apply i_ldn | apply i_ldnq); exact rfl; exact rfl; exact rfl) | (with_reducible first | refine r_ph0 ?_ | apply i_kp0) | ((with_reducible first | apply i_st | apply i_stl); (focus simp); exact rfl) | simp only [go_sem, Nat.reduceAdd, Nat.reduceEqDiff, Int.reduceToNat, Nat.reduceMul, Nat.reduceSub] | (clear hK; clear K))
        all_goals try (first | contradiction | (simp only [ reduceCtorEq] at *; done) | (exfalso; omega))
        first | ((with_reducible refine d_seq ?_); intro K hK) | ((with_reducible refine d_reg ?_); simp only [go_sem, Nat.reduceAdd, Nat.reduceEqDiff, Int.reduceToNat, Nat.reduceMul, Nat.reduceSub]) | ((first | ((with_reducible refine d_cnd ?_); refine And.intro ?_ ?_) | (with_reducible refine r_cnd ?_ ?_)); all_goals (intro hc; (try simp only [push_cast, Int.reduceEq, Int.reduceLT, Int.reduceLE, Int.reduceNe] at hc))) | ((with_reducible refine hK _ _ ?_); clear hK; clear K) | ((with_reducible first | refine d_blk ?_ | refine d_rt0 ?_ | refine d_sk0 ?_ | refine d_ex0 ?_); (try simp only [go_sem, Nat.reduceAdd, Nat.reduceEqDiff, Int.reduceToNat, Nat.reduceMul, Nat.reduceSub])) | (with_reducible refine r_rq (by first | decide | omega) ?_) | ((with_reducible refine r_nwc ?_); intro b) | ((with_reducible first | apply i_lds | apply i_ldsq | apply i_ld | apply i_ldq); exact rfl) | ((with_reducible first | apply i_ldn | apply i_ldnq); exact rfl; exact rfl; exact rfl) | (with_reducible first | refine r_ph0 ?_ | apply i_kp0) | ((with_reducible first | apply i_st | apply i_stl); (focus simp); exact rfl) | simp only [go_sem, Nat.reduceAdd, Nat.reduceEqDiff, Int.reduceToNat, Nat.reduceMul, Nat.reduceSub] | (clear hK; clear K)
        have hL := Li (by omega)
        have fin : ∀ (tl : Env), E (spt S Z.sb :: dk Z :: L) (K ((0, .pointer (some ⟨S.q, 0, none⟩)) :: (1, .int .i64 (p : Int)) :: (8, str (Z.rtx a i)) :: (9, str ((Z.sc a 0).take 8)) :: (10, .bool (Z.rsm a S.gen i)) :: (11, .bool (Z.rwh a i)) :: (13, str (Z.sc a i)) :: (23, .int .i64 (i : Int)) :: tl)) := by
          intro tl
          generalize Z.sc a i = s at *
          generalize Z.sc a 0 = s0 at *
          generalize Z.rtx a i = tx at *
          generalize Z.rsm a S.gen i = sm at *
          generalize Z.rwh a i = wl at *
          refine hK _ _ ?_; clear hK K
          repeat' ((fail_if_success with_reducible refine (id : E _ (ph _) → E _ (ph _)) ?_); first | ((with_reducible refine d_seq ?_); intro K hK) | ((with_reducible refine d_reg ?_); simp only [go_sem, Nat.reduceAdd, Nat.reduceEqDiff, Int.reduceToNat, Nat.reduceMul, Nat.reduceSub]) | ((first | ((with_reducible refine d_cnd ?_); refine And.intro ?_ ?_) | (with_reducible refine r_cnd ?_ ?_)); all_goals (intro hc; (try simp only [push_cast, Int.reduceEq, Int.reduceLT, Int.reduceLE, Int.reduceNe] at hc))) | ((with_reducible refine hK _ _ ?_); clear hK; clear K) | ((with_reducible first | refine d_blk ?_ | refine d_rt0 ?_ | refine d_sk0 ?_ | refine d_ex0 ?_); (try simp only [go_sem, Nat.reduceAdd, Nat.reduceEqDiff, Int.reduceToNat, Nat.reduceMul, Nat.reduceSub])) | (with_reducible refine r_rq (by first | decide | omega) ?_) | ((with_reducible refine r_nwc ?_); intro b) | ((with_reducible first | apply i_lds | apply i_ldsq | apply i_ld | apply i_ldq); exact rfl) | ((with_reducible first | apply i_ldn | apply i_ldnq); exact rfl; exact rfl; exact rfl) | (with_reducible first | refine r_ph0 ?_ | apply i_kp0) | ((with_reducible first | apply i_st | apply i_stl); (focus simp); exact rfl) | simp only [go_sem, Nat.reduceAdd, Nat.reduceEqDiff, Int.reduceToNat, Nat.reduceMul, Nat.reduceSub] | (clear hK; clear K))
          refine i_cal (f72 s) ?_
          rintro y X ⟨rb, rfl, rfl⟩
          have N := num_go rb s 0 2 (by omega) (by omega) (by omega) (by omega)
          rw [List.drop_zero] at N
          repeat' ((fail_if_success with_reducible refine (id : E _ (ph _) → E _ (ph _)) ?_); first | ((with_reducible refine d_seq ?_); intro K hK) | ((with_reducible refine d_reg ?_); simp only [go_sem, Nat.reduceAdd, Nat.reduceEqDiff, Int.reduceToNat, Nat.reduceMul, Nat.reduceSub]) | ((first | ((with_reducible refine d_cnd ?_); refine And.intro ?_ ?_) | (with_reducible refine r_cnd ?_ ?_)); all_goals (intro hc; (try simp only [push_cast, Int.reduceEq, Int.reduceLT, Int.reduceLE, Int.reduceNe] at hc))) | ((with_reducible refine hK _ _ ?_); clear hK; clear K) | ((with_reducible first | refine d_blk ?_ | refine d_rt0 ?_ | refine d_sk0 ?_ | refine d_ex0 ?_); (try simp only [go_sem, Nat.reduceAdd, Nat.reduceEqDiff, Int.reduceToNat, Nat.reduceMul, Nat.reduceSub])) | (with_reducible refine r_rq (by first | decide | omega) ?_) | ((with_reducible refine r_nwc ?_); intro b) | ((with_reducible first | apply i_lds | apply i_ldsq | apply i_ld | apply i_ldq); exact rfl) | ((with_reducible first | apply i_ldn | apply i_ldnq); exact rfl; exact rfl; exact rfl) | (with_reducible first | refine r_ph0 ?_ | apply i_kp0) | ((with_reducible first | apply i_st | apply i_stl); (focus simp); exact rfl) | simp only [go_sem, Nat.reduceAdd, Nat.reduceEqDiff, Int.reduceToNat, Nat.reduceMul, Nat.reduceSub] | (clear hK; clear K))
          refine r_ph [spt S Z.sb] ?_ ?_
          · exact SX.p
          repeat' (first | ((with_reducible refine d_seq ?_); intro K hK) | ((with_reducible refine d_reg ?_); simp only [go_sem, Nat.reduceAdd, Nat.reduceEqDiff, Int.reduceToNat, Nat.reduceMul, Nat.reduceSub]) | ((first | ((with_reducible refine d_cnd ?_); refine And.intro ?_ ?_) | (with_reducible refine r_cnd ?_ ?_)); all_goals (intro hc; (try simp only [push_cast, Int.reduceEq, Int.reduceLT, Int.reduceLE, Int.reduceNe] at hc))) | ((with_reducible refine hK _ _ ?_); clear hK; clear K) | ((with_reducible first | refine d_blk ?_ | refine d_rt0 ?_ | refine d_sk0 ?_ | refine d_ex0 ?_); (try simp only [go_sem, Nat.reduceAdd, Nat.reduceEqDiff, Int.reduceToNat, Nat.reduceMul, Nat.reduceSub])) | (with_reducible refine r_rq (by first | decide | omega) ?_) | ((with_reducible refine r_nwc ?_); intro b) | ((with_reducible first | apply i_lds | apply i_ldsq | apply i_ld | apply i_ldq); exact rfl) | ((with_reducible first | apply i_ldn | apply i_ldnq); exact rfl; exact rfl; exact rfl) | (with_reducible first | refine r_ph0 ?_ | apply i_kp0) | ((with_reducible first | apply i_st | apply i_stl); (focus simp); exact rfl) | simp only [go_sem, Nat.reduceAdd, Nat.reduceEqDiff, Int.reduceToNat, Nat.reduceMul, Nat.reduceSub] | (clear hK; clear K))
          all_goals try (refine i_clq N ?_)
          repeat' (first | rw [ss_08] | rw [ss_8n] | first | ((with_reducible refine d_seq ?_); intro K hK) | ((with_reducible refine d_reg ?_); simp only [go_sem, Nat.reduceAdd, Nat.reduceEqDiff, Int.reduceToNat, Nat.reduceMul, Nat.reduceSub]) | ((first | ((with_reducible refine d_cnd ?_); refine And.intro ?_ ?_) | (with_reducible refine r_cnd ?_ ?_)); all_goals (intro hc; (try simp only [push_cast, Int.reduceEq, Int.reduceLT, Int.reduceLE, Int.reduceNe] at hc))) | ((with_reducible refine hK _ _ ?_); clear hK; clear K) | ((with_reducible first | refine d_blk ?_ | refine d_rt0 ?_ | refine d_sk0 ?_ | refine d_ex0 ?_); (try simp only [go_sem, Nat.reduceAdd, Nat.reduceEqDiff, Int.reduceToNat, Nat.reduceMul, Nat.reduceSub])) | (with_reducible refine r_rq (by first | decide | omega) ?_) | ((with_reducible refine r_nwc ?_); intro b) | ((with_reducible first | apply i_lds | apply i_ldsq | apply i_ld | apply i_ldq); exact rfl) | ((with_reducible first | apply i_ldn | apply i_ldnq); exact rfl; exact rfl; exact rfl) | (with_reducible first | refine r_ph0 ?_ | apply i_kp0) | ((with_reducible first | apply i_st | apply i_stl); (focus simp); exact rfl) | simp only [go_sem, Nat.reduceAdd, Nat.reduceEqDiff, Int.reduceToNat, Nat.reduceMul, Nat.reduceSub] | (clear hK; clear K))
          all_goals try (exfalso; omega)
          all_goals
            refine r_rq (by rw [List.length_drop]; omega) ?_
            repeat' (first | ((with_reducible refine d_seq ?_); intro K hK) | ((with_reducible refine d_reg ?_); simp only [go_sem, Nat.reduceAdd, Nat.reduceEqDiff, Int.reduceToNat, Nat.reduceMul, Nat.reduceSub]) | ((first | ((with_reducible refine d_cnd ?_); refine And.intro ?_ ?_) | (with_reducible refine r_cnd ?_ ?_)); all_goals (intro hc; (try simp only [push_cast, Int.reduceEq, Int.reduceLT, Int.reduceLE, Int.reduceNe] at hc))) | ((with_reducible refine hK _ _ ?_); clear hK; clear K) | ((with_reducible first | refine d_blk ?_ | refine d_rt0 ?_ | refine d_sk0 ?_ | refine d_ex0 ?_); (try simp only [go_sem, Nat.reduceAdd, Nat.reduceEqDiff, Int.reduceToNat, Nat.reduceMul, Nat.reduceSub])) | (with_reducible refine r_rq (by first | decide | omega) ?_) | ((with_reducible refine r_nwc ?_); intro b) | ((with_reducible first | apply i_lds | apply i_ldsq | apply i_ld | apply i_ldq); exact rfl) | ((with_reducible first | apply i_ldn | apply i_ldnq); exact rfl; exact rfl; exact rfl) | (with_reducible first | refine r_ph0 ?_ | apply i_kp0) | ((with_reducible first | apply i_st | apply i_stl); (focus simp); exact rfl) | simp only [go_sem, Nat.reduceAdd, Nat.reduceEqDiff, Int.reduceToNat, Nat.reduceMul, Nat.reduceSub] | (clear hK; clear K))
            rw [w64 (by omega) (by omega)]
            refine i_bk (i + 1) ?_ ⟨by omega, by rw [T1, List.length_append, List.length_drop]; omega⟩ (by omega)
            simp only [go_sem, Nat.reduceEqDiff]
            rw [T1, T2, T3]
            simp [*, nbeq]
        by_cases hi0 : i = 0
        · subst hi0
          rw [if_pos rfl]
          repeat' ((fail_if_success with_reducible refine (id : E _ (D _ (.seq (.seq _ _) _) _ _) → E _ (D _ (.seq (.seq _ _) _) _ _)) ?_); first | ((with_reducible refine d_seq ?_); intro K hK) | ((with_reducible refine d_reg ?_); simp only [go_sem, Nat.reduceAdd, Nat.reduceEqDiff, Int.reduceToNat, Nat.reduceMul, Nat.reduceSub]) | ((first | ((with_reducible refine d_cnd ?_); refine And.intro ?_ ?_) | (with_reducible refine r_cnd ?_ ?_)); all_goals (intro hc; (try simp only [push_cast, Int.reduceEq, Int.reduceLT, Int.reduceLE, Int.reduceNe] at hc))) | ((with_reducible refine hK _ _ ?_); clear hK; clear K) | ((with_reducible first | refine d_blk ?_ | refine d_rt0 ?_ | refine d_sk0 ?_ | refine d_ex0 ?_); (try simp only [go_sem, Nat.reduceAdd, Nat.reduceEqDiff, Int.reduceToNat, Nat.reduceMul, Nat.reduceSub])) | (with_reducible refine r_rq (by first | decide | omega) ?_) | ((with_reducible refine r_nwc ?_); intro b) | ((with_reducible first | apply i_lds | apply i_ldsq | apply i_ld | apply i_ldq); exact rfl) | ((with_reducible first | apply i_ldn | apply i_ldnq); exact rfl; exact rfl; exact rfl) | (with_reducible first | refine r_ph0 ?_ | apply i_kp0) | ((with_reducible first | apply i_st | apply i_stl); (focus simp); exact rfl) | simp only [go_sem, Nat.reduceAdd, Nat.reduceEqDiff, Int.reduceToNat, Nat.reduceMul, Nat.reduceSub] | (clear hK; clear K))
          all_goals try (exfalso; omega)
          all_goals try (first | contradiction | (simp only [ reduceCtorEq] at *; done) | (exfalso; omega))
          rw [ss_08]
          exact fin []
        · rw [if_neg hi0]
          repeat' ((fail_if_success with_reducible refine (id : E _ (D _ (.seq (.seq _ _) _) _ _) → E _ (D _ (.seq (.seq _ _) _) _ _)) ?_); first | ((with_reducible refine d_seq ?_); intro K hK) | ((with_reducible refine d_reg ?_); simp only [go_sem, Nat.reduceAdd, Nat.reduceEqDiff, Int.reduceToNat, Nat.reduceMul, Nat.reduceSub]) | ((first | ((with_reducible refine d_cnd ?_); refine And.intro ?_ ?_) | (with_reducible refine r_cnd ?_ ?_)); all_goals (intro hc; (try simp only [push_cast, Int.reduceEq, Int.reduceLT, Int.reduceLE, Int.reduceNe] at hc))) | ((with_reducible refine hK _ _ ?_); clear hK; clear K) | ((with_reducible first | refine d_blk ?_ | refine d_rt0 ?_ | refine d_sk0 ?_ | refine d_ex0 ?_); (try simp only [go_sem, Nat.reduceAdd, Nat.reduceEqDiff, Int.reduceToNat, Nat.reduceMul, Nat.reduceSub])) | (with_reducible refine r_rq (by first | decide | omega) ?_) | ((with_reducible refine r_nwc ?_); intro b) | ((with_reducible first | apply i_lds | apply i_ldsq | apply i_ld | apply i_ldq); exact rfl) | ((with_reducible first | apply i_ldn | apply i_ldnq); exact rfl; exact rfl; exact rfl) | (with_reducible first | refine r_ph0 ?_ | apply i_kp0) | ((with_reducible first | apply i_st | apply i_stl); (focus simp); exact rfl) | simp only [go_sem, Nat.reduceAdd, Nat.reduceEqDiff, Int.reduceToNat, Nat.reduceMul, Nat.reduceSub] | (clear hK; clear K))
          all_goals try (exfalso; omega)
          exact fin [_]
      all_goals
        obtain rfl : i = 4 := by omega
      · (with_reducible first | apply i_ret0 | apply i_ret2 | apply i_ret3 | apply i_ret); exact rfl
        rw [if_neg (by rw [show Z.rsm a S.gen 4 = false by assumption]; decide)]
      · have h1 : Z.rsm a S.gen 4 = true := by assumption
        (with_reducible first | apply i_ret0 | apply i_ret2 | apply i_ret3 | apply i_ret); exact rfl
        rw [if_pos h1, if_neg (by rw [show Z.rwh a 4 = false by assumption]; decide)]
      · have h1 : Z.rsm a S.gen 4 = true := by assumption
        have h2 : Z.rwh a 4 = true := by assumption
        have l0 := Ln 0 (by decide)
        rw [if_neg (by decide)]
        generalize Z.sc a 0 = s0 at *
        have hl8 : (s0.take 8).length = 8 := by simp; omega
        generalize s0.take 8 = m at *
        refine i_cal (f72 m) ?_
        rintro y X ⟨rb, rfl, rfl⟩
        repeat' ((fail_if_success with_reducible refine (id : E _ (ph _) → E _ (ph _)) ?_); first | ((with_reducible refine d_seq ?_); intro K hK) | ((with_reducible refine d_reg ?_); simp only [go_sem, Nat.reduceAdd, Nat.reduceEqDiff, Int.reduceToNat, Nat.reduceMul, Nat.reduceSub]) | ((first | ((with_reducible refine d_cnd ?_); refine And.intro ?_ ?_) | (with_reducible refine r_cnd ?_ ?_)); all_goals (intro hc; (try simp only [push_cast, Int.reduceEq, Int.reduceLT, Int.reduceLE, Int.reduceNe] at hc))) | ((with_reducible refine hK _ _ ?_); clear hK; clear K) | ((with_reducible first | refine d_blk ?_ | refine d_rt0 ?_ | refine d_sk0 ?_ | refine d_ex0 ?_); (try simp only [go_sem, Nat.reduceAdd, Nat.reduceEqDiff, Int.reduceToNat, Nat.reduceMul, Nat.reduceSub])) | (with_reducible refine r_rq (by first | decide | omega) ?_) | ((with_reducible refine r_nwc ?_); intro b) | ((with_reducible first | apply i_lds | apply i_ldsq | apply i_ld | apply i_ldq); exact rfl) | ((with_reducible first | apply i_ldn | apply i_ldnq); exact rfl; exact rfl; exact rfl) | (with_reducible first | refine r_ph0 ?_ | apply i_kp0) | ((with_reducible first | apply i_st | apply i_stl); (focus simp); exact rfl) | simp only [go_sem, Nat.reduceAdd, Nat.reduceEqDiff, Int.reduceToNat, Nat.reduceMul, Nat.reduceSub] | (clear hK; clear K))
        refine i_clq (num_go rb m 0 2 (by omega) (by omega) (by omega) (by omega)) ?_
        repeat' ((fail_if_success with_reducible refine (id : E _ (ph _) → E _ (ph _)) ?_); first | ((with_reducible refine d_seq ?_); intro K hK) | ((with_reducible refine d_reg ?_); simp only [go_sem, Nat.reduceAdd, Nat.reduceEqDiff, Int.reduceToNat, Nat.reduceMul, Nat.reduceSub]) | ((first | ((with_reducible refine d_cnd ?_); refine And.intro ?_ ?_) | (with_reducible refine r_cnd ?_ ?_)); all_goals (intro hc; (try simp only [push_cast, Int.reduceEq, Int.reduceLT, Int.reduceLE, Int.reduceNe] at hc))) | ((with_reducible refine hK _ _ ?_); clear hK; clear K) | ((with_reducible first | refine d_blk ?_ | refine d_rt0 ?_ | refine d_sk0 ?_ | refine d_ex0 ?_); (try simp only [go_sem, Nat.reduceAdd, Nat.reduceEqDiff, Int.reduceToNat, Nat.reduceMul, Nat.reduceSub])) | (with_reducible refine r_rq (by first | decide | omega) ?_) | ((with_reducible refine r_nwc ?_); intro b) | ((with_reducible first | apply i_lds | apply i_ldsq | apply i_ld | apply i_ldq); exact rfl) | ((with_reducible first | apply i_ldn | apply i_ldnq); exact rfl; exact rfl; exact rfl) | (with_reducible first | refine r_ph0 ?_ | apply i_kp0) | ((with_reducible first | apply i_st | apply i_stl); (focus simp); exact rfl) | simp only [go_sem, Nat.reduceAdd, Nat.reduceEqDiff, Int.reduceToNat, Nat.reduceMul, Nat.reduceSub] | (clear hK; clear K))
        refine i_clq (num_go rb m 2 6 (by omega) (by omega) (by omega) (by omega)) ?_
        repeat' ((fail_if_success with_reducible refine (id : E _ (ph _) → E _ (ph _)) ?_); first | ((with_reducible refine d_seq ?_); intro K hK) | ((with_reducible refine d_reg ?_); simp only [go_sem, Nat.reduceAdd, Nat.reduceEqDiff, Int.reduceToNat, Nat.reduceMul, Nat.reduceSub]) | ((first | ((with_reducible refine d_cnd ?_); refine And.intro ?_ ?_) | (with_reducible refine r_cnd ?_ ?_)); all_goals (intro hc; (try simp only [push_cast, Int.reduceEq, Int.reduceLT, Int.reduceLE, Int.reduceNe] at hc))) | ((with_reducible refine hK _ _ ?_); clear hK; clear K) | ((with_reducible first | refine d_blk ?_ | refine d_rt0 ?_ | refine d_sk0 ?_ | refine d_ex0 ?_); (try simp only [go_sem, Nat.reduceAdd, Nat.reduceEqDiff, Int.reduceToNat, Nat.reduceMul, Nat.reduceSub])) | (with_reducible refine r_rq (by first | decide | omega) ?_) | ((with_reducible refine r_nwc ?_); intro b) | ((with_reducible first | apply i_lds | apply i_ldsq | apply i_ld | apply i_ldq); exact rfl) | ((with_reducible first | apply i_ldn | apply i_ldnq); exact rfl; exact rfl; exact rfl) | (with_reducible first | refine r_ph0 ?_ | apply i_kp0) | ((with_reducible first | apply i_st | apply i_stl); (focus simp); exact rfl) | simp only [go_sem, Nat.reduceAdd, Nat.reduceEqDiff, Int.reduceToNat, Nat.reduceMul, Nat.reduceSub] | (clear hK; clear K))
        (with_reducible first | apply i_ret0 | apply i_ret2 | apply i_ret3 | apply i_ret); exact rfl
        rw [if_pos h1, if_pos h2]
end Go.Sp
/- The store: its other functions; what every sector has. -/
namespace Go.Sp
open Go Go.Proofs
set_option linter.unusedSimpArgs false
set_option linter.unusedVariables false
set_option maxRecDepth 10000
theorem f48 (S : St) (Z : Dk) (h : Z.ok) : Fq eI Try.prog 48 #[S.p] [spt S Z.sb, dk Z] [spt S Z.sb, dk Z.sync.2] Z.sync.1 := fun L => by
  have F := F28 Z h
  simp only [Dk.p] at F
  refine c48_fn rfl rfl ?_
  repeat' ((fail_if_success with_reducible refine (id : E _ (ph _) → E _ (ph _)) ?_); first | ((with_reducible refine d_seq ?_); intro K hK) | ((with_reducible refine d_reg ?_); simp only [go_sem, Nat.reduceAdd, Nat.reduceEqDiff, Int.reduceToNat, Nat.reduceMul, Nat.reduceSub]) | ((first | ((with_reducible refine d_cnd ?_); refine And.intro ?_ ?_) | (with_reducible refine r_cnd ?_ ?_)); all_goals (intro hc; (try simp only [push_cast, Int.reduceEq, Int.reduceLT, Int.reduceLE, Int.reduceNe] at hc))) | ((with_reducible refine hK _ _ ?_); clear hK; clear K) | ((with_reducible first | refine d_blk ?_ | refine d_rt0 ?_ | refine d_sk0 ?_ | refine d_ex0 ?_); (try simp only [go_sem, Nat.reduceAdd, Nat.reduceEqDiff, Int.reduceToNat, Nat.reduceMul, Nat.reduceSub])) | (with_reducible refine r_rq (by first | decide | omega) ?_) | ((with_reducible refine r_nwc ?_); intro b) | ((with_reducible first | apply i_lds | apply i_ldsq | apply i_ld | apply i_ldq); exact rfl) | ((with_reducible first | apply i_ldn | apply i_ldnq); exact rfl; exact rfl; exact rfl) | (with_reducible first | refine r_ph0 ?_ | apply i_kp0) | ((with_reducible first | apply i_st | apply i_stl); (focus simp); exact rfl) | simp only [go_sem, Nat.reduceAdd, Nat.reduceEqDiff, Int.reduceToNat, Nat.reduceMul, Nat.reduceSub] | (clear hK; clear K))
  refine i_clq F ?_
  repeat' ((fail_if_success with_reducible refine (id : E _ (ph _) → E _ (ph _)) ?_); first | ((with_reducible refine d_seq ?_); intro K hK) | ((with_reducible refine d_reg ?_); simp only [go_sem, Nat.reduceAdd, Nat.reduceEqDiff, Int.reduceToNat, Nat.reduceMul, Nat.reduceSub]) | ((first | ((with_reducible refine d_cnd ?_); refine And.intro ?_ ?_) | (with_reducible refine r_cnd ?_ ?_)); all_goals (intro hc; (try simp only [push_cast, Int.reduceEq, Int.reduceLT, Int.reduceLE, Int.reduceNe] at hc))) | ((with_reducible refine hK _ _ ?_); clear hK; clear K) | ((with_reducible first | refine d_blk ?_ | refine d_rt0 ?_ | refine d_sk0 ?_ | refine d_ex0 ?_); (try simp only [go_sem, Nat.reduceAdd, Nat.reduceEqDiff, Int.reduceToNat, Nat.reduceMul, Nat.reduceSub])) | (with_reducible refine r_rq (by first | decide | omega) ?_) | ((with_reducible refine r_nwc ?_); intro b) | ((with_reducible first | apply i_lds | apply i_ldsq | apply i_ld | apply i_ldq); exact rfl) | ((with_reducible first | apply i_ldn | apply i_ldnq); exact rfl; exact rfl; exact rfl) | (with_reducible first | refine r_ph0 ?_ | apply i_kp0) | ((with_reducible first | apply i_st | apply i_stl); (focus simp); exact rfl) | simp only [go_sem, Nat.reduceAdd, Nat.reduceEqDiff, Int.reduceToNat, Nat.reduceMul, Nat.reduceSub] | (clear hK; clear K))
  (with_reducible first | apply i_ret0 | apply i_ret2 | apply i_ret3 | apply i_ret); exact rfl
  rfl
theorem f53 (S : St) (Z : Dk) (h : Z.ok) (hS : S.ok Z.sure.length) (id lsn : Int) : Fp eB Try.prog 53 #[S.p, .int .i64 id, .int .i64 lsn] [spt S Z.sb, dk Z] (decide ((Z.rpg S id).2.2 = 0) && (Z.rpg S id).2.1 == lsn) := fun L => by
  have F := f49 S Z h hS id
  generalize Z.rpg S id = r at *
  obtain ⟨t, n, e⟩ := r
  refine c53_fn rfl rfl ?_
  repeat' ((fail_if_success with_reducible refine (id : E _ (ph _) → E _ (ph _)) ?_); first | ((with_reducible refine d_seq ?_); intro K hK) | ((with_reducible refine d_reg ?_); simp only [go_sem, Nat.reduceAdd, Nat.reduceEqDiff, Int.reduceToNat, Nat.reduceMul, Nat.reduceSub]) | ((first | ((with_reducible refine d_cnd ?_); refine And.intro ?_ ?_) | (with_reducible refine r_cnd ?_ ?_)); all_goals (intro hc; (try simp only [push_cast, Int.reduceEq, Int.reduceLT, Int.reduceLE, Int.reduceNe] at hc))) | ((with_reducible refine hK _ _ ?_); clear hK; clear K) | ((with_reducible first | refine d_blk ?_ | refine d_rt0 ?_ | refine d_sk0 ?_ | refine d_ex0 ?_); (try simp only [go_sem, Nat.reduceAdd, Nat.reduceEqDiff, Int.reduceToNat, Nat.reduceMul, Nat.reduceSub])) | (with_reducible refine r_rq (by first | decide | omega) ?_) | ((with_reducible refine r_nwc ?_); intro b) | ((with_reducible first | apply i_lds | apply i_ldsq | apply i_ld | apply i_ldq); exact rfl) | ((with_reducible first | apply i_ldn | apply i_ldnq); exact rfl; exact rfl; exact rfl) | (with_reducible first | refine r_ph0 ?_ | apply i_kp0) | ((with_reducible first | apply i_st | apply i_stl); (focus simp); exact rfl) | simp only [go_sem, Nat.reduceAdd, Nat.reduceEqDiff, Int.reduceToNat, Nat.reduceMul, Nat.reduceSub] | (clear hK; clear K))
  refine i_clp F ?_
  repeat' ((fail_if_success with_reducible refine (id : E _ (ph _) → E _ (ph _)) ?_); first | ((with_reducible refine d_seq ?_); intro K hK) | ((with_reducible refine d_reg ?_); simp only [go_sem, Nat.reduceAdd, Nat.reduceEqDiff, Int.reduceToNat, Nat.reduceMul, Nat.reduceSub]) | ((first | ((with_reducible refine d_cnd ?_); refine And.intro ?_ ?_) | (with_reducible refine r_cnd ?_ ?_)); all_goals (intro hc; (try simp only [push_cast, Int.reduceEq, Int.reduceLT, Int.reduceLE, Int.reduceNe] at hc))) | ((with_reducible refine hK _ _ ?_); clear hK; clear K) | ((with_reducible first | refine d_blk ?_ | refine d_rt0 ?_ | refine d_sk0 ?_ | refine d_ex0 ?_); (try simp only [go_sem, Nat.reduceAdd, Nat.reduceEqDiff, Int.reduceToNat, Nat.reduceMul, Nat.reduceSub])) | (with_reducible refine r_rq (by first | decide | omega) ?_) | ((with_reducible refine r_nwc ?_); intro b) | ((with_reducible first | apply i_lds | apply i_ldsq | apply i_ld | apply i_ldq); exact rfl) | ((with_reducible first | apply i_ldn | apply i_ldnq); exact rfl; exact rfl; exact rfl) | (with_reducible first | refine r_ph0 ?_ | apply i_kp0) | ((with_reducible first | apply i_st | apply i_stl); (focus simp); exact rfl) | simp only [go_sem, Nat.reduceAdd, Nat.reduceEqDiff, Int.reduceToNat, Nat.reduceMul, Nat.reduceSub] | (clear hK; clear K))
  all_goals ((with_reducible first | apply i_ret0 | apply i_ret2 | apply i_ret3 | apply i_ret); exact rfl; simp [*])
/-- What becomes of a wish for a store. -/
theorem f51 (Z : Dk) (h : Z.ok) (base pages gen : Int) (w1 : wf64 base) (w2 : wf64 pages) (w3 : wf64 gen) :
    Fn (eT2 eP eI) Try.prog 51 #[.pointer (some ⟨Z.sb, 0, none⟩), .int .i64 base, .int .i64 pages, .int .i64 gen] [dk Z] fun y X =>
      if gen < 1 ∨ 65535 < gen ∨ base < 0 ∨ pages < 1 ∨ 200 < pages then X = [dk Z] ∧ y = (none, 1)
      else if (Z.sure.length : Int) < base ∨ (Z.sure.length : Int) - base < 4 * pages then X = [dk Z] ∧ y = (none, 6)
      else ∃ S : St, base = (S.base : Int) ∧ pages = (S.pages : Int) ∧ gen = (S.gen : Int) ∧ S.ok Z.sure.length ∧ y = (some ⟨S.q, 0, none⟩, 0) ∧ X = [spt S Z.sb, dk Z] := fun L => by
  have F := F26 Z h
  have hn := h.n1
  simp only [Dk.p] at F
  unfold wf64 at w1 w2 w3
  refine c51_fn rfl rfl ?_
  by_cases hA : gen < 1 ∨ 65535 < gen ∨ base < 0 ∨ pages < 1 ∨ 200 < pages
  · simp only [hA, if_true]
    repeat' ((fail_if_success with_reducible refine (id : E _ (ph _) → E _ (ph _)) ?_); first | ((with_reducible refine d_seq ?_); intro K hK) | ((with_reducible refine d_reg ?_); simp only [go_sem, Nat.reduceAdd, Nat.reduceEqDiff, Int.reduceToNat, Nat.reduceMul, Nat.reduceSub]) | ((first | ((with_reducible refine d_cnd ?_); refine And.intro ?_ ?_) | (with_reducible refine r_cnd ?_ ?_)); all_goals (intro hc; (try simp only [push_cast, Int.reduceEq, Int.reduceLT, Int.reduceLE, Int.reduceNe] at hc))) | ((with_reducible refine hK _ _ ?_); clear hK; clear K) | ((with_reducible first | refine d_blk ?_ | refine d_rt0 ?_ | refine d_sk0 ?_ | refine d_ex0 ?_); (try simp only [go_sem, Nat.reduceAdd, Nat.reduceEqDiff, Int.reduceToNat, Nat.reduceMul, Nat.reduceSub])) | (with_reducible refine r_rq (by first | decide | omega) ?_) | ((with_reducible refine r_nwc ?_); intro b) | ((with_reducible first | apply i_lds | apply i_ldsq | apply i_ld | apply i_ldq); exact rfl) | ((with_reducible first | apply i_ldn | apply i_ldnq); exact rfl; exact rfl; exact rfl) | (with_reducible first | refine r_ph0 ?_ | apply i_kp0) | ((with_reducible first | apply i_st | apply i_stl); (focus simp); exact rfl) | simp only [go_sem, Nat.reduceAdd, Nat.reduceEqDiff, Int.reduceToNat, Nat.reduceMul, Nat.reduceSub] | (clear hK; clear K))
    all_goals try (exfalso; omega)
    all_goals exact i_done (e := eT2 eP eI) (none, 1) [dk Z] rfl ⟨rfl, rfl⟩
  · simp only [hA, if_false]
    by_cases hB : (Z.sure.length : Int) < base ∨ (Z.sure.length : Int) - base < 4 * pages
    · simp only [hB, if_true]
      repeat' ((fail_if_success with_reducible refine (id : E _ (ph _) → E _ (ph _)) ?_); first | ((with_reducible refine d_seq ?_); intro K hK) | ((with_reducible refine d_reg ?_); simp only [go_sem, Nat.reduceAdd, Nat.reduceEqDiff, Int.reduceToNat, Nat.reduceMul, Nat.reduceSub]) | ((first | ((with_reducible refine d_cnd ?_); refine And.intro ?_ ?_) | (with_reducible refine r_cnd ?_ ?_)); all_goals (intro hc; (try simp only [push_cast, Int.reduceEq, Int.reduceLT, Int.reduceLE, Int.reduceNe] at hc))) | ((with_reducible refine hK _ _ ?_); clear hK; clear K) | ((with_reducible first | refine d_blk ?_ | refine d_rt0 ?_ | refine d_sk0 ?_ | refine d_ex0 ?_); (try simp only [go_sem, Nat.reduceAdd, Nat.reduceEqDiff, Int.reduceToNat, Nat.reduceMul, Nat.reduceSub])) | (with_reducible refine r_rq (by first | decide | omega) ?_) | ((with_reducible refine r_nwc ?_); intro b) | ((with_reducible first | apply i_lds | apply i_ldsq | apply i_ld | apply i_ldq); exact rfl) | ((with_reducible first | apply i_ldn | apply i_ldnq); exact rfl; exact rfl; exact rfl) | (with_reducible first | refine r_ph0 ?_ | apply i_kp0) | ((with_reducible first | apply i_st | apply i_stl); (focus simp); exact rfl) | simp only [go_sem, Nat.reduceAdd, Nat.reduceEqDiff, Int.reduceToNat, Nat.reduceMul, Nat.reduceSub] | (clear hK; clear K))
      all_goals try (exfalso; omega)
      refine i_clp F ?_
      repeat' ((fail_if_success with_reducible refine (id : E _ (ph _) → E _ (ph _)) ?_); first | ((with_reducible refine d_seq ?_); intro K hK) | ((with_reducible refine d_reg ?_); simp only [go_sem, Nat.reduceAdd, Nat.reduceEqDiff, Int.reduceToNat, Nat.reduceMul, Nat.reduceSub]) | ((first | ((with_reducible refine d_cnd ?_); refine And.intro ?_ ?_) | (with_reducible refine r_cnd ?_ ?_)); all_goals (intro hc; (try simp only [push_cast, Int.reduceEq, Int.reduceLT, Int.reduceLE, Int.reduceNe] at hc))) | ((with_reducible refine hK _ _ ?_); clear hK; clear K) | ((with_reducible first | refine d_blk ?_ | refine d_rt0 ?_ | refine d_sk0 ?_ | refine d_ex0 ?_); (try simp only [go_sem, Nat.reduceAdd, Nat.reduceEqDiff, Int.reduceToNat, Nat.reduceMul, Nat.reduceSub])) | (with_reducible refine r_rq (by first | decide | omega) ?_) | ((with_reducible refine r_nwc ?_); intro b) | ((with_reducible first | apply i_lds | apply i_ldsq | apply i_ld | apply i_ldq); exact rfl) | ((with_reducible first | apply i_ldn | apply i_ldnq); exact rfl; exact rfl; exact rfl) | (with_reducible first | refine r_ph0 ?_ | apply i_kp0) | ((with_reducible first | apply i_st | apply i_stl); (focus simp); exact rfl) | simp only [go_sem, Nat.reduceAdd, Nat.reduceEqDiff, Int.reduceToNat, Nat.reduceMul, Nat.reduceSub] | (clear hK; clear K))
      all_goals try (exfalso; omega)
      · exact i_done (e := eT2 eP eI) (none, 6) [dk Z] rfl ⟨rfl, rfl⟩
      · refine i_clp F ?_
        rw [w64 (by omega) (by omega), w64 (by omega) (by omega)]
        repeat' ((fail_if_success with_reducible refine (id : E _ (ph _) → E _ (ph _)) ?_); first | ((with_reducible refine d_seq ?_); intro K hK) | ((with_reducible refine d_reg ?_); simp only [go_sem, Nat.reduceAdd, Nat.reduceEqDiff, Int.reduceToNat, Nat.reduceMul, Nat.reduceSub]) | ((first | ((with_reducible refine d_cnd ?_); refine And.intro ?_ ?_) | (with_reducible refine r_cnd ?_ ?_)); all_goals (intro hc; (try simp only [push_cast, Int.reduceEq, Int.reduceLT, Int.reduceLE, Int.reduceNe] at hc))) | ((with_reducible refine hK _ _ ?_); clear hK; clear K) | ((with_reducible first | refine d_blk ?_ | refine d_rt0 ?_ | refine d_sk0 ?_ | refine d_ex0 ?_); (try simp only [go_sem, Nat.reduceAdd, Nat.reduceEqDiff, Int.reduceToNat, Nat.reduceMul, Nat.reduceSub])) | (with_reducible refine r_rq (by first | decide | omega) ?_) | ((with_reducible refine r_nwc ?_); intro b) | ((with_reducible first | apply i_lds | apply i_ldsq | apply i_ld | apply i_ldq); exact rfl) | ((with_reducible first | apply i_ldn | apply i_ldnq); exact rfl; exact rfl; exact rfl) | (with_reducible first | refine r_ph0 ?_ | apply i_kp0) | ((with_reducible first | apply i_st | apply i_stl); (focus simp); exact rfl) | simp only [go_sem, Nat.reduceAdd, Nat.reduceEqDiff, Int.reduceToNat, Nat.reduceMul, Nat.reduceSub] | (clear hK; clear K))
        all_goals try (exfalso; omega)
        exact i_done (e := eT2 eP eI) (none, 6) [dk Z] rfl ⟨rfl, rfl⟩
    · simp only [hB, if_false]
      repeat' ((fail_if_success with_reducible refine (id : E _ (ph _) → E _ (ph _)) ?_); first | ((with_reducible refine d_seq ?_); intro K hK) | ((with_reducible refine d_reg ?_); simp only [go_sem, Nat.reduceAdd, Nat.reduceEqDiff, Int.reduceToNat, Nat.reduceMul, Nat.reduceSub]) | ((first | ((with_reducible refine d_cnd ?_); refine And.intro ?_ ?_) | (with_reducible refine r_cnd ?_ ?_)); all_goals (intro hc; (try simp only [push_cast, Int.reduceEq, Int.reduceLT, Int.reduceLE, Int.reduceNe] at hc))) | ((with_reducible refine hK _ _ ?_); clear hK; clear K) | ((with_reducible first | refine d_blk ?_ | refine d_rt0 ?_ | refine d_sk0 ?_ | refine d_ex0 ?_); (try simp only [go_sem, Nat.reduceAdd, Nat.reduceEqDiff, Int.reduceToNat, Nat.reduceMul, Nat.reduceSub])) | (with_reducible refine r_rq (by first | decide | omega) ?_) | ((with_reducible refine r_nwc ?_); intro b) | ((with_reducible first | apply i_lds | apply i_ldsq | apply i_ld | apply i_ldq); exact rfl) | ((with_reducible first | apply i_ldn | apply i_ldnq); exact rfl; exact rfl; exact rfl) | (with_reducible first | refine r_ph0 ?_ | apply i_kp0) | ((with_reducible first | apply i_st | apply i_stl); (focus simp); exact rfl) | simp only [go_sem, Nat.reduceAdd, Nat.reduceEqDiff, Int.reduceToNat, Nat.reduceMul, Nat.reduceSub] | (clear hK; clear K))
      all_goals try (exfalso; omega)
      refine i_clp F ?_
      repeat' ((fail_if_success with_reducible refine (id : E _ (ph _) → E _ (ph _)) ?_); first | ((with_reducible refine d_seq ?_); intro K hK) | ((with_reducible refine d_reg ?_); simp only [go_sem, Nat.reduceAdd, Nat.reduceEqDiff, Int.reduceToNat, Nat.reduceMul, Nat.reduceSub]) | ((first | ((with_reducible refine d_cnd ?_); refine And.intro ?_ ?_) | (with_reducible refine r_cnd ?_ ?_)); all_goals (intro hc; (try simp only [push_cast, Int.reduceEq, Int.reduceLT, Int.reduceLE, Int.reduceNe] at hc))) | ((with_reducible refine hK _ _ ?_); clear hK; clear K) | ((with_reducible first | refine d_blk ?_ | refine d_rt0 ?_ | refine d_sk0 ?_ | refine d_ex0 ?_); (try simp only [go_sem, Nat.reduceAdd, Nat.reduceEqDiff, Int.reduceToNat, Nat.reduceMul, Nat.reduceSub])) | (with_reducible refine r_rq (by first | decide | omega) ?_) | ((with_reducible refine r_nwc ?_); intro b) | ((with_reducible first | apply i_lds | apply i_ldsq | apply i_ld | apply i_ldq); exact rfl) | ((with_reducible first | apply i_ldn | apply i_ldnq); exact rfl; exact rfl; exact rfl) | (with_reducible first | refine r_ph0 ?_ | apply i_kp0) | ((with_reducible first | apply i_st | apply i_stl); (focus simp); exact rfl) | simp only [go_sem, Nat.reduceAdd, Nat.reduceEqDiff, Int.reduceToNat, Nat.reduceMul, Nat.reduceSub] | (clear hK; clear K))
      all_goals try (exfalso; omega)
      refine i_clp F ?_
      rw [w64 (by omega) (by omega), w64 (by omega) (by omega)]
      repeat' ((fail_if_success with_reducible refine (id : E _ (ph _) → E _ (ph _)) ?_); first | ((with_reducible refine d_seq ?_); intro K hK) | ((with_reducible refine d_reg ?_); simp only [go_sem, Nat.reduceAdd, Nat.reduceEqDiff, Int.reduceToNat, Nat.reduceMul, Nat.reduceSub]) | ((first | ((with_reducible refine d_cnd ?_); refine And.intro ?_ ?_) | (with_reducible refine r_cnd ?_ ?_)); all_goals (intro hc; (try simp only [push_cast, Int.reduceEq, Int.reduceLT, Int.reduceLE, Int.reduceNe] at hc))) | ((with_reducible refine hK _ _ ?_); clear hK; clear K) | ((with_reducible first | refine d_blk ?_ | refine d_rt0 ?_ | refine d_sk0 ?_ | refine d_ex0 ?_); (try simp only [go_sem, Nat.reduceAdd, Nat.reduceEqDiff, Int.reduceToNat, Nat.reduceMul, Nat.reduceSub])) | (with_reducible refine r_rq (by first | decide | omega) ?_) | ((with_reducible refine r_nwc ?_); intro b) | ((with_reducible first | apply i_lds | apply i_ldsq | apply i_ld | apply i_ldq); exact rfl) | ((with_reducible first | apply i_ldn | apply i_ldnq); exact rfl; exact rfl; exact rfl) | (with_reducible first | refine r_ph0 ?_ | apply i_kp0) | ((with_reducible first | apply i_st | apply i_stl); (focus simp); exact rfl) | simp only [go_sem, Nat.reduceAdd, Nat.reduceEqDiff, Int.reduceToNat, Nat.reduceMul, Nat.reduceSub] | (clear hK; clear K))
      all_goals try (exfalso; omega)
      obtain ⟨m, rfl⟩ : ∃ m : Nat, base = (m : Int) := ⟨base.toNat, by omega⟩
      obtain ⟨n, rfl⟩ : ∃ m : Nat, pages = (m : Int) := ⟨pages.toNat, by omega⟩
      obtain ⟨g, rfl⟩ : ∃ m : Nat, gen = (m : Int) := ⟨gen.toNat, by omega⟩
      exact i_done (e := eT2 eP eI) (some ⟨b, 0, none⟩, 0) [spt ⟨b, m, n, g⟩ Z.sb, dk Z] rfl ⟨⟨b, m, n, g⟩, rfl, rfl, rfl, ⟨by dsimp only; omega, by dsimp only; omega, by dsimp only; omega, by dsimp only; omega, by dsimp only; omega, hn⟩, rfl, rfl⟩
theorem f51n (base pages gen : Int) : Fp (eT2 eP eI) Try.prog 51 #[.pointer none, .int .i64 base, .int .i64 pages, .int .i64 gen] [] (none, 1) := fun L => by
  refine c51_fn rfl rfl ?_
  repeat' ((fail_if_success with_reducible refine (id : E _ (ph _) → E _ (ph _)) ?_); first | ((with_reducible refine d_seq ?_); intro K hK) | ((with_reducible refine d_reg ?_); simp only [go_sem, Nat.reduceAdd, Nat.reduceEqDiff, Int.reduceToNat, Nat.reduceMul, Nat.reduceSub]) | ((first | ((with_reducible refine d_cnd ?_); refine And.intro ?_ ?_) | (with_reducible refine r_cnd ?_ ?_)); all_goals (intro hc; (try simp only [push_cast, Int.reduceEq, Int.reduceLT, Int.reduceLE, Int.reduceNe] at hc))) | ((with_reducible refine hK _ _ ?_); clear hK; clear K) | ((with_reducible first | refine d_blk ?_ | refine d_rt0 ?_ | refine d_sk0 ?_ | refine d_ex0 ?_); (try simp only [go_sem, Nat.reduceAdd, Nat.reduceEqDiff, Int.reduceToNat, Nat.reduceMul, Nat.reduceSub])) | (with_reducible refine r_rq (by first | decide | omega) ?_) | ((with_reducible refine r_nwc ?_); intro b) | ((with_reducible first | apply i_lds | apply i_ldsq | apply i_ld | apply i_ldq); exact rfl) | ((with_reducible first | apply i_ldn | apply i_ldnq); exact rfl; exact rfl; exact rfl) | (with_reducible first | refine r_ph0 ?_ | apply i_kp0) | ((with_reducible first | apply i_st | apply i_stl); (focus simp); exact rfl) | simp only [go_sem, Nat.reduceAdd, Nat.reduceEqDiff, Int.reduceToNat, Nat.reduceMul, Nat.reduceSub] | (clear hK; clear K))
  all_goals try (first | contradiction | (simp only [ reduceCtorEq] at *; done) | (exfalso; omega))
  (with_reducible first | apply i_ret0 | apply i_ret2 | apply i_ret3 | apply i_ret); exact rfl
  rfl
end Go.Sp
/- The store: what every sector has, whatever is done; a page that is written is read. -/
namespace Go.Sp
open Go Go.Proofs
set_option linter.unusedSimpArgs false
set_option linter.unusedVariables false
set_option maxRecDepth 10000
/-- All that a sector may have, lasting or waiting. -/
def All (P : Nat → List UInt8 → Prop) (Z : Dk) : Prop := ∀ j, j < Z.sure.length → P j (wh (Z.sure.getD j [])) ∧ ∀ v, gk Z.es (j : Int) = some v → P j v
section
variable {P : Nat → List UInt8 → Prop} {Z : Dk}
theorem All.get (h : All P Z) {j : Nat} (hj : j < Z.sure.length) : P j (Z.get (j : Int)) := by
  obtain ⟨h1, h2⟩ := h j hj
  unfold Dk.get
  cases hg : gk Z.es (j : Int) with
  | none => simpa using h1
  | some v => simpa using h2 v hg
theorem All.of {Z' : Dk} (h : All P Z) (hs : Z'.sure = Z.sure) (he : Z'.es = Z.es) : All P Z' := by
  intro j hj
  rw [hs] at hj ⊢
  rw [he]
  exact h j hj
theorem All.off (hok : Z.ok) (h : All P Z) (keep : Int) : All P (Z.off keep) := by
  have hl := Dk.cutn_len Z keep Z.keys.length
  intro j hj
  have hj' : j < Z.sure.length := by rw [← hl]; exact hj
  refine ⟨?_, fun v hv => by cases hv⟩
  show P j (wh ((Z.cutn keep Z.keys.length).getD j []))
  rcases Dk.cut_or hok keep Z.keys.length (Nat.le_refl _) j with h1 | h1
  · rw [h1]; exact (h j hj').1
  · obtain ⟨x, hx, _, hv⟩ := gk_mem h1
    have h64 := hok.e64 x hx
    rw [hv] at h64
    rw [wh_full h64]
    exact (h j hj').2 _ h1
theorem All.act (hok : Z.ok) (h : All P Z) : All P Z.act.2 := by
  unfold Dk.act
  split
  · exact All.off hok h _
  · exact All.of h rfl rfl
theorem All.write (hok : Z.ok) (h : All P Z) {i : Nat} {s : List UInt8} (hp : s.length ≤ 64 → P i (wh s)) : All P (Z.write (i : Int) s).2 := by
  have ha := All.act hok h
  unfold Dk.write
  split
  · split
    · exact h
    · rename_i hs
      split
      · intro j hj
        refine ⟨(ha j hj).1, fun v hv => ?_⟩
        have e : gk (Z.act.2.put (i : Int) (wh s)).es (j : Int) = if (i : Int) = (j : Int) then some (wh s) else gk Z.act.2.es (j : Int) := gk_pk _ _ _ _ _
        rw [e] at hv
        by_cases hij : (i : Int) = (j : Int)
        · rw [if_pos hij] at hv
          have : i = j := by omega
          subst this
          simp only [Option.some.injEq] at hv
          rw [← hv]
          exact hp (by omega)
        · rw [if_neg hij] at hv
          exact (ha j hj).2 v hv
      · exact ha
  · exact h
theorem All.flush (hok : Z.ok) (h : All P Z) : All P Z.flush := by
  intro j hj
  have hj' : j < Z.sure.length := by rw [← sy_len Z.es Z.sure]; exact hj
  refine ⟨?_, fun v hv => by cases hv⟩
  have e := Dk.flush_get hok hj'
  have e2 : Z.flush.get (j : Int) = wh (Z.flush.sure.getD j []) := by
    unfold Dk.get
    simp [Dk.flush, gk]
  rw [← e2, e]
  exact h.get hj'
theorem All.sync (hok : Z.ok) (h : All P Z) : All P Z.sync.2 := by
  have ha := All.act hok h
  unfold Dk.sync
  split
  · split
    · exact All.flush (Dk.act_ok hok) ha
    · exact ha
  · exact h
theorem All.wp (hok : Z.ok) (h : All P Z) {a : Nat} {m text : List UInt8} (hm : m.length = 8) (ht : text.length = 224) (hp : ∀ i, i < 4 → P (a + i) (m ++ pt text i)) : ∀ k, k ≤ 4 → All P (Z.wp a m text k).2
  | 0, _ => h
  | k + 1, hk => by
    have ih := All.wp hok h hm ht hp k (by omega)
    have h1 := (Dk.wp_ok hok a m text k).1
    unfold Dk.wp
    split
    · refine All.write h1 ih fun _ => ?_
      rw [wh_full (by rw [List.length_append, pt_len ht (by omega)]; omega)]
      exact hp k (by omega)
    · exact ih
theorem All.wpg {S : St} (hok : Z.ok) (h : All P Z) {id : Int} {text : List UInt8} {lsn : Int} (hp : ∀ p : Nat, id = (p : Int) → p < S.pages → text.length = 224 → 0 ≤ lsn → lsn < 281474976710656 → ∀ i, i < 4 → P (S.base + 4 * p + i) (mk8 S.gen lsn ++ pt text i)) : All P (Z.wpg S id text lsn).2 := by
  unfold Dk.wpg
  split
  · rename_i hc
    obtain ⟨p, rfl, hlt⟩ := St.chk_in hc
    split
    · rename_i ht
      split
      · exact h
      · rw [Int.toNat_natCast]
        exact All.wp hok h (mk8_len _ _) ht (hp p rfl hlt ht (by omega) (by omega)) 4 (Nat.le_refl _)
    · exact h
  · exact h
end
theorem Dk.act_n (Z : Dk) : Z.act.2.sure.length = Z.sure.length := Dk.act_len Z
theorem Dk.write_n (Z : Dk) (i : Int) (s : List UInt8) : (Z.write i s).2.sure.length = Z.sure.length := by
  have := Dk.act_len Z
  unfold Dk.write
  split
  · split
    · rfl
    · split
      · exact this
      · exact this
  · rfl
theorem Dk.sync_n (Z : Dk) : Z.sync.2.sure.length = Z.sure.length := by
  have := Dk.act_len Z
  unfold Dk.sync
  split
  · split
    · exact (sy_len _ _).trans this
    · exact this
  · rfl
theorem Dk.wp_n (Z : Dk) (a : Nat) (m text : List UInt8) : ∀ k, (Z.wp a m text k).2.sure.length = Z.sure.length
  | 0 => rfl
  | k + 1 => by
    have ih := Dk.wp_n Z a m text k
    unfold Dk.wp
    split
    · rw [Dk.write_n]; exact ih
    · exact ih
theorem Dk.wpg_same {Z : Dk} (h : Z.ok) (S : St) (id : Int) (text : List UInt8) (lsn : Int) : (Z.wpg S id text lsn).2.ok ∧ (Z.wpg S id text lsn).2.sb = Z.sb ∧ (Z.wpg S id text lsn).2.sure.length = Z.sure.length := by
  unfold Dk.wpg
  split
  · split
    · split
      · exact ⟨h, rfl, rfl⟩
      · obtain ⟨a, b⟩ := Dk.wp_ok h (S.base + 4 * id.toNat) (mk8 S.gen lsn) text 4
        exact ⟨a, b, Dk.wp_n _ _ _ _ _⟩
    · exact ⟨h, rfl, rfl⟩
  · exact ⟨h, rfl, rfl⟩
/-! ### Writes on a disk that nothing lets go -/
theorem Dk.calm.wp {Z : Dk} {sb n : Nat} (h : Z.calm sb n) {a : Nat} (ha : a + 4 ≤ n) {m text : List UInt8} (hm : m.length = 8) (ht : text.length = 224) : ∀ k, k ≤ 4 → (Z.wp a m text k).1 = 0 ∧ (Z.wp a m text k).2.calm sb n ∧ (Z.wp a m text k).2.sure = Z.sure ∧
    ∀ j : Nat, gk (Z.wp a m text k).2.es (j : Int) = if a ≤ j ∧ j < a + k then some (m ++ pt text (j - a)) else gk Z.es (j : Int)
  | 0, _ => ⟨rfl, h, rfl, fun j => by rw [if_neg (by omega)]; rfl⟩
  | k + 1, hk => by
    obtain ⟨h1, h2, h3, h4⟩ := Dk.calm.wp h ha hm ht k (by omega)
    have hpl := pt_len ht (i := k) (by omega)
    have hl : (m ++ pt text k).length = 64 := by rw [List.length_append]; omega
    obtain ⟨w1, w2, w3, w4, w5⟩ := h2.write (i := a + k) (by omega) (by omega : (m ++ pt text k).length ≤ 64)
    have e : Z.wp a m text (k + 1) = (Z.wp a m text k).2.write ((a + k : Nat) : Int) (m ++ pt text k) := by show ite _ _ _ = _; rw [if_pos h1]
    rw [e]
    refine ⟨w1, w2, w3.trans h3, fun j => ?_⟩
    rw [w5, h4, wh_full hl]
    by_cases hj : a + k = j
    · rw [if_pos (by omega), if_pos ⟨by omega, by omega⟩]
      have : j - a = k := by omega
      rw [this]
    · rw [if_neg (by omega)]
      by_cases hc : a ≤ j ∧ j < a + k
      · rw [if_pos hc, if_pos ⟨hc.1, by omega⟩]
      · rw [if_neg hc, if_neg (by omega)]
theorem pt_all {text : List UInt8} (ht : text.length = 224) : pt text 0 ++ pt text 1 ++ pt text 2 ++ pt text 3 = text := by
  have g : ∀ a w : Nat, text.take a ++ (text.drop a).take w = text.take (a + w) := fun a w => by rw [List.take_add]
  unfold pt
  rw [Nat.mul_zero, List.drop_zero, g, g, g, List.take_of_length_le (by omega)]
theorem mk8_gen {gen : Nat} (hg : gen < 65536) (lsn : Int) : be ((mk8 gen lsn).take 2) = gen := by
  have e : (mk8 gen lsn).take 2 = lowb (gen : Int) 2 := by
    unfold mk8
    rw [List.take_left' (lowb_len _ _)]
  rw [e]
  have := be_fits (n := (gen : Int)) (w := 2) (by omega) (by rw [p2562]; omega)
  omega
theorem mk8_lsn (gen : Nat) {lsn : Int} (h0 : 0 ≤ lsn) (h1 : lsn < 281474976710656) : (be (((mk8 gen lsn).drop 2).take 6) : Int) = lsn := by
  have e : ((mk8 gen lsn).drop 2).take 6 = lowb lsn 6 := by
    unfold mk8
    rw [List.drop_left' (lowb_len _ _), List.take_of_length_le (by rw [lowb_len]; omega)]
  rw [e]
  exact be_fits h0 (by rw [p2566]; exact h1)
theorem sc_parts {m u : List UInt8} (hm : m.length = 8) : (m ++ u).take 8 = m ∧ (m ++ u).drop 8 = u ∧ (m ++ u).take 2 = m.take 2 := by
  refine ⟨List.take_left' hm, List.drop_left' hm, ?_⟩
  rw [List.take_append_of_le_length (by omega)]
/-- A page whose sectors are as one write made them. -/
theorem rpg_of {Z : Dk} {S : St} {n p : Nat} (hS : S.ok n) (hp : p < S.pages) (hu : Z.up = true) {text : List UInt8} (ht : text.length = 224) {lsn : Int} (h0 : 0 ≤ lsn) (h1 : lsn < 281474976710656)
    (hs : ∀ i, i < 4 → Z.sc (S.base + 4 * p) i = mk8 S.gen lsn ++ pt text i) : Z.rpg S (p : Int) = (text, lsn, 0) := by
  have hc : S.chk (p : Int) = 0 := by unfold St.chk; rw [if_neg (by omega)]
  have hm := mk8_len S.gen lsn
  have hg := mk8_gen hS.g2 lsn
  have hq := mk8_lsn S.gen h0 h1
  unfold Dk.rpg
  rw [if_pos hc, hu, if_pos rfl, Int.toNat_natCast]
  generalize S.base + 4 * p = a at *
  have s0 := hs 0 (by decide)
  have s1 := hs 1 (by decide)
  have s2 := hs 2 (by decide)
  have s3 := hs 3 (by decide)
  have q0 := sc_parts (m := mk8 S.gen lsn) (u := pt text 0) hm
  have q1 := sc_parts (m := mk8 S.gen lsn) (u := pt text 1) hm
  have q2 := sc_parts (m := mk8 S.gen lsn) (u := pt text 2) hm
  have q3 := sc_parts (m := mk8 S.gen lsn) (u := pt text 3) hm
  have e1 : Z.rsm a S.gen 4 = true := by
    simp only [Dk.rsm]
    rw [s0, q0.2.2, hg]
    simp
  have e2 : Z.rwh a 4 = true := by
    simp only [Dk.rwh]
    rw [s0, s1, s2, s3, q0.1, q1.1, q2.1, q3.1]
    simp
  have e3 : Z.rtx a 4 = text := by
    simp only [Dk.rtx]
    rw [s0, s1, s2, s3, q0.2.1, q1.2.1, q2.2.1, q3.2.1]
    simpa using pt_all ht
  rw [e1, e2, e3, if_pos rfl, if_pos rfl, s0, q0.1, hq]
end Go.Sp
/- What each region of the Go functions does. Written by my own generator. -/
namespace Go.Sp
open Go
set_option maxRecDepth 100000
set_option linter.unusedVariables false
open Go.Proofs
/-! gharry.gharrylaw03.DiskPlays -/
noncomputable def c6 : Cfg := { P := Try.prog, n := 120, T := TT, body := (Try.f6.body).getD .skip, res := Try.f6.results.toList, li := lk [] [(0, [0, 1]), (1, [0, 1]), (2, []), (3, [0, 1]), (4, [0, 1, 5, 6]), (5, [5, 6]), (6, [0, 1, 5, 6]), (7, []), (8, [0, 1, 5]), (9, [0, 1, 5, 7]), (10, [0, 1, 5, 7, 8]), (11, [0, 1, 5, 7, 8]), (12, [0, 1, 5, 7, 8]), (13, [0, 1, 5, 7]), (14, [0, 1, 5, 7, 9]), (15, [0, 1, 5, 7, 9]), (16, [0, 1, 5, 7, 9]), (17, []), (18, [])], lo := lk [] [(0, [0, 1]), (1, [0, 1, 15]), (2, [4]), (3, [0, 1, 5, 6]), (4, [0, 1, 5, 6, 27]), (5, [4]), (6, [0, 1, 5, 42]), (7, [4]), (8, [0, 1, 5, 7]), (9, [0, 1, 5, 7, 8]), (10, [0, 1, 5, 7, 8, 47]), (11, [0, 1, 5, 7, 8]), (12, [0, 1, 5, 7, 8]), (13, [0, 1, 5, 7, 9]), (14, [0, 1, 5, 7, 9, 69]), (15, [0, 1, 5, 7, 9]), (16, [0, 1, 5, 7, 9, 118]), (17, [4]), (18, [4]), (1000000, [4])], ord := lk (false, []) [(12, (true, [(0, 1), (1, 1), (2, 1), (3, 1), (4, 0), (5, 2), (6, 2), (7, 1), (8, 2), (9, 4), (10, 1), (11, 1), (12, 4)])), (16, (true, [(0, 1), (1, 1), (2, 1), (3, 1), (4, 1), (5, 0), (6, 3), (7, 1), (8, 1), (9, 1), (11, 1), (12, 1), (13, 1), (14, 0), (10, 2), (15, 1), (16, 1), (17, 1), (18, 1), (20, 1), (19, 3), (21, 1), (22, 1), (23, 1), (24, 1), (26, 1), (27, 1), (28, 1), (29, 0), (25, 2), (30, 1), (31, 1), (32, 1), (33, 1), (35, 1), (36, 1), (37, 1), (38, 0), (34, 2), (39, 1), (40, 1), (41, 1), (42, 1), (43, 1), (44, 4), (45, 1), (46, 1)]))] }
@[go_sem] theorem c6_i0 : c6.li 0 = [0, 1] := rfl
@[go_sem] theorem c6_i1 : c6.li 1 = [0, 1] := rfl
@[go_sem] theorem c6_i2 : c6.li 2 = [] := rfl
@[go_sem] theorem c6_i3 : c6.li 3 = [0, 1] := rfl
@[go_sem] theorem c6_i4 : c6.li 4 = [0, 1, 5, 6] := rfl
@[go_sem] theorem c6_i5 : c6.li 5 = [5, 6] := rfl
@[go_sem] theorem c6_i6 : c6.li 6 = [0, 1, 5, 6] := rfl
@[go_sem] theorem c6_i7 : c6.li 7 = [] := rfl
@[go_sem] theorem c6_i8 : c6.li 8 = [0, 1, 5] := rfl
@[go_sem] theorem c6_i9 : c6.li 9 = [0, 1, 5, 7] := rfl
@[go_sem] theorem c6_i10 : c6.li 10 = [0, 1, 5, 7, 8] := rfl
@[go_sem] theorem c6_i11 : c6.li 11 = [0, 1, 5, 7, 8] := rfl
@[go_sem] theorem c6_i12 : c6.li 12 = [0, 1, 5, 7, 8] := rfl
@[go_sem] theorem c6_i13 : c6.li 13 = [0, 1, 5, 7] := rfl
@[go_sem] theorem c6_i14 : c6.li 14 = [0, 1, 5, 7, 9] := rfl
@[go_sem] theorem c6_i15 : c6.li 15 = [0, 1, 5, 7, 9] := rfl
@[go_sem] theorem c6_i16 : c6.li 16 = [0, 1, 5, 7, 9] := rfl
@[go_sem] theorem c6_i17 : c6.li 17 = [] := rfl
@[go_sem] theorem c6_i18 : c6.li 18 = [] := rfl
@[go_sem] theorem c6_r0 (sectors0 : Int) (script1p : Option Addr) (script1n script1c : Nat) (K : Env → W) : RP c6 0 [(0, .int .i64 sectors0), (1, .slice script1p script1n script1c)] K =
    (K [(0, .int .i64 sectors0), (1, .slice script1p script1n script1c)]) := by kernel_rfl
@[go_sem] theorem c6_r1 (sectors0 : Int) (script1p : Option Addr) (script1n script1c : Nat) (K : Env → W) : RP c6 1 [(0, .int .i64 sectors0), (1, .slice script1p script1n script1c)] K =
    (cnd ((decide ((100 : Int) < sectors0))) (K [(0, .int .i64 sectors0), (1, .slice script1p script1n script1c), (15, .bool ((decide (sectors0 ≤ (8192 : Int)))))]) (K [(0, .int .i64 sectors0), (1, .slice script1p script1n script1c), (15, .bool false)])) := by kernel_rfl
@[go_sem] theorem c6_r2 (K : Env → W) : RP c6 2 [] K =
    (cal eB Try.prog 24 #[] fun (y1_ : Bool) => (K [(4, .bool y1_)])) := by kernel_rfl
@[go_sem] theorem c6_r3 (sectors0 : Int) (script1p : Option Addr) (script1n script1c : Nat) (K : Env → W) : RP c6 3 [(0, .int .i64 sectors0), (1, .slice script1p script1n script1c)] K =
    (cal (eT2 eP eI) Try.prog 25 #[.int .i64 sectors0] fun (y1_ : ((Option Addr) × Int)) => (K [(0, .int .i64 sectors0), (1, .slice script1p script1n script1c), (5, .pointer y1_.1), (6, .int .i64 y1_.2)])) := by kernel_rfl
@[go_sem] theorem c6_r4 (sectors0 : Int) (script1p : Option Addr) (script1n script1c : Nat) (d5 : Option Addr) (e6 : Int) (K : Env → W) : RP c6 4 [(0, .int .i64 sectors0), (1, .slice script1p script1n script1c), (5, .pointer d5), (6, .int .i64 e6)] K =
    (cnd ((decide (sectors0 < (1 : Int)))) (K [(0, .int .i64 sectors0), (1, .slice script1p script1n script1c), (5, .pointer d5), (6, .int .i64 e6), (27, .bool true)]) (K [(0, .int .i64 sectors0), (1, .slice script1p script1n script1c), (5, .pointer d5), (6, .int .i64 e6), (27, .bool ((decide ((8192 : Int) < sectors0))))])) := by kernel_rfl
@[go_sem] theorem c6_r5 (d5 : Option Addr) (e6 : Int) (K : Env → W) : RP c6 5 [(5, .pointer d5), (6, .int .i64 e6)] K =
    (cnd ((d5).isNone) (cnd ((e6 == (1 : Int))) (cal eB Try.prog 24 #[] fun (y1_ : Bool) => (K [(4, .bool y1_)])) (K [(4, .bool false)])) (K [(4, .bool false)])) := by kernel_rfl
@[go_sem] theorem c6_r6 (sectors0 : Int) (script1p : Option Addr) (script1n script1c : Nat) (d5 : Option Addr) (e6 : Int) (K : Env → W) : RP c6 6 [(0, .int .i64 sectors0), (1, .slice script1p script1n script1c), (5, .pointer d5), (6, .int .i64 e6)] K =
    (cnd ((e6 != (0 : Int))) (K [(0, .int .i64 sectors0), (1, .slice script1p script1n script1c), (5, .pointer d5), (42, .bool true)]) (K [(0, .int .i64 sectors0), (1, .slice script1p script1n script1c), (5, .pointer d5), (42, .bool ((d5).isNone))])) := by kernel_rfl
@[go_sem] theorem c6_r7 (K : Env → W) : RP c6 7 [] K =
    (K [(4, .bool false)]) := by kernel_rfl
@[go_sem] theorem c6_r8 (sectors0 : Int) (script1p : Option Addr) (script1n script1c : Nat) (d5 : Option Addr) (K : Env → W) : RP c6 8 [(0, .int .i64 sectors0), (1, .slice script1p script1n script1c), (5, .pointer d5)] K =
    (nwc #[.slice ((((⟨(none, 0, 0), false, false, (0 : Int), (0 : Int), (0 : Int), (0 : Int)⟩ : gharrylaw03_plain)).l).1) ((((⟨(none, 0, 0), false, false, (0 : Int), (0 : Int), (0 : Int), (0 : Int)⟩ : gharrylaw03_plain)).l).2.1) ((((⟨(none, 0, 0), false, false, (0 : Int), (0 : Int), (0 : Int), (0 : Int)⟩ : gharrylaw03_plain)).l).2.2), .bool (((⟨(none, 0, 0), false, false, (0 : Int), (0 : Int), (0 : Int), (0 : Int)⟩ : gharrylaw03_plain)).down), .bool (((⟨(none, 0, 0), false, false, (0 : Int), (0 : Int), (0 : Int), (0 : Int)⟩ : gharrylaw03_plain)).armed), .int .i64 (((⟨(none, 0, 0), false, false, (0 : Int), (0 : Int), (0 : Int), (0 : Int)⟩ : gharrylaw03_plain)).left), .int .u64 (((⟨(none, 0, 0), false, false, (0 : Int), (0 : Int), (0 : Int), (0 : Int)⟩ : gharrylaw03_plain)).keep), .int .i64 (((⟨(none, 0, 0), false, false, (0 : Int), (0 : Int), (0 : Int), (0 : Int)⟩ : gharrylaw03_plain)).acts), .int .i64 (((⟨(none, 0, 0), false, false, (0 : Int), (0 : Int), (0 : Int), (0 : Int)⟩ : gharrylaw03_plain)).downs)] 49 fun y1_ => (K [(0, .int .i64 sectors0), (1, .slice script1p script1n script1c), (5, .pointer d5), (7, .pointer (some y1_))])) := by kernel_rfl
@[go_sem] theorem c6_r9 (sectors0 : Int) (script1p : Option Addr) (script1n script1c : Nat) (d5 : Option Addr) (p7 : Addr) (K : Env → W) : RP c6 9 [(0, .int .i64 sectors0), (1, .slice script1p script1n script1c), (5, .pointer d5), (7, .pointer (some p7))] K =
    (K [(0, .int .i64 sectors0), (1, .slice script1p script1n script1c), (5, .pointer d5), (7, .pointer (some p7)), (8, .int .i64 ((0 : Int)))]) := by kernel_rfl
@[go_sem] theorem c6_r10 (sectors0 : Int) (script1p : Option Addr) (script1n script1c : Nat) (d5 : Option Addr) (p7 : Addr) (i8 : Int) (K : Env → W) : RP c6 10 [(0, .int .i64 sectors0), (1, .slice script1p script1n script1c), (5, .pointer d5), (7, .pointer (some p7)), (8, .int .i64 i8)] K =
    (K [(0, .int .i64 sectors0), (1, .slice script1p script1n script1c), (5, .pointer d5), (7, .pointer (some p7)), (8, .int .i64 i8), (47, .bool ((decide (i8 < sectors0))))]) := by kernel_rfl
@[go_sem] theorem c6_r11 (sectors0 : Int) (script1p : Option Addr) (script1n script1c : Nat) (d5 : Option Addr) (p7 : Addr) (i8 : Int) (K : Env → W) : RP c6 11 [(0, .int .i64 sectors0), (1, .slice script1p script1n script1c), (5, .pointer d5), (7, .pointer (some p7)), (8, .int .i64 i8)] K =
    (K [(0, .int .i64 sectors0), (1, .slice script1p script1n script1c), (5, .pointer d5), (7, .pointer (some p7)), (8, .int .i64 ((IntKind.wrap .i64 (i8 + (1 : Int)))))]) := by kernel_rfl
@[go_sem] theorem c6_r12 (sectors0 : Int) (script1p : Option Addr) (script1n script1c : Nat) (d5 : Option Addr) (p7 : Addr) (i8 : Int) (K : Env → W) : RP c6 12 [(0, .int .i64 sectors0), (1, .slice script1p script1n script1c), (5, .pointer d5), (7, .pointer (some p7)), (8, .int .i64 i8)] K =
    (ph fun S0 => (ldq S0 eSl p7 fun (y1_ : (Option Addr × Nat × Nat)) => (cal eS Try.prog 32 #[str (([] : List UInt8))] fun (y2_ : List UInt8) => (kpn S0 fun S1 => (cal eS Try.prog 32 #[str (([] : List UInt8))] fun (y3_ : List UInt8) => (kpn S1 fun S2 => (nwc #[str (((⟨y2_, y3_, false⟩ : gharrylaw03_sector)).sure), str (((⟨y2_, y3_, false⟩ : gharrylaw03_sector)).now), .bool (((⟨y2_, y3_, false⟩ : gharrylaw03_sector)).waits)] 51 fun y4_ => (kpn S2 fun S3 => (val eSl Try.prog (oB_append #[47, 47] 47 #[.slice y1_.1 y1_.2.1 y1_.2.2, .slice ((some y4_)) 1 1]) fun (y5_ : (Option Addr × Nat × Nat)) => (st p7 (.slice y5_.1 y5_.2.1 y5_.2.2) (K [(0, .int .i64 sectors0), (1, .slice script1p script1n script1c), (5, .pointer d5), (7, .pointer (some p7)), (8, .int .i64 i8)]))))))))))) := by kernel_rfl
@[go_sem] theorem c6_r13 (sectors0 : Int) (script1p : Option Addr) (script1n script1c : Nat) (d5 : Option Addr) (p7 : Addr) (K : Env → W) : RP c6 13 [(0, .int .i64 sectors0), (1, .slice script1p script1n script1c), (5, .pointer d5), (7, .pointer (some p7))] K =
    (K [(0, .int .i64 sectors0), (1, .slice script1p script1n script1c), (5, .pointer d5), (7, .pointer (some p7)), (9, .int .i64 ((0 : Int)))]) := by kernel_rfl
@[go_sem] theorem c6_r14 (sectors0 : Int) (script1p : Option Addr) (script1n script1c : Nat) (d5 : Option Addr) (p7 : Addr) (i9 : Int) (K : Env → W) : RP c6 14 [(0, .int .i64 sectors0), (1, .slice script1p script1n script1c), (5, .pointer d5), (7, .pointer (some p7)), (9, .int .i64 i9)] K =
    (cnd ((decide (i9 < (script1n : Int)))) (K [(0, .int .i64 sectors0), (1, .slice script1p script1n script1c), (5, .pointer d5), (7, .pointer (some p7)), (9, .int .i64 i9), (69, .bool ((decide (i9 < (80 : Int)))))]) (K [(0, .int .i64 sectors0), (1, .slice script1p script1n script1c), (5, .pointer d5), (7, .pointer (some p7)), (9, .int .i64 i9), (69, .bool false)])) := by kernel_rfl
@[go_sem] theorem c6_r15 (sectors0 : Int) (script1p : Option Addr) (script1n script1c : Nat) (d5 : Option Addr) (p7 : Addr) (i9 : Int) (K : Env → W) : RP c6 15 [(0, .int .i64 sectors0), (1, .slice script1p script1n script1c), (5, .pointer d5), (7, .pointer (some p7)), (9, .int .i64 i9)] K =
    (K [(0, .int .i64 sectors0), (1, .slice script1p script1n script1c), (5, .pointer d5), (7, .pointer (some p7)), (9, .int .i64 ((IntKind.wrap .i64 (i9 + (1 : Int)))))]) := by kernel_rfl
@[go_sem] theorem c6_r16 (sectors0 : Int) (script1p : Option Addr) (script1n script1c : Nat) (d5 : Option Addr) (p7 : Addr) (i9 : Int) (K : Env → W) : RP c6 16 [(0, .int .i64 sectors0), (1, .slice script1p script1n script1c), (5, .pointer d5), (7, .pointer (some p7)), (9, .int .i64 i9)] K =
    (ph fun S0 => (rq (0 ≤ i9 ∧ i9 < (script1n : Int)) (nn script1p fun y1_ => (ldnq S0 e_gharrylaw03_Op 4 ((Addr.add y1_ ((i9).toNat * 4))) fun (y2_ : gharrylaw03_Op) => (cal eB Try.prog 36 #[.pointer d5, .pointer (some p7), v_gharrylaw03_Op y2_] fun (y3_ : Bool) => (ph fun S1 => (cnd ((!y3_)) (kpn S1 fun S2 => (ph fun S3 => (kpn S3 fun S4 => (kpn S4 fun S5 => (K [(0, .int .i64 sectors0), (1, .slice script1p script1n script1c), (5, .pointer d5), (7, .pointer (some p7)), (9, .int .i64 i9), (118, .bool true)]))))) (ldq S1 eB ((p7.add 1)) fun (y4_ : Bool) => (cal eB Try.prog 37 #[.pointer d5] fun (y5_ : Bool) => (kpn S1 fun S6 => (cnd ((y5_ == y4_)) (ph fun S7 => (kpn S7 fun S8 => (kpn S8 fun S9 => (K [(0, .int .i64 sectors0), (1, .slice script1p script1n script1c), (5, .pointer d5), (7, .pointer (some p7)), (9, .int .i64 i9), (118, .bool true)])))) (cal eI Try.prog 26 #[.pointer d5] fun (y6_ : Int) => (ph fun S10 => (cnd ((y6_ != sectors0)) (kpn S10 fun S11 => (kpn S11 fun S12 => (K [(0, .int .i64 sectors0), (1, .slice script1p script1n script1c), (5, .pointer d5), (7, .pointer (some p7)), (9, .int .i64 i9), (118, .bool true)]))) (ldq S10 eI ((p7.add 5)) fun (y7_ : Int) => (cal eI Try.prog 38 #[.pointer d5] fun (y8_ : Int) => (kpn S10 fun S13 => (cnd ((y8_ != y7_)) (kpn S13 fun S14 => (K [(0, .int .i64 sectors0), (1, .slice script1p script1n script1c), (5, .pointer d5), (7, .pointer (some p7)), (9, .int .i64 i9), (118, .bool true)])) (ldq S13 eI ((p7.add 6)) fun (y9_ : Int) => (cal eI Try.prog 39 #[.pointer d5] fun (y10_ : Int) => (kpn S13 fun S15 => (cnd ((y10_ != y9_)) (K [(0, .int .i64 sectors0), (1, .slice script1p script1n script1c), (5, .pointer d5), (7, .pointer (some p7)), (9, .int .i64 i9), (118, .bool true)]) (cal eB Try.prog 40 #[.pointer d5, .pointer (some p7)] fun (y11_ : Bool) => (K [(0, .int .i64 sectors0), (1, .slice script1p script1n script1c), (5, .pointer d5), (7, .pointer (some p7)), (9, .int .i64 i9), (118, .bool ((!y11_)))])))))))))))))))))))))))) := by kernel_rfl
@[go_sem] theorem c6_r17 (K : Env → W) : RP c6 17 [] K =
    (K [(4, .bool false)]) := by kernel_rfl
@[go_sem] theorem c6_r18 (K : Env → W) : RP c6 18 [] K =
    (cal eB Try.prog 24 #[] fun (y1_ : Bool) => (K [(4, .bool y1_)])) := by kernel_rfl
@[go_sem] theorem c6_o : c6.lo 1000000 = [4] := rfl
@[go_sem] theorem c6_e (t4 : Bool) (k : Value → W) : RTp c6 [(4, .bool t4)] k = (k (.bool t4)) := by kernel_rfl
theorem c6_ok : (c6.P.follows .mixedOrders && okc c6 c6.body) = true := by kernel_rfl
theorem c6_fn {e : Enc} {args : Array Value} {G : e.α → W} {L : List HP} {ρ : Env} (hρ : envA 0 args.toList = ρ) (hs : Nat.ble args.size 120 = true) (h : E L (D c6 (.seq (.reg 0) (.seq (.seq (.reg 1) (.cond (.tmp 15) (.seq (.reg 2) (.ret)) (.skip))) (.seq (.reg 3) (.seq (.seq (.reg 4) (.cond (.tmp 27) (.seq (.reg 5) (.ret)) (.skip))) (.seq (.seq (.reg 6) (.cond (.tmp 42) (.seq (.reg 7) (.ret)) (.skip))) (.seq (.reg 8) (.seq (.seq (.reg 9) (.block 0 (.loop (.seq (.seq (.reg 10) (.cond (.tmp 47) (.skip) (.exit 0))) (.seq (.block 1 (.reg 12)) (.reg 11)))))) (.seq (.seq (.reg 13) (.block 2 (.loop (.seq (.seq (.reg 14) (.cond (.tmp 69) (.skip) (.exit 2))) (.seq (.block 3 (.seq (.reg 16) (.cond (.tmp 118) (.seq (.reg 17) (.ret)) (.skip)))) (.reg 15)))))) (.seq (.reg 18) (.ret)))))))))) (fnQ c6 e G) ρ)) : E L (cal e Try.prog 6 args G) :=
  d_fn (c := c6) Try.func6 (by kernel_rfl) (by kernel_rfl) (by kernel_rfl) c6_ok (by kernel_rfl) (by kernel_rfl) hρ hs h
-- loop (first region 14): live slots 0:sectors0 1:script1 5:d5 7:p7 9:i9, of which it writes [9]
-- loop (first region 10): live slots 0:sectors0 1:script1 5:d5 7:p7 8:i8, of which it writes [8]
/-! gharry.gharrylaw03.step -/
noncomputable def c36 : Cfg := { P := Try.prog, n := 170, T := TT, body := (Try.f36.body).getD .skip, res := Try.f36.results.toList, li := lk [] [(0, [0, 1, 2]), (1, [0, 1, 5]), (2, [0, 1]), (3, [0]), (4, [0, 1]), (5, [0]), (6, [0, 1, 5, 10]), (7, [0, 1, 5]), (8, [1, 5, 7, 8]), (9, [7, 8]), (10, [1, 5, 7, 8]), (11, [7, 8]), (12, [1, 5, 7, 8]), (13, [0, 1, 5, 10]), (14, [0, 1, 5]), (15, [0, 1, 5, 10]), (16, [0, 1]), (17, [0, 1, 5, 10]), (18, [0, 1, 5]), (19, [0, 5]), (20, [0, 1, 5]), (21, [0, 5]), (22, [0, 1, 5, 10]), (23, [0, 1, 5]), (24, [0, 5]), (25, [0, 1, 5]), (26, [0, 5]), (27, [0, 1, 5]), (28, [0, 1, 5]), (29, [0, 1, 5]), (30, [0, 5]), (31, [0, 1, 10]), (32, [0, 1]), (33, [0]), (34, [])], lo := lk [] [(0, [0, 1, 5]), (1, [0, 1, 5, 10]), (2, [0, 1, 15]), (3, [6]), (4, [0]), (5, [6]), (6, [0, 1, 5, 10, 25]), (7, [1, 5, 7, 8]), (8, [1, 5, 7, 8, 37]), (9, [6]), (10, [1, 5, 7, 8, 56]), (11, [6]), (12, [6]), (13, [0, 1, 5, 10, 78]), (14, [6]), (15, [0, 1, 5, 10, 93]), (16, [6]), (17, [0, 1, 5, 10, 100]), (18, [0, 1, 5, 105]), (19, [6]), (20, [0, 5]), (21, [6]), (22, [0, 1, 5, 10, 120]), (23, [0, 1, 5, 125]), (24, [6]), (25, [0, 1, 5, 135]), (26, [6]), (27, [0, 1, 5]), (28, [0, 1, 5]), (29, [0, 5]), (30, [6]), (31, [0, 1, 163]), (32, [0]), (33, []), (34, [6]), (1000000, [6])], ord := lk (false, []) [(10, (true, [(0, 1), (1, 0), (2, 1), (3, 1), (4, 1), (5, 0), (6, 1), (7, 1), (8, 1), (9, 0), (10, 1), (11, 1), (12, 1)])), (12, (true, [(0, 1), (1, 1), (2, 1), (3, 1), (4, 0), (5, 1), (6, 0), (7, 1), (8, 1), (9, 0), (10, 1), (11, 1), (12, 1), (13, 1), (14, 1), (15, 1)])), (14, (true, [(0, 1), (1, 1), (2, 0), (3, 1), (4, 0), (6, 1), (7, 1), (8, 0), (9, 1), (10, 0), (5, 2), (11, 4), (12, 1), (13, 1)]))] }
@[go_sem] theorem c36_i0 : c36.li 0 = [0, 1, 2] := rfl
@[go_sem] theorem c36_i1 : c36.li 1 = [0, 1, 5] := rfl
@[go_sem] theorem c36_i2 : c36.li 2 = [0, 1] := rfl
@[go_sem] theorem c36_i3 : c36.li 3 = [0] := rfl
@[go_sem] theorem c36_i4 : c36.li 4 = [0, 1] := rfl
@[go_sem] theorem c36_i5 : c36.li 5 = [0] := rfl
@[go_sem] theorem c36_i6 : c36.li 6 = [0, 1, 5, 10] := rfl
@[go_sem] theorem c36_i7 : c36.li 7 = [0, 1, 5] := rfl
@[go_sem] theorem c36_i8 : c36.li 8 = [1, 5, 7, 8] := rfl
@[go_sem] theorem c36_i9 : c36.li 9 = [7, 8] := rfl
@[go_sem] theorem c36_i10 : c36.li 10 = [1, 5, 7, 8] := rfl
@[go_sem] theorem c36_i11 : c36.li 11 = [7, 8] := rfl
@[go_sem] theorem c36_i12 : c36.li 12 = [1, 5, 7, 8] := rfl
@[go_sem] theorem c36_i13 : c36.li 13 = [0, 1, 5, 10] := rfl
@[go_sem] theorem c36_i14 : c36.li 14 = [0, 1, 5] := rfl
@[go_sem] theorem c36_i15 : c36.li 15 = [0, 1, 5, 10] := rfl
@[go_sem] theorem c36_i16 : c36.li 16 = [0, 1] := rfl
@[go_sem] theorem c36_i17 : c36.li 17 = [0, 1, 5, 10] := rfl
@[go_sem] theorem c36_i18 : c36.li 18 = [0, 1, 5] := rfl
@[go_sem] theorem c36_i19 : c36.li 19 = [0, 5] := rfl
@[go_sem] theorem c36_i20 : c36.li 20 = [0, 1, 5] := rfl
@[go_sem] theorem c36_i21 : c36.li 21 = [0, 5] := rfl
@[go_sem] theorem c36_i22 : c36.li 22 = [0, 1, 5, 10] := rfl
@[go_sem] theorem c36_i23 : c36.li 23 = [0, 1, 5] := rfl
@[go_sem] theorem c36_i24 : c36.li 24 = [0, 5] := rfl
@[go_sem] theorem c36_i25 : c36.li 25 = [0, 1, 5] := rfl
@[go_sem] theorem c36_i26 : c36.li 26 = [0, 5] := rfl
@[go_sem] theorem c36_i27 : c36.li 27 = [0, 1, 5] := rfl
@[go_sem] theorem c36_i28 : c36.li 28 = [0, 1, 5] := rfl
@[go_sem] theorem c36_i29 : c36.li 29 = [0, 1, 5] := rfl
@[go_sem] theorem c36_i30 : c36.li 30 = [0, 5] := rfl
@[go_sem] theorem c36_i31 : c36.li 31 = [0, 1, 10] := rfl
@[go_sem] theorem c36_i32 : c36.li 32 = [0, 1] := rfl
@[go_sem] theorem c36_i33 : c36.li 33 = [0] := rfl
@[go_sem] theorem c36_i34 : c36.li 34 = [] := rfl
@[go_sem] theorem c36_r0 (d0 : Option Addr) (p1 : Option Addr) (o2 : gharrylaw03_Op) (K : Env → W) : RP c36 0 [(0, .pointer d0), (1, .pointer p1), (2, v_gharrylaw03_Op o2)] K =
    (nwc #[.int .i64 o2.Kind, .int .i64 o2.I, str o2.S, .int .u64 o2.Keep] 54 fun y1_ => (K [(0, .pointer d0), (1, .pointer p1), (5, .pointer (some y1_))])) := by kernel_rfl
@[go_sem] theorem c36_r1 (d0 : Option Addr) (p1 : Option Addr) (o5 : Addr) (K : Env → W) : RP c36 1 [(0, .pointer d0), (1, .pointer p1), (5, .pointer (some o5))] K =
    (ld eI o5 fun (y1_ : Int) => (K [(0, .pointer d0), (1, .pointer p1), (5, .pointer (some o5)), (10, .int .i64 y1_)])) := by kernel_rfl
@[go_sem] theorem c36_r2 (d0 : Option Addr) (p1 : Option Addr) (K : Env → W) : RP c36 2 [(0, .pointer d0), (1, .pointer p1)] K =
    (nn p1 fun y1_ => (ld eB ((y1_.add 1)) fun (y2_ : Bool) => (K [(0, .pointer d0), (1, .pointer p1), (15, .bool ((!y2_)))]))) := by kernel_rfl
@[go_sem] theorem c36_r3 (d0 : Option Addr) (K : Env → W) : RP c36 3 [(0, .pointer d0)] K =
    (cal eI Try.prog 30 #[.pointer d0] fun (y1_ : Int) => (K [(6, .bool ((y1_ == (19 : Int))))])) := by kernel_rfl
@[go_sem] theorem c36_r4 (d0 : Option Addr) (p1 : Option Addr) (K : Env → W) : RP c36 4 [(0, .pointer d0), (1, .pointer p1)] K =
    (nn p1 fun y1_ => (st ((y1_.add 1)) (.bool false) (K [(0, .pointer d0)]))) := by kernel_rfl
@[go_sem] theorem c36_r5 (d0 : Option Addr) (K : Env → W) : RP c36 5 [(0, .pointer d0)] K =
    (cal eI Try.prog 30 #[.pointer d0] fun (y1_ : Int) => (K [(6, .bool ((y1_ == (0 : Int))))])) := by kernel_rfl
@[go_sem] theorem c36_r6 (d0 : Option Addr) (p1 : Option Addr) (o5 : Addr) (t10 : Int) (K : Env → W) : RP c36 6 [(0, .pointer d0), (1, .pointer p1), (5, .pointer (some o5)), (10, .int .i64 t10)] K =
    (K [(0, .pointer d0), (1, .pointer p1), (5, .pointer (some o5)), (10, .int .i64 t10), (25, .bool ((t10 == (0 : Int))))]) := by kernel_rfl
@[go_sem] theorem c36_r7 (d0 : Option Addr) (p1 : Option Addr) (o5 : Addr) (K : Env → W) : RP c36 7 [(0, .pointer d0), (1, .pointer p1), (5, .pointer (some o5))] K =
    (ld eI ((o5.add 1)) fun (y1_ : Int) => (cal (eT2 eS eI) Try.prog 31 #[.pointer d0, .int .i64 y1_] fun (y2_ : ((List UInt8) × Int)) => (K [(1, .pointer p1), (5, .pointer (some o5)), (7, str y2_.1), (8, .int .i64 y2_.2)]))) := by kernel_rfl
@[go_sem] theorem c36_r8 (p1 : Option Addr) (o5 : Addr) (s7 : List UInt8) (e8 : Int) (K : Env → W) : RP c36 8 [(1, .pointer p1), (5, .pointer (some o5)), (7, str s7), (8, .int .i64 e8)] K =
    (nn p1 fun y1_ => (ld eB ((y1_.add 1)) fun (y2_ : Bool) => (K [(1, .pointer p1), (5, .pointer (some o5)), (7, str s7), (8, .int .i64 e8), (37, .bool y2_)]))) := by kernel_rfl
@[go_sem] theorem c36_r9 (s7 : List UInt8) (e8 : Int) (K : Env → W) : RP c36 9 [(7, str s7), (8, .int .i64 e8)] K =
    (cnd ((s7 == ([] : List UInt8))) (K [(6, .bool ((e8 == (9 : Int))))]) (K [(6, .bool false)])) := by kernel_rfl
@[go_sem] theorem c36_r10 (p1 : Option Addr) (o5 : Addr) (s7 : List UInt8) (e8 : Int) (K : Env → W) : RP c36 10 [(1, .pointer p1), (5, .pointer (some o5)), (7, str s7), (8, .int .i64 e8)] K =
    (ph fun S0 => (ldq S0 eI ((o5.add 1)) fun (y1_ : Int) => (cnd ((decide (y1_ < (0 : Int)))) (K [(1, .pointer p1), (5, .pointer (some o5)), (7, str s7), (8, .int .i64 e8), (56, .bool true)]) (ldq S0 eI ((o5.add 1)) fun (y2_ : Int) => (nn p1 fun y3_ => (ldq S0 eSl y3_ fun (y4_ : (Option Addr × Nat × Nat)) => (K [(1, .pointer p1), (5, .pointer (some o5)), (7, str s7), (8, .int .i64 e8), (56, .bool ((decide ((y4_.2.1 : Int) ≤ y2_))))]))))))) := by kernel_rfl
@[go_sem] theorem c36_r11 (s7 : List UInt8) (e8 : Int) (K : Env → W) : RP c36 11 [(7, str s7), (8, .int .i64 e8)] K =
    (cnd ((s7 == ([] : List UInt8))) (K [(6, .bool ((e8 == (6 : Int))))]) (K [(6, .bool false)])) := by kernel_rfl
@[go_sem] theorem c36_r12 (p1 : Option Addr) (o5 : Addr) (s7 : List UInt8) (e8 : Int) (K : Env → W) : RP c36 12 [(1, .pointer p1), (5, .pointer (some o5)), (7, str s7), (8, .int .i64 e8)] K =
    (ph fun S0 => (nn p1 fun y1_ => (ldq S0 eSl y1_ fun (y2_ : (Option Addr × Nat × Nat)) => (ldq S0 eI ((o5.add 1)) fun (y3_ : Int) => (rq (0 ≤ y3_ ∧ y3_ < (y2_.2.1 : Int)) (nn y2_.1 fun y4_ => (ldq S0 eS ((((Addr.add y4_ ((y3_).toNat * 3))).add 1)) fun (y5_ : List UInt8) => (cnd ((s7 == y5_)) (K [(6, .bool ((e8 == (0 : Int))))]) (K [(6, .bool false)]))))))))) := by kernel_rfl
@[go_sem] theorem c36_r13 (d0 : Option Addr) (p1 : Option Addr) (o5 : Addr) (t10 : Int) (K : Env → W) : RP c36 13 [(0, .pointer d0), (1, .pointer p1), (5, .pointer (some o5)), (10, .int .i64 t10)] K =
    (K [(0, .pointer d0), (1, .pointer p1), (5, .pointer (some o5)), (10, .int .i64 t10), (78, .bool ((t10 == (1 : Int))))]) := by kernel_rfl
@[go_sem] theorem c36_r14 (d0 : Option Addr) (p1 : Option Addr) (o5 : Addr) (K : Env → W) : RP c36 14 [(0, .pointer d0), (1, .pointer p1), (5, .pointer (some o5))] K =
    (ph fun S0 => (ldq S0 eI ((o5.add 1)) fun (y1_ : Int) => (ldq S0 eS ((o5.add 2)) fun (y2_ : List UInt8) => (ldq S0 eI ((o5.add 1)) fun (y3_ : Int) => (ldq S0 eS ((o5.add 2)) fun (y4_ : List UInt8) => (cal eI Try.prog 27 #[.pointer d0, .int .i64 y1_, str y2_] fun (y5_ : Int) => (kpn S0 fun S1 => (cal eI Try.prog 77 #[.pointer p1, .int .i64 y3_, str y4_] fun (y6_ : Int) => (K [(6, .bool ((y5_ == y6_)))]))))))))) := by kernel_rfl
@[go_sem] theorem c36_r15 (d0 : Option Addr) (p1 : Option Addr) (o5 : Addr) (t10 : Int) (K : Env → W) : RP c36 15 [(0, .pointer d0), (1, .pointer p1), (5, .pointer (some o5)), (10, .int .i64 t10)] K =
    (K [(0, .pointer d0), (1, .pointer p1), (5, .pointer (some o5)), (10, .int .i64 t10), (93, .bool ((t10 == (2 : Int))))]) := by kernel_rfl
@[go_sem] theorem c36_r16 (d0 : Option Addr) (p1 : Option Addr) (K : Env → W) : RP c36 16 [(0, .pointer d0), (1, .pointer p1)] K =
    (cal eI Try.prog 28 #[.pointer d0] fun (y1_ : Int) => (cal eI Try.prog 78 #[.pointer p1] fun (y2_ : Int) => (K [(6, .bool ((y1_ == y2_)))]))) := by kernel_rfl
@[go_sem] theorem c36_r17 (d0 : Option Addr) (p1 : Option Addr) (o5 : Addr) (t10 : Int) (K : Env → W) : RP c36 17 [(0, .pointer d0), (1, .pointer p1), (5, .pointer (some o5)), (10, .int .i64 t10)] K =
    (K [(0, .pointer d0), (1, .pointer p1), (5, .pointer (some o5)), (10, .int .i64 t10), (100, .bool ((t10 == (3 : Int))))]) := by kernel_rfl
@[go_sem] theorem c36_r18 (d0 : Option Addr) (p1 : Option Addr) (o5 : Addr) (K : Env → W) : RP c36 18 [(0, .pointer d0), (1, .pointer p1), (5, .pointer (some o5))] K =
    (nn p1 fun y1_ => (ld eB ((y1_.add 1)) fun (y2_ : Bool) => (K [(0, .pointer d0), (1, .pointer p1), (5, .pointer (some o5)), (105, .bool y2_)]))) := by kernel_rfl
@[go_sem] theorem c36_r19 (d0 : Option Addr) (o5 : Addr) (K : Env → W) : RP c36 19 [(0, .pointer d0), (5, .pointer (some o5))] K =
    (ld eU64 ((o5.add 3)) fun (y1_ : Int) => (cal eI Try.prog 29 #[.pointer d0, .int .u64 y1_] fun (y2_ : Int) => (K [(6, .bool ((y2_ == (9 : Int))))]))) := by kernel_rfl
@[go_sem] theorem c36_r20 (d0 : Option Addr) (p1 : Option Addr) (o5 : Addr) (K : Env → W) : RP c36 20 [(0, .pointer d0), (1, .pointer p1), (5, .pointer (some o5))] K =
    (ld eU64 ((o5.add 3)) fun (y1_ : Int) => (cal eN Try.prog 79 #[.pointer p1, .int .u64 y1_] fun (y2_ : Unit) => (K [(0, .pointer d0), (5, .pointer (some o5))]))) := by kernel_rfl
@[go_sem] theorem c36_r21 (d0 : Option Addr) (o5 : Addr) (K : Env → W) : RP c36 21 [(0, .pointer d0), (5, .pointer (some o5))] K =
    (ld eU64 ((o5.add 3)) fun (y1_ : Int) => (cal eI Try.prog 29 #[.pointer d0, .int .u64 y1_] fun (y2_ : Int) => (K [(6, .bool ((y2_ == (0 : Int))))]))) := by kernel_rfl
@[go_sem] theorem c36_r22 (d0 : Option Addr) (p1 : Option Addr) (o5 : Addr) (t10 : Int) (K : Env → W) : RP c36 22 [(0, .pointer d0), (1, .pointer p1), (5, .pointer (some o5)), (10, .int .i64 t10)] K =
    (K [(0, .pointer d0), (1, .pointer p1), (5, .pointer (some o5)), (10, .int .i64 t10), (120, .bool ((t10 == (4 : Int))))]) := by kernel_rfl
@[go_sem] theorem c36_r23 (d0 : Option Addr) (p1 : Option Addr) (o5 : Addr) (K : Env → W) : RP c36 23 [(0, .pointer d0), (1, .pointer p1), (5, .pointer (some o5))] K =
    (nn p1 fun y1_ => (ld eB ((y1_.add 1)) fun (y2_ : Bool) => (K [(0, .pointer d0), (1, .pointer p1), (5, .pointer (some o5)), (125, .bool y2_)]))) := by kernel_rfl
@[go_sem] theorem c36_r24 (d0 : Option Addr) (o5 : Addr) (K : Env → W) : RP c36 24 [(0, .pointer d0), (5, .pointer (some o5))] K =
    (ld eI ((o5.add 1)) fun (y1_ : Int) => (ld eU64 ((o5.add 3)) fun (y2_ : Int) => (cal eI Try.prog 42 #[.pointer d0, .int .i64 y1_, .int .u64 y2_] fun (y3_ : Int) => (K [(6, .bool ((y3_ == (9 : Int))))])))) := by kernel_rfl
@[go_sem] theorem c36_r25 (d0 : Option Addr) (p1 : Option Addr) (o5 : Addr) (K : Env → W) : RP c36 25 [(0, .pointer d0), (1, .pointer p1), (5, .pointer (some o5))] K =
    (ld eI ((o5.add 1)) fun (y1_ : Int) => (K [(0, .pointer d0), (1, .pointer p1), (5, .pointer (some o5)), (135, .bool ((decide (y1_ < (0 : Int)))))])) := by kernel_rfl
@[go_sem] theorem c36_r26 (d0 : Option Addr) (o5 : Addr) (K : Env → W) : RP c36 26 [(0, .pointer d0), (5, .pointer (some o5))] K =
    (ld eI ((o5.add 1)) fun (y1_ : Int) => (ld eU64 ((o5.add 3)) fun (y2_ : Int) => (cal eI Try.prog 42 #[.pointer d0, .int .i64 y1_, .int .u64 y2_] fun (y3_ : Int) => (K [(6, .bool ((y3_ == (1 : Int))))])))) := by kernel_rfl
@[go_sem] theorem c36_r27 (d0 : Option Addr) (p1 : Option Addr) (o5 : Addr) (K : Env → W) : RP c36 27 [(0, .pointer d0), (1, .pointer p1), (5, .pointer (some o5))] K =
    (nn p1 fun y1_ => (st ((y1_.add 2)) (.bool true) (K [(0, .pointer d0), (1, .pointer p1), (5, .pointer (some o5))]))) := by kernel_rfl
@[go_sem] theorem c36_r28 (d0 : Option Addr) (p1 : Option Addr) (o5 : Addr) (K : Env → W) : RP c36 28 [(0, .pointer d0), (1, .pointer p1), (5, .pointer (some o5))] K =
    (ld eI ((o5.add 1)) fun (y1_ : Int) => (nn p1 fun y2_ => (st ((y2_.add 3)) (.int .i64 y1_) (K [(0, .pointer d0), (1, .pointer p1), (5, .pointer (some o5))])))) := by kernel_rfl
@[go_sem] theorem c36_r29 (d0 : Option Addr) (p1 : Option Addr) (o5 : Addr) (K : Env → W) : RP c36 29 [(0, .pointer d0), (1, .pointer p1), (5, .pointer (some o5))] K =
    (ld eU64 ((o5.add 3)) fun (y1_ : Int) => (nn p1 fun y2_ => (st ((y2_.add 4)) (.int .u64 y1_) (K [(0, .pointer d0), (5, .pointer (some o5))])))) := by kernel_rfl
@[go_sem] theorem c36_r30 (d0 : Option Addr) (o5 : Addr) (K : Env → W) : RP c36 30 [(0, .pointer d0), (5, .pointer (some o5))] K =
    (ld eI ((o5.add 1)) fun (y1_ : Int) => (ld eU64 ((o5.add 3)) fun (y2_ : Int) => (cal eI Try.prog 42 #[.pointer d0, .int .i64 y1_, .int .u64 y2_] fun (y3_ : Int) => (K [(6, .bool ((y3_ == (0 : Int))))])))) := by kernel_rfl
@[go_sem] theorem c36_r31 (d0 : Option Addr) (p1 : Option Addr) (t10 : Int) (K : Env → W) : RP c36 31 [(0, .pointer d0), (1, .pointer p1), (10, .int .i64 t10)] K =
    (K [(0, .pointer d0), (1, .pointer p1), (163, .bool ((t10 == (5 : Int))))]) := by kernel_rfl
@[go_sem] theorem c36_r32 (d0 : Option Addr) (p1 : Option Addr) (K : Env → W) : RP c36 32 [(0, .pointer d0), (1, .pointer p1)] K =
    (nn p1 fun y1_ => (st ((y1_.add 2)) (.bool false) (K [(0, .pointer d0)]))) := by kernel_rfl
@[go_sem] theorem c36_r33 (d0 : Option Addr) (K : Env → W) : RP c36 33 [(0, .pointer d0)] K =
    (cal eN Try.prog 41 #[.pointer d0] fun (y1_ : Unit) => (K [])) := by kernel_rfl
@[go_sem] theorem c36_r34 (K : Env → W) : RP c36 34 [] K =
    (K [(6, .bool true)]) := by kernel_rfl
@[go_sem] theorem c36_o : c36.lo 1000000 = [6] := rfl
@[go_sem] theorem c36_e (t6 : Bool) (k : Value → W) : RTp c36 [(6, .bool t6)] k = (k (.bool t6)) := by kernel_rfl
theorem c36_ok : (c36.P.follows .mixedOrders && okc c36 c36.body) = true := by kernel_rfl
theorem c36_fn {e : Enc} {args : Array Value} {G : e.α → W} {L : List HP} {ρ : Env} (hρ : envA 0 args.toList = ρ) (hs : Nat.ble args.size 170 = true) (h : E L (D c36 (.seq (.reg 0) (.seq (.reg 1) (.block 0 (.seq (.reg 6) (.cond (.tmp 25) (.seq (.reg 7) (.seq (.seq (.reg 8) (.cond (.tmp 37) (.seq (.reg 9) (.ret)) (.skip))) (.seq (.seq (.reg 10) (.cond (.tmp 56) (.seq (.reg 11) (.ret)) (.skip))) (.seq (.reg 12) (.ret))))) (.seq (.reg 13) (.cond (.tmp 78) (.seq (.reg 14) (.ret)) (.seq (.reg 15) (.cond (.tmp 93) (.seq (.reg 16) (.ret)) (.seq (.reg 17) (.cond (.tmp 100) (.seq (.seq (.reg 18) (.cond (.tmp 105) (.seq (.reg 19) (.ret)) (.skip))) (.seq (.reg 20) (.seq (.reg 21) (.ret)))) (.seq (.reg 22) (.cond (.tmp 120) (.seq (.seq (.reg 23) (.cond (.tmp 125) (.seq (.reg 24) (.ret)) (.skip))) (.seq (.seq (.reg 25) (.cond (.tmp 135) (.seq (.reg 26) (.ret)) (.skip))) (.seq (.reg 27) (.seq (.reg 28) (.seq (.reg 29) (.seq (.reg 30) (.ret))))))) (.seq (.reg 31) (.cond (.tmp 163) (.seq (.reg 32) (.seq (.reg 33) (.seq (.reg 34) (.ret)))) (.seq (.seq (.reg 2) (.cond (.tmp 15) (.seq (.reg 3) (.ret)) (.skip))) (.seq (.reg 4) (.seq (.reg 5) (.ret))))))))))))))))))) (fnQ c36 e G) ρ)) : E L (cal e Try.prog 36 args G) :=
  d_fn (c := c36) Try.func36 (by kernel_rfl) (by kernel_rfl) (by kernel_rfl) c36_ok (by kernel_rfl) (by kernel_rfl) hρ hs h
/-! gharry.gharrylaw03.waits -/
noncomputable def c40 : Cfg := { P := Try.prog, n := 46, T := TT, body := (Try.f40.body).getD .skip, res := Try.f40.results.toList, li := lk [] [(0, [0, 1]), (1, [0, 1]), (2, [1, 5]), (3, [1, 5, 6]), (4, [1, 5, 6, 7]), (5, [1, 5, 6, 7]), (6, [1, 5, 6, 7]), (7, [1, 5, 6, 7]), (8, []), (9, [1, 5, 6, 7]), (10, [5, 6])], lo := lk [] [(0, [0, 1]), (1, [1, 5]), (2, [1, 5, 6]), (3, [1, 5, 6, 7]), (4, [1, 5, 6, 7, 16]), (5, [1, 5, 6, 7]), (6, [1, 5, 6, 7, 27]), (7, [1, 5, 6, 7, 39]), (8, [4]), (9, [1, 5, 6, 7]), (10, [4]), (1000000, [4])], ord := lk (false, []) [] }
@[go_sem] theorem c40_i0 : c40.li 0 = [0, 1] := rfl
@[go_sem] theorem c40_i1 : c40.li 1 = [0, 1] := rfl
@[go_sem] theorem c40_i2 : c40.li 2 = [1, 5] := rfl
@[go_sem] theorem c40_i3 : c40.li 3 = [1, 5, 6] := rfl
@[go_sem] theorem c40_i4 : c40.li 4 = [1, 5, 6, 7] := rfl
@[go_sem] theorem c40_i5 : c40.li 5 = [1, 5, 6, 7] := rfl
@[go_sem] theorem c40_i6 : c40.li 6 = [1, 5, 6, 7] := rfl
@[go_sem] theorem c40_i7 : c40.li 7 = [1, 5, 6, 7] := rfl
@[go_sem] theorem c40_i8 : c40.li 8 = [] := rfl
@[go_sem] theorem c40_i9 : c40.li 9 = [1, 5, 6, 7] := rfl
@[go_sem] theorem c40_i10 : c40.li 10 = [5, 6] := rfl
@[go_sem] theorem c40_r0 (d0 : Option Addr) (p1 : Option Addr) (K : Env → W) : RP c40 0 [(0, .pointer d0), (1, .pointer p1)] K =
    (K [(0, .pointer d0), (1, .pointer p1)]) := by kernel_rfl
@[go_sem] theorem c40_r1 (d0 : Option Addr) (p1 : Option Addr) (K : Env → W) : RP c40 1 [(0, .pointer d0), (1, .pointer p1)] K =
    (cal eSl Try.prog 43 #[.pointer d0] fun (y1_ : (Option Addr × Nat × Nat)) => (K [(1, .pointer p1), (5, .slice y1_.1 y1_.2.1 y1_.2.2)])) := by kernel_rfl
@[go_sem] theorem c40_r2 (p1 : Option Addr) (l5p : Option Addr) (l5n l5c : Nat) (K : Env → W) : RP c40 2 [(1, .pointer p1), (5, .slice l5p l5n l5c)] K =
    (K [(1, .pointer p1), (5, .slice l5p l5n l5c), (6, .int .i64 ((0 : Int)))]) := by kernel_rfl
@[go_sem] theorem c40_r3 (p1 : Option Addr) (l5p : Option Addr) (l5n l5c : Nat) (k6 : Int) (K : Env → W) : RP c40 3 [(1, .pointer p1), (5, .slice l5p l5n l5c), (6, .int .i64 k6)] K =
    (K [(1, .pointer p1), (5, .slice l5p l5n l5c), (6, .int .i64 k6), (7, .int .i64 ((0 : Int)))]) := by kernel_rfl
@[go_sem] theorem c40_r4 (p1 : Option Addr) (l5p : Option Addr) (l5n l5c : Nat) (k6 : Int) (i7 : Int) (K : Env → W) : RP c40 4 [(1, .pointer p1), (5, .slice l5p l5n l5c), (6, .int .i64 k6), (7, .int .i64 i7)] K =
    (nn p1 fun y1_ => (ld eSl y1_ fun (y2_ : (Option Addr × Nat × Nat)) => (K [(1, .pointer p1), (5, .slice l5p l5n l5c), (6, .int .i64 k6), (7, .int .i64 i7), (16, .bool ((decide (i7 < (y2_.2.1 : Int)))))]))) := by kernel_rfl
@[go_sem] theorem c40_r5 (p1 : Option Addr) (l5p : Option Addr) (l5n l5c : Nat) (k6 : Int) (i7 : Int) (K : Env → W) : RP c40 5 [(1, .pointer p1), (5, .slice l5p l5n l5c), (6, .int .i64 k6), (7, .int .i64 i7)] K =
    (K [(1, .pointer p1), (5, .slice l5p l5n l5c), (6, .int .i64 k6), (7, .int .i64 ((IntKind.wrap .i64 (i7 + (1 : Int)))))]) := by kernel_rfl
@[go_sem] theorem c40_r6 (p1 : Option Addr) (l5p : Option Addr) (l5n l5c : Nat) (k6 : Int) (i7 : Int) (K : Env → W) : RP c40 6 [(1, .pointer p1), (5, .slice l5p l5n l5c), (6, .int .i64 k6), (7, .int .i64 i7)] K =
    (nn p1 fun y1_ => (ld eSl y1_ fun (y2_ : (Option Addr × Nat × Nat)) => (rq (0 ≤ i7 ∧ i7 < (y2_.2.1 : Int)) (nn y2_.1 fun y3_ => (ld eB ((((Addr.add y3_ ((i7).toNat * 3))).add 2)) fun (y4_ : Bool) => (K [(1, .pointer p1), (5, .slice l5p l5n l5c), (6, .int .i64 k6), (7, .int .i64 i7), (27, .bool ((!y4_)))])))))) := by kernel_rfl
@[go_sem] theorem c40_r7 (p1 : Option Addr) (l5p : Option Addr) (l5n l5c : Nat) (k6 : Int) (i7 : Int) (K : Env → W) : RP c40 7 [(1, .pointer p1), (5, .slice l5p l5n l5c), (6, .int .i64 k6), (7, .int .i64 i7)] K =
    (cnd ((decide ((l5n : Int) ≤ k6))) (K [(1, .pointer p1), (5, .slice l5p l5n l5c), (6, .int .i64 k6), (7, .int .i64 i7), (39, .bool true)]) (rq (0 ≤ k6 ∧ k6 < (l5n : Int)) (nn l5p fun y1_ => (ld eI ((Addr.add y1_ ((k6).toNat * 1))) fun (y2_ : Int) => (K [(1, .pointer p1), (5, .slice l5p l5n l5c), (6, .int .i64 k6), (7, .int .i64 i7), (39, .bool ((y2_ != i7)))]))))) := by kernel_rfl
@[go_sem] theorem c40_r8 (K : Env → W) : RP c40 8 [] K =
    (K [(4, .bool false)]) := by kernel_rfl
@[go_sem] theorem c40_r9 (p1 : Option Addr) (l5p : Option Addr) (l5n l5c : Nat) (k6 : Int) (i7 : Int) (K : Env → W) : RP c40 9 [(1, .pointer p1), (5, .slice l5p l5n l5c), (6, .int .i64 k6), (7, .int .i64 i7)] K =
    (K [(1, .pointer p1), (5, .slice l5p l5n l5c), (6, .int .i64 ((IntKind.wrap .i64 (k6 + (1 : Int))))), (7, .int .i64 i7)]) := by kernel_rfl
@[go_sem] theorem c40_r10 (l5p : Option Addr) (l5n l5c : Nat) (k6 : Int) (K : Env → W) : RP c40 10 [(5, .slice l5p l5n l5c), (6, .int .i64 k6)] K =
    (K [(4, .bool ((k6 == (l5n : Int))))]) := by kernel_rfl
@[go_sem] theorem c40_o : c40.lo 1000000 = [4] := rfl
@[go_sem] theorem c40_e (t4 : Bool) (k : Value → W) : RTp c40 [(4, .bool t4)] k = (k (.bool t4)) := by kernel_rfl
theorem c40_ok : (c40.P.follows .mixedOrders && okc c40 c40.body) = true := by kernel_rfl
theorem c40_fn {e : Enc} {args : Array Value} {G : e.α → W} {L : List HP} {ρ : Env} (hρ : envA 0 args.toList = ρ) (hs : Nat.ble args.size 46 = true) (h : E L (D c40 (.seq (.reg 0) (.seq (.reg 1) (.seq (.reg 2) (.seq (.seq (.reg 3) (.block 0 (.loop (.seq (.seq (.reg 4) (.cond (.tmp 16) (.skip) (.exit 0))) (.seq (.block 1 (.seq (.seq (.reg 6) (.cond (.tmp 27) (.exit 1) (.skip))) (.seq (.seq (.reg 7) (.cond (.tmp 39) (.seq (.reg 8) (.ret)) (.skip))) (.reg 9)))) (.reg 5)))))) (.seq (.reg 10) (.ret)))))) (fnQ c40 e G) ρ)) : E L (cal e Try.prog 40 args G) :=
  d_fn (c := c40) Try.func40 (by kernel_rfl) (by kernel_rfl) (by kernel_rfl) c40_ok (by kernel_rfl) (by kernel_rfl) hρ hs h
-- loop (first region 4): live slots 1:p1 5:l5 6:k6 7:i7, of which it writes [6, 7]
/-! (*gharry.gharrylaw03.plain).write -/
noncomputable def c77 : Cfg := { P := Try.prog, n := 44, T := TT, body := (Try.f77.body).getD .skip, res := Try.f77.results.toList, li := lk [] [(0, [0, 1, 2]), (1, [0, 1, 2]), (2, []), (3, [0, 1, 2]), (4, []), (5, [0, 1, 2]), (6, []), (7, [0, 1, 2]), (8, []), (9, [0, 1, 2]), (10, [0, 1]), (11, [])], lo := lk [] [(0, [0, 1, 2]), (1, [0, 1, 2, 10]), (2, [6]), (3, [0, 1, 2, 21]), (4, [6]), (5, [0, 1, 2, 24]), (6, [6]), (7, [0, 1, 2, 27]), (8, [6]), (9, [0, 1]), (10, []), (11, [6]), (1000000, [6])], ord := lk (false, []) [(9, (true, [(0, 1), (1, 1), (2, 1), (3, 0), (4, 1), (5, 1), (6, 2), (7, 1), (8, 1), (9, 4)]))] }
@[go_sem] theorem c77_i0 : c77.li 0 = [0, 1, 2] := rfl
@[go_sem] theorem c77_i1 : c77.li 1 = [0, 1, 2] := rfl
@[go_sem] theorem c77_i2 : c77.li 2 = [] := rfl
@[go_sem] theorem c77_i3 : c77.li 3 = [0, 1, 2] := rfl
@[go_sem] theorem c77_i4 : c77.li 4 = [] := rfl
@[go_sem] theorem c77_i5 : c77.li 5 = [0, 1, 2] := rfl
@[go_sem] theorem c77_i6 : c77.li 6 = [] := rfl
@[go_sem] theorem c77_i7 : c77.li 7 = [0, 1, 2] := rfl
@[go_sem] theorem c77_i8 : c77.li 8 = [] := rfl
@[go_sem] theorem c77_i9 : c77.li 9 = [0, 1, 2] := rfl
@[go_sem] theorem c77_i10 : c77.li 10 = [0, 1] := rfl
@[go_sem] theorem c77_i11 : c77.li 11 = [] := rfl
@[go_sem] theorem c77_r0 (p0 : Option Addr) (i1 : Int) (s2 : List UInt8) (K : Env → W) : RP c77 0 [(0, .pointer p0), (1, .int .i64 i1), (2, str s2)] K =
    (K [(0, .pointer p0), (1, .int .i64 i1), (2, str s2)]) := by kernel_rfl
@[go_sem] theorem c77_r1 (p0 : Option Addr) (i1 : Int) (s2 : List UInt8) (K : Env → W) : RP c77 1 [(0, .pointer p0), (1, .int .i64 i1), (2, str s2)] K =
    (nn p0 fun y1_ => (ld eB ((y1_.add 1)) fun (y2_ : Bool) => (K [(0, .pointer p0), (1, .int .i64 i1), (2, str s2), (10, .bool y2_)]))) := by kernel_rfl
@[go_sem] theorem c77_r2 (K : Env → W) : RP c77 2 [] K =
    (K [(6, .int .i64 ((9 : Int)))]) := by kernel_rfl
@[go_sem] theorem c77_r3 (p0 : Option Addr) (i1 : Int) (s2 : List UInt8) (K : Env → W) : RP c77 3 [(0, .pointer p0), (1, .int .i64 i1), (2, str s2)] K =
    (cnd ((decide (i1 < (0 : Int)))) (K [(0, .pointer p0), (1, .int .i64 i1), (2, str s2), (21, .bool true)]) (nn p0 fun y1_ => (ld eSl y1_ fun (y2_ : (Option Addr × Nat × Nat)) => (K [(0, .pointer p0), (1, .int .i64 i1), (2, str s2), (21, .bool ((decide ((y2_.2.1 : Int) ≤ i1))))])))) := by kernel_rfl
@[go_sem] theorem c77_r4 (K : Env → W) : RP c77 4 [] K =
    (K [(6, .int .i64 ((6 : Int)))]) := by kernel_rfl
@[go_sem] theorem c77_r5 (p0 : Option Addr) (i1 : Int) (s2 : List UInt8) (K : Env → W) : RP c77 5 [(0, .pointer p0), (1, .int .i64 i1), (2, str s2)] K =
    (K [(0, .pointer p0), (1, .int .i64 i1), (2, str s2), (24, .bool ((decide ((64 : Int) < ((s2).length : Int)))))]) := by kernel_rfl
@[go_sem] theorem c77_r6 (K : Env → W) : RP c77 6 [] K =
    (K [(6, .int .i64 ((3 : Int)))]) := by kernel_rfl
@[go_sem] theorem c77_r7 (p0 : Option Addr) (i1 : Int) (s2 : List UInt8) (K : Env → W) : RP c77 7 [(0, .pointer p0), (1, .int .i64 i1), (2, str s2)] K =
    (cal eB Try.prog 91 #[.pointer p0] fun (y1_ : Bool) => (K [(0, .pointer p0), (1, .int .i64 i1), (2, str s2), (27, .bool ((!y1_)))])) := by kernel_rfl
@[go_sem] theorem c77_r8 (K : Env → W) : RP c77 8 [] K =
    (K [(6, .int .i64 ((9 : Int)))]) := by kernel_rfl
@[go_sem] theorem c77_r9 (p0 : Option Addr) (i1 : Int) (s2 : List UInt8) (K : Env → W) : RP c77 9 [(0, .pointer p0), (1, .int .i64 i1), (2, str s2)] K =
    (ph fun S0 => (nn p0 fun y1_ => (ldq S0 eSl y1_ fun (y2_ : (Option Addr × Nat × Nat)) => (cal eS Try.prog 32 #[str s2] fun (y3_ : List UInt8) => (kpn S0 fun S1 => (rq (0 ≤ i1 ∧ i1 < (y2_.2.1 : Int)) (nn y2_.1 fun y4_ => (st ((((Addr.add y4_ ((i1).toNat * 3))).add 1)) (str y3_) (K [(0, .pointer p0), (1, .int .i64 i1)]))))))))) := by kernel_rfl
@[go_sem] theorem c77_r10 (p0 : Option Addr) (i1 : Int) (K : Env → W) : RP c77 10 [(0, .pointer p0), (1, .int .i64 i1)] K =
    (nn p0 fun y1_ => (ld eSl y1_ fun (y2_ : (Option Addr × Nat × Nat)) => (rq (0 ≤ i1 ∧ i1 < (y2_.2.1 : Int)) (nn y2_.1 fun y3_ => (st ((((Addr.add y3_ ((i1).toNat * 3))).add 2)) (.bool true) (K [])))))) := by kernel_rfl
@[go_sem] theorem c77_r11 (K : Env → W) : RP c77 11 [] K =
    (K [(6, .int .i64 ((0 : Int)))]) := by kernel_rfl
@[go_sem] theorem c77_o : c77.lo 1000000 = [6] := rfl
@[go_sem] theorem c77_e (t6 : Int) (k : Value → W) : RTp c77 [(6, .int .i64 t6)] k = (k (.int .i64 t6)) := by kernel_rfl
theorem c77_ok : (c77.P.follows .mixedOrders && okc c77 c77.body) = true := by kernel_rfl
theorem c77_fn {e : Enc} {args : Array Value} {G : e.α → W} {L : List HP} {ρ : Env} (hρ : envA 0 args.toList = ρ) (hs : Nat.ble args.size 44 = true) (h : E L (D c77 (.seq (.reg 0) (.seq (.seq (.reg 1) (.cond (.tmp 10) (.seq (.reg 2) (.ret)) (.skip))) (.seq (.seq (.reg 3) (.cond (.tmp 21) (.seq (.reg 4) (.ret)) (.skip))) (.seq (.seq (.reg 5) (.cond (.tmp 24) (.seq (.reg 6) (.ret)) (.skip))) (.seq (.seq (.reg 7) (.cond (.tmp 27) (.seq (.reg 8) (.ret)) (.skip))) (.seq (.reg 9) (.seq (.reg 10) (.seq (.reg 11) (.ret))))))))) (fnQ c77 e G) ρ)) : E L (cal e Try.prog 77 args G) :=
  d_fn (c := c77) Try.func77 (by kernel_rfl) (by kernel_rfl) (by kernel_rfl) c77_ok (by kernel_rfl) (by kernel_rfl) hρ hs h
/-! (*gharry.gharrylaw03.plain).sync -/
noncomputable def c78 : Cfg := { P := Try.prog, n := 44, T := TT, body := (Try.f78.body).getD .skip, res := Try.f78.results.toList, li := lk [] [(0, [0]), (1, [0]), (2, []), (3, [0]), (4, [0, 3]), (5, [0, 3]), (6, [0, 3]), (7, [0, 3]), (8, [])], lo := lk [] [(0, [0]), (1, [0, 12]), (2, [2]), (3, [0, 3]), (4, [0, 3, 19]), (5, [0, 3]), (6, [0, 3]), (7, [0, 3]), (8, [2]), (1000000, [2])], ord := lk (false, []) [(6, (true, [(0, 1), (1, 1), (2, 1), (3, 0), (4, 1), (5, 1), (6, 1), (7, 1), (8, 0), (9, 1), (10, 1), (11, 1), (12, 0), (13, 1), (14, 1), (15, 4)]))] }
@[go_sem] theorem c78_i0 : c78.li 0 = [0] := rfl
@[go_sem] theorem c78_i1 : c78.li 1 = [0] := rfl
@[go_sem] theorem c78_i2 : c78.li 2 = [] := rfl
@[go_sem] theorem c78_i3 : c78.li 3 = [0] := rfl
@[go_sem] theorem c78_i4 : c78.li 4 = [0, 3] := rfl
@[go_sem] theorem c78_i5 : c78.li 5 = [0, 3] := rfl
@[go_sem] theorem c78_i6 : c78.li 6 = [0, 3] := rfl
@[go_sem] theorem c78_i7 : c78.li 7 = [0, 3] := rfl
@[go_sem] theorem c78_i8 : c78.li 8 = [] := rfl
@[go_sem] theorem c78_r0 (p0 : Option Addr) (K : Env → W) : RP c78 0 [(0, .pointer p0)] K =
    (K [(0, .pointer p0)]) := by kernel_rfl
@[go_sem] theorem c78_r1 (p0 : Option Addr) (K : Env → W) : RP c78 1 [(0, .pointer p0)] K =
    (nn p0 fun y1_ => (ld eB ((y1_.add 1)) fun (y2_ : Bool) => (cnd y2_ (K [(0, .pointer p0), (12, .bool true)]) (cal eB Try.prog 91 #[.pointer p0] fun (y3_ : Bool) => (K [(0, .pointer p0), (12, .bool ((!y3_)))]))))) := by kernel_rfl
@[go_sem] theorem c78_r2 (K : Env → W) : RP c78 2 [] K =
    (K [(2, .int .i64 ((9 : Int)))]) := by kernel_rfl
@[go_sem] theorem c78_r3 (p0 : Option Addr) (K : Env → W) : RP c78 3 [(0, .pointer p0)] K =
    (K [(0, .pointer p0), (3, .int .i64 ((0 : Int)))]) := by kernel_rfl
@[go_sem] theorem c78_r4 (p0 : Option Addr) (i3 : Int) (K : Env → W) : RP c78 4 [(0, .pointer p0), (3, .int .i64 i3)] K =
    (nn p0 fun y1_ => (ld eSl y1_ fun (y2_ : (Option Addr × Nat × Nat)) => (K [(0, .pointer p0), (3, .int .i64 i3), (19, .bool ((decide (i3 < (y2_.2.1 : Int)))))]))) := by kernel_rfl
@[go_sem] theorem c78_r5 (p0 : Option Addr) (i3 : Int) (K : Env → W) : RP c78 5 [(0, .pointer p0), (3, .int .i64 i3)] K =
    (K [(0, .pointer p0), (3, .int .i64 ((IntKind.wrap .i64 (i3 + (1 : Int)))))]) := by kernel_rfl
@[go_sem] theorem c78_r6 (p0 : Option Addr) (i3 : Int) (K : Env → W) : RP c78 6 [(0, .pointer p0), (3, .int .i64 i3)] K =
    (ph fun S0 => (nn p0 fun y1_ => (ldq S0 eSl y1_ fun (y2_ : (Option Addr × Nat × Nat)) => (nn p0 fun y3_ => (ldq S0 eSl y3_ fun (y4_ : (Option Addr × Nat × Nat)) => (rq (0 ≤ i3 ∧ i3 < (y4_.2.1 : Int)) (nn y4_.1 fun y5_ => (ldq S0 eS ((((Addr.add y5_ ((i3).toNat * 3))).add 1)) fun (y6_ : List UInt8) => (rq (0 ≤ i3 ∧ i3 < (y2_.2.1 : Int)) (nn y2_.1 fun y7_ => (st ((Addr.add y7_ ((i3).toNat * 3))) (str y6_) (K [(0, .pointer p0), (3, .int .i64 i3)])))))))))))) := by kernel_rfl
@[go_sem] theorem c78_r7 (p0 : Option Addr) (i3 : Int) (K : Env → W) : RP c78 7 [(0, .pointer p0), (3, .int .i64 i3)] K =
    (nn p0 fun y1_ => (ld eSl y1_ fun (y2_ : (Option Addr × Nat × Nat)) => (rq (0 ≤ i3 ∧ i3 < (y2_.2.1 : Int)) (nn y2_.1 fun y3_ => (st ((((Addr.add y3_ ((i3).toNat * 3))).add 2)) (.bool false) (K [(0, .pointer p0), (3, .int .i64 i3)])))))) := by kernel_rfl
@[go_sem] theorem c78_r8 (K : Env → W) : RP c78 8 [] K =
    (K [(2, .int .i64 ((0 : Int)))]) := by kernel_rfl
@[go_sem] theorem c78_o : c78.lo 1000000 = [2] := rfl
@[go_sem] theorem c78_e (t2 : Int) (k : Value → W) : RTp c78 [(2, .int .i64 t2)] k = (k (.int .i64 t2)) := by kernel_rfl
theorem c78_ok : (c78.P.follows .mixedOrders && okc c78 c78.body) = true := by kernel_rfl
theorem c78_fn {e : Enc} {args : Array Value} {G : e.α → W} {L : List HP} {ρ : Env} (hρ : envA 0 args.toList = ρ) (hs : Nat.ble args.size 44 = true) (h : E L (D c78 (.seq (.reg 0) (.seq (.seq (.reg 1) (.cond (.tmp 12) (.seq (.reg 2) (.ret)) (.skip))) (.seq (.seq (.reg 3) (.block 0 (.loop (.seq (.seq (.reg 4) (.cond (.tmp 19) (.skip) (.exit 0))) (.seq (.block 1 (.seq (.reg 6) (.reg 7))) (.reg 5)))))) (.seq (.reg 8) (.ret))))) (fnQ c78 e G) ρ)) : E L (cal e Try.prog 78 args G) :=
  d_fn (c := c78) Try.func78 (by kernel_rfl) (by kernel_rfl) (by kernel_rfl) c78_ok (by kernel_rfl) (by kernel_rfl) hρ hs h
-- loop (first region 4): live slots 0:p0 3:i3, of which it writes [3]
/-! (*gharry.gharrylaw03.plain).off -/
noncomputable def c79 : Cfg := { P := Try.prog, n := 91, T := TT, body := (Try.f79.body).getD .skip, res := Try.f79.results.toList, li := lk [] [(0, [0, 1]), (1, [0, 1, 4]), (2, [0, 1, 4, 5]), (3, [0, 1, 4, 5]), (4, [0, 1, 4, 5]), (5, [0, 1, 4, 5]), (6, [0, 1, 4, 5, 6]), (7, [0, 1, 4, 5, 6, 7]), (8, [0, 1, 4, 5, 6, 7]), (9, [0, 1, 4, 5, 6, 7]), (10, [0, 1, 4, 5, 6]), (11, [0, 1, 4, 5]), (12, [0, 1, 4, 5]), (13, [0, 1, 4, 5]), (14, [0, 1, 4, 5]), (15, [0]), (16, [0]), (17, [0])], lo := lk [] [(0, [0, 1, 4]), (1, [0, 1, 4, 5]), (2, [0, 1, 4, 5, 14]), (3, [0, 1, 4, 5]), (4, [0, 1, 4, 5, 25]), (5, [0, 1, 4, 5, 6]), (6, [0, 1, 4, 5, 6, 7]), (7, [0, 1, 4, 5, 6, 7, 30]), (8, [0, 1, 4, 5, 6, 7]), (9, [0, 1, 4, 5, 6, 7]), (10, [0, 1, 4, 5, 37]), (11, [0, 1, 4, 5]), (12, [0, 1, 4, 5]), (13, [0, 1, 4, 5]), (14, [0, 1, 4, 5]), (15, [0]), (16, [0]), (17, []), (1000000, [])], ord := lk (false, []) [(11, (true, [(0, 1), (1, 1), (2, 1), (3, 0), (4, 1), (5, 1), (6, 1), (7, 1), (8, 0), (9, 1), (10, 1), (11, 1), (12, 0), (13, 1), (14, 1), (15, 4)])), (12, (true, [(0, 1), (1, 1), (2, 1), (3, 0), (4, 1), (5, 1), (6, 1), (7, 1), (8, 0), (9, 1), (10, 1), (11, 1), (12, 0), (13, 1), (14, 1), (15, 4)]))] }
@[go_sem] theorem c79_i0 : c79.li 0 = [0, 1] := rfl
@[go_sem] theorem c79_i1 : c79.li 1 = [0, 1, 4] := rfl
@[go_sem] theorem c79_i2 : c79.li 2 = [0, 1, 4, 5] := rfl
@[go_sem] theorem c79_i3 : c79.li 3 = [0, 1, 4, 5] := rfl
@[go_sem] theorem c79_i4 : c79.li 4 = [0, 1, 4, 5] := rfl
@[go_sem] theorem c79_i5 : c79.li 5 = [0, 1, 4, 5] := rfl
@[go_sem] theorem c79_i6 : c79.li 6 = [0, 1, 4, 5, 6] := rfl
@[go_sem] theorem c79_i7 : c79.li 7 = [0, 1, 4, 5, 6, 7] := rfl
@[go_sem] theorem c79_i8 : c79.li 8 = [0, 1, 4, 5, 6, 7] := rfl
@[go_sem] theorem c79_i9 : c79.li 9 = [0, 1, 4, 5, 6, 7] := rfl
@[go_sem] theorem c79_i10 : c79.li 10 = [0, 1, 4, 5, 6] := rfl
@[go_sem] theorem c79_i11 : c79.li 11 = [0, 1, 4, 5] := rfl
@[go_sem] theorem c79_i12 : c79.li 12 = [0, 1, 4, 5] := rfl
@[go_sem] theorem c79_i13 : c79.li 13 = [0, 1, 4, 5] := rfl
@[go_sem] theorem c79_i14 : c79.li 14 = [0, 1, 4, 5] := rfl
@[go_sem] theorem c79_i15 : c79.li 15 = [0] := rfl
@[go_sem] theorem c79_i16 : c79.li 16 = [0] := rfl
@[go_sem] theorem c79_i17 : c79.li 17 = [0] := rfl
@[go_sem] theorem c79_r0 (p0 : Option Addr) (keep1 : Int) (K : Env → W) : RP c79 0 [(0, .pointer p0), (1, .int .u64 keep1)] K =
    (K [(0, .pointer p0), (1, .int .u64 keep1), (4, .int .i64 ((0 : Int)))]) := by kernel_rfl
@[go_sem] theorem c79_r1 (p0 : Option Addr) (keep1 : Int) (k4 : Int) (K : Env → W) : RP c79 1 [(0, .pointer p0), (1, .int .u64 keep1), (4, .int .i64 k4)] K =
    (K [(0, .pointer p0), (1, .int .u64 keep1), (4, .int .i64 k4), (5, .int .i64 ((0 : Int)))]) := by kernel_rfl
@[go_sem] theorem c79_r2 (p0 : Option Addr) (keep1 : Int) (k4 : Int) (i5 : Int) (K : Env → W) : RP c79 2 [(0, .pointer p0), (1, .int .u64 keep1), (4, .int .i64 k4), (5, .int .i64 i5)] K =
    (nn p0 fun y1_ => (ld eSl y1_ fun (y2_ : (Option Addr × Nat × Nat)) => (K [(0, .pointer p0), (1, .int .u64 keep1), (4, .int .i64 k4), (5, .int .i64 i5), (14, .bool ((decide (i5 < (y2_.2.1 : Int)))))]))) := by kernel_rfl
@[go_sem] theorem c79_r3 (p0 : Option Addr) (keep1 : Int) (k4 : Int) (i5 : Int) (K : Env → W) : RP c79 3 [(0, .pointer p0), (1, .int .u64 keep1), (4, .int .i64 k4), (5, .int .i64 i5)] K =
    (K [(0, .pointer p0), (1, .int .u64 keep1), (4, .int .i64 k4), (5, .int .i64 ((IntKind.wrap .i64 (i5 + (1 : Int)))))]) := by kernel_rfl
@[go_sem] theorem c79_r4 (p0 : Option Addr) (keep1 : Int) (k4 : Int) (i5 : Int) (K : Env → W) : RP c79 4 [(0, .pointer p0), (1, .int .u64 keep1), (4, .int .i64 k4), (5, .int .i64 i5)] K =
    (nn p0 fun y1_ => (ld eSl y1_ fun (y2_ : (Option Addr × Nat × Nat)) => (rq (0 ≤ i5 ∧ i5 < (y2_.2.1 : Int)) (nn y2_.1 fun y3_ => (ld eB ((((Addr.add y3_ ((i5).toNat * 3))).add 2)) fun (y4_ : Bool) => (K [(0, .pointer p0), (1, .int .u64 keep1), (4, .int .i64 k4), (5, .int .i64 i5), (25, .bool ((!y4_)))])))))) := by kernel_rfl
@[go_sem] theorem c79_r5 (p0 : Option Addr) (keep1 : Int) (k4 : Int) (i5 : Int) (K : Env → W) : RP c79 5 [(0, .pointer p0), (1, .int .u64 keep1), (4, .int .i64 k4), (5, .int .i64 i5)] K =
    (K [(0, .pointer p0), (1, .int .u64 keep1), (4, .int .i64 k4), (5, .int .i64 i5), (6, .int .u64 keep1)]) := by kernel_rfl
@[go_sem] theorem c79_r6 (p0 : Option Addr) (keep1 : Int) (k4 : Int) (i5 : Int) (bits6 : Int) (K : Env → W) : RP c79 6 [(0, .pointer p0), (1, .int .u64 keep1), (4, .int .i64 k4), (5, .int .i64 i5), (6, .int .u64 bits6)] K =
    (K [(0, .pointer p0), (1, .int .u64 keep1), (4, .int .i64 k4), (5, .int .i64 i5), (6, .int .u64 bits6), (7, .int .i64 ((0 : Int)))]) := by kernel_rfl
@[go_sem] theorem c79_r7 (p0 : Option Addr) (keep1 : Int) (k4 : Int) (i5 : Int) (bits6 : Int) (j7 : Int) (K : Env → W) : RP c79 7 [(0, .pointer p0), (1, .int .u64 keep1), (4, .int .i64 k4), (5, .int .i64 i5), (6, .int .u64 bits6), (7, .int .i64 j7)] K =
    (rq ((64 : Int) ≠ 0) (K [(0, .pointer p0), (1, .int .u64 keep1), (4, .int .i64 k4), (5, .int .i64 i5), (6, .int .u64 bits6), (7, .int .i64 j7), (30, .bool ((decide (j7 < ((k4).tmod ((64 : Int)))))))])) := by kernel_rfl
@[go_sem] theorem c79_r8 (p0 : Option Addr) (keep1 : Int) (k4 : Int) (i5 : Int) (bits6 : Int) (j7 : Int) (K : Env → W) : RP c79 8 [(0, .pointer p0), (1, .int .u64 keep1), (4, .int .i64 k4), (5, .int .i64 i5), (6, .int .u64 bits6), (7, .int .i64 j7)] K =
    (K [(0, .pointer p0), (1, .int .u64 keep1), (4, .int .i64 k4), (5, .int .i64 i5), (6, .int .u64 bits6), (7, .int .i64 ((IntKind.wrap .i64 (j7 + (1 : Int)))))]) := by kernel_rfl
@[go_sem] theorem c79_r9 (p0 : Option Addr) (keep1 : Int) (k4 : Int) (i5 : Int) (bits6 : Int) (j7 : Int) (K : Env → W) : RP c79 9 [(0, .pointer p0), (1, .int .u64 keep1), (4, .int .i64 k4), (5, .int .i64 i5), (6, .int .u64 bits6), (7, .int .i64 j7)] K =
    (rq ((2 : Int) ≠ 0) (K [(0, .pointer p0), (1, .int .u64 keep1), (4, .int .i64 k4), (5, .int .i64 i5), (6, .int .u64 ((IntKind.wrap .u64 ((bits6).tdiv ((2 : Int)))))), (7, .int .i64 j7)])) := by kernel_rfl
@[go_sem] theorem c79_r10 (p0 : Option Addr) (keep1 : Int) (k4 : Int) (i5 : Int) (bits6 : Int) (K : Env → W) : RP c79 10 [(0, .pointer p0), (1, .int .u64 keep1), (4, .int .i64 k4), (5, .int .i64 i5), (6, .int .u64 bits6)] K =
    (rq ((2 : Int) ≠ 0) (K [(0, .pointer p0), (1, .int .u64 keep1), (4, .int .i64 k4), (5, .int .i64 i5), (37, .bool ((((bits6).tmod ((2 : Int))) == (1 : Int))))])) := by kernel_rfl
@[go_sem] theorem c79_r11 (p0 : Option Addr) (keep1 : Int) (k4 : Int) (i5 : Int) (K : Env → W) : RP c79 11 [(0, .pointer p0), (1, .int .u64 keep1), (4, .int .i64 k4), (5, .int .i64 i5)] K =
    (ph fun S0 => (nn p0 fun y1_ => (ldq S0 eSl y1_ fun (y2_ : (Option Addr × Nat × Nat)) => (nn p0 fun y3_ => (ldq S0 eSl y3_ fun (y4_ : (Option Addr × Nat × Nat)) => (rq (0 ≤ i5 ∧ i5 < (y4_.2.1 : Int)) (nn y4_.1 fun y5_ => (ldq S0 eS ((((Addr.add y5_ ((i5).toNat * 3))).add 1)) fun (y6_ : List UInt8) => (rq (0 ≤ i5 ∧ i5 < (y2_.2.1 : Int)) (nn y2_.1 fun y7_ => (st ((Addr.add y7_ ((i5).toNat * 3))) (str y6_) (K [(0, .pointer p0), (1, .int .u64 keep1), (4, .int .i64 k4), (5, .int .i64 i5)])))))))))))) := by kernel_rfl
@[go_sem] theorem c79_r12 (p0 : Option Addr) (keep1 : Int) (k4 : Int) (i5 : Int) (K : Env → W) : RP c79 12 [(0, .pointer p0), (1, .int .u64 keep1), (4, .int .i64 k4), (5, .int .i64 i5)] K =
    (ph fun S0 => (nn p0 fun y1_ => (ldq S0 eSl y1_ fun (y2_ : (Option Addr × Nat × Nat)) => (nn p0 fun y3_ => (ldq S0 eSl y3_ fun (y4_ : (Option Addr × Nat × Nat)) => (rq (0 ≤ i5 ∧ i5 < (y4_.2.1 : Int)) (nn y4_.1 fun y5_ => (ldq S0 eS ((Addr.add y5_ ((i5).toNat * 3))) fun (y6_ : List UInt8) => (rq (0 ≤ i5 ∧ i5 < (y2_.2.1 : Int)) (nn y2_.1 fun y7_ => (st ((((Addr.add y7_ ((i5).toNat * 3))).add 1)) (str y6_) (K [(0, .pointer p0), (1, .int .u64 keep1), (4, .int .i64 k4), (5, .int .i64 i5)])))))))))))) := by kernel_rfl
@[go_sem] theorem c79_r13 (p0 : Option Addr) (keep1 : Int) (k4 : Int) (i5 : Int) (K : Env → W) : RP c79 13 [(0, .pointer p0), (1, .int .u64 keep1), (4, .int .i64 k4), (5, .int .i64 i5)] K =
    (nn p0 fun y1_ => (ld eSl y1_ fun (y2_ : (Option Addr × Nat × Nat)) => (rq (0 ≤ i5 ∧ i5 < (y2_.2.1 : Int)) (nn y2_.1 fun y3_ => (st ((((Addr.add y3_ ((i5).toNat * 3))).add 2)) (.bool false) (K [(0, .pointer p0), (1, .int .u64 keep1), (4, .int .i64 k4), (5, .int .i64 i5)])))))) := by kernel_rfl
@[go_sem] theorem c79_r14 (p0 : Option Addr) (keep1 : Int) (k4 : Int) (i5 : Int) (K : Env → W) : RP c79 14 [(0, .pointer p0), (1, .int .u64 keep1), (4, .int .i64 k4), (5, .int .i64 i5)] K =
    (K [(0, .pointer p0), (1, .int .u64 keep1), (4, .int .i64 ((IntKind.wrap .i64 (k4 + (1 : Int))))), (5, .int .i64 i5)]) := by kernel_rfl
@[go_sem] theorem c79_r15 (p0 : Option Addr) (K : Env → W) : RP c79 15 [(0, .pointer p0)] K =
    (nn p0 fun y1_ => (st ((y1_.add 1)) (.bool true) (K [(0, .pointer p0)]))) := by kernel_rfl
@[go_sem] theorem c79_r16 (p0 : Option Addr) (K : Env → W) : RP c79 16 [(0, .pointer p0)] K =
    (nn p0 fun y1_ => (st ((y1_.add 2)) (.bool false) (K [(0, .pointer p0)]))) := by kernel_rfl
@[go_sem] theorem c79_r17 (p0 : Option Addr) (K : Env → W) : RP c79 17 [(0, .pointer p0)] K =
    (nn p0 fun y1_ => (ld eI ((y1_.add 6)) fun (y2_ : Int) => (nn p0 fun y3_ => (st ((y3_.add 6)) (.int .i64 ((IntKind.wrap .i64 (y2_ + (1 : Int))))) (K []))))) := by kernel_rfl
@[go_sem] theorem c79_o : c79.lo 1000000 = [] := rfl
@[go_sem] theorem c79_e (k : Value → W) : RTp c79 [] k = (k (.tuple #[])) := by kernel_rfl
theorem c79_ok : (c79.P.follows .mixedOrders && okc c79 c79.body) = true := by kernel_rfl
theorem c79_fn {e : Enc} {args : Array Value} {G : e.α → W} {L : List HP} {ρ : Env} (hρ : envA 0 args.toList = ρ) (hs : Nat.ble args.size 91 = true) (h : E L (D c79 (.seq (.reg 0) (.seq (.seq (.reg 1) (.block 0 (.loop (.seq (.seq (.reg 2) (.cond (.tmp 14) (.skip) (.exit 0))) (.seq (.block 1 (.seq (.seq (.reg 4) (.cond (.tmp 25) (.exit 1) (.skip))) (.seq (.reg 5) (.seq (.seq (.reg 6) (.block 2 (.loop (.seq (.seq (.reg 7) (.cond (.tmp 30) (.skip) (.exit 2))) (.seq (.block 3 (.reg 9)) (.reg 8)))))) (.seq (.seq (.reg 10) (.cond (.tmp 37) (.reg 11) (.skip))) (.seq (.reg 12) (.seq (.reg 13) (.reg 14)))))))) (.reg 3)))))) (.seq (.reg 15) (.seq (.reg 16) (.reg 17))))) (fnQ c79 e G) ρ)) : E L (cal e Try.prog 79 args G) :=
  d_fn (c := c79) Try.func79 (by kernel_rfl) (by kernel_rfl) (by kernel_rfl) c79_ok (by kernel_rfl) (by kernel_rfl) hρ hs h
-- loop (first region 7): live slots 0:p0 4:k4 5:i5 6:bits6 7:j7, of which it writes [6, 7]
-- loop (first region 7): live slots 0:p0 1:keep1 4:k4 5:i5 6:bits6 7:j7, of which it writes [6, 7]
-- loop (first region 2): live slots 0:p0 1:keep1 4:k4 5:i5, of which it writes [4, 5]
/-! (*gharry.gharrylaw03.plain).act -/
noncomputable def c91 : Cfg := { P := Try.prog, n := 40, T := TT, body := (Try.f91.body).getD .skip, res := Try.f91.results.toList, li := lk [] [(0, [0]), (1, [0]), (2, [0]), (3, []), (4, [0]), (5, [0]), (6, [0]), (7, [])], lo := lk [] [(0, [0]), (1, [0, 13]), (2, []), (3, [2]), (4, [0, 23]), (5, [0]), (6, []), (7, [2]), (1000000, [2])], ord := lk (false, []) [] }
@[go_sem] theorem c91_i0 : c91.li 0 = [0] := rfl
@[go_sem] theorem c91_i1 : c91.li 1 = [0] := rfl
@[go_sem] theorem c91_i2 : c91.li 2 = [0] := rfl
@[go_sem] theorem c91_i3 : c91.li 3 = [] := rfl
@[go_sem] theorem c91_i4 : c91.li 4 = [0] := rfl
@[go_sem] theorem c91_i5 : c91.li 5 = [0] := rfl
@[go_sem] theorem c91_i6 : c91.li 6 = [0] := rfl
@[go_sem] theorem c91_i7 : c91.li 7 = [] := rfl
@[go_sem] theorem c91_r0 (p0 : Option Addr) (K : Env → W) : RP c91 0 [(0, .pointer p0)] K =
    (K [(0, .pointer p0)]) := by kernel_rfl
@[go_sem] theorem c91_r1 (p0 : Option Addr) (K : Env → W) : RP c91 1 [(0, .pointer p0)] K =
    (nn p0 fun y1_ => (ld eB ((y1_.add 2)) fun (y2_ : Bool) => (cnd y2_ (nn p0 fun y3_ => (ld eI ((y3_.add 3)) fun (y4_ : Int) => (K [(0, .pointer p0), (13, .bool ((y4_ == (0 : Int))))]))) (K [(0, .pointer p0), (13, .bool false)])))) := by kernel_rfl
@[go_sem] theorem c91_r2 (p0 : Option Addr) (K : Env → W) : RP c91 2 [(0, .pointer p0)] K =
    (nn p0 fun y1_ => (ld eU64 ((y1_.add 4)) fun (y2_ : Int) => (cal eN Try.prog 79 #[.pointer p0, .int .u64 y2_] fun (y3_ : Unit) => (K [])))) := by kernel_rfl
@[go_sem] theorem c91_r3 (K : Env → W) : RP c91 3 [] K =
    (K [(2, .bool false)]) := by kernel_rfl
@[go_sem] theorem c91_r4 (p0 : Option Addr) (K : Env → W) : RP c91 4 [(0, .pointer p0)] K =
    (nn p0 fun y1_ => (ld eB ((y1_.add 2)) fun (y2_ : Bool) => (K [(0, .pointer p0), (23, .bool y2_)]))) := by kernel_rfl
@[go_sem] theorem c91_r5 (p0 : Option Addr) (K : Env → W) : RP c91 5 [(0, .pointer p0)] K =
    (nn p0 fun y1_ => (ld eI ((y1_.add 3)) fun (y2_ : Int) => (nn p0 fun y3_ => (st ((y3_.add 3)) (.int .i64 ((IntKind.wrap .i64 (y2_ - (1 : Int))))) (K [(0, .pointer p0)]))))) := by kernel_rfl
@[go_sem] theorem c91_r6 (p0 : Option Addr) (K : Env → W) : RP c91 6 [(0, .pointer p0)] K =
    (nn p0 fun y1_ => (ld eI ((y1_.add 5)) fun (y2_ : Int) => (nn p0 fun y3_ => (st ((y3_.add 5)) (.int .i64 ((IntKind.wrap .i64 (y2_ + (1 : Int))))) (K []))))) := by kernel_rfl
@[go_sem] theorem c91_r7 (K : Env → W) : RP c91 7 [] K =
    (K [(2, .bool true)]) := by kernel_rfl
@[go_sem] theorem c91_o : c91.lo 1000000 = [2] := rfl
@[go_sem] theorem c91_e (t2 : Bool) (k : Value → W) : RTp c91 [(2, .bool t2)] k = (k (.bool t2)) := by kernel_rfl
theorem c91_ok : (c91.P.follows .mixedOrders && okc c91 c91.body) = true := by kernel_rfl
theorem c91_fn {e : Enc} {args : Array Value} {G : e.α → W} {L : List HP} {ρ : Env} (hρ : envA 0 args.toList = ρ) (hs : Nat.ble args.size 40 = true) (h : E L (D c91 (.seq (.reg 0) (.seq (.seq (.reg 1) (.cond (.tmp 13) (.seq (.reg 2) (.seq (.reg 3) (.ret))) (.skip))) (.seq (.seq (.reg 4) (.cond (.tmp 23) (.reg 5) (.skip))) (.seq (.reg 6) (.seq (.reg 7) (.ret)))))) (fnQ c91 e G) ρ)) : E L (cal e Try.prog 91 args G) :=
  d_fn (c := c91) Try.func91 (by kernel_rfl) (by kernel_rfl) (by kernel_rfl) c91_ok (by kernel_rfl) (by kernel_rfl) hρ hs h
end Go.Sp
/- The law's own disk: what its functions do. -/
namespace Go.Sp
open Go Go.Proofs
set_option linter.unusedSimpArgs false
set_option linter.unusedVariables false
set_option maxRecDepth 10000
theorem flat_getT {α : Type} {cel : α → List Value} {sz : Nat} (hc : ∀ x, (cel x).length = sz) {xs : List α} {tl : List Value} {i : Nat} {x : α} (hx : xs[i]? = some x) {j : Nat} {v : Value} (hj : (cel x)[j]? = some v) : (xs.flatMap cel ++ tl)[i * sz + j]? = some v := by
  have h := flat_get hc xs i x hx j v hj
  have hl : i * sz + j < (xs.flatMap cel).length := by
    rcases Nat.lt_or_ge (i * sz + j) (xs.flatMap cel).length with h' | h'
    · exact h'
    · rw [List.getElem?_eq_none h'] at h; cases h
  rw [List.getElem?_append_left hl]; exact h
theorem flat_set {α : Type} {cel : α → List Value} {sz : Nat} (hc : ∀ x, (cel x).length = sz) : ∀ (xs : List α) (i : Nat) (x x' : α) (_ : xs[i]? = some x) (j : Nat) (v : Value) (_ : j < sz) (_ : cel x' = (cel x).set j v), (xs.flatMap cel).set (i * sz + j) v = (xs.set i x').flatMap cel
  | y :: r, 0, x, x', hx, j, v, hj, he => by
    simp only [List.getElem?_cons_zero, Option.some.injEq] at hx
    subst hx
    simp only [Nat.zero_mul, Nat.zero_add, List.flatMap_cons, List.set_cons_zero]
    rw [List.set_append_left _ _ (by rw [hc]; exact hj), he]
  | y :: r, i + 1, x, x', hx, j, v, hj, he => by
    simp only [List.getElem?_cons_succ] at hx
    have ih := flat_set hc r i x x' hx j v hj he
    simp only [List.flatMap_cons, List.set_cons_succ]
    rw [List.set_append_right _ _ (by rw [hc, Nat.add_mul]; omega), hc, ← ih]
    congr 2
    rw [Nat.add_mul]; omega
  | [], i, x, x', hx, _, _, _, _ => by simp at hx
theorem flat_setT {α : Type} {cel : α → List Value} {sz : Nat} (hc : ∀ x, (cel x).length = sz) {xs : List α} {tl : List Value} {i : Nat} {x : α} (x' : α) (hx : xs[i]? = some x) {j : Nat} {v : Value} (hj : j < sz) (he : cel x' = (cel x).set j v) : (xs.flatMap cel ++ tl).set (i * sz + j) v = (xs.set i x').flatMap cel ++ tl := by
  have hi : i < xs.length := by
    rcases Nat.lt_or_ge i xs.length with h' | h'
    · exact h'
    · rw [List.getElem?_eq_none h'] at hx; cases hx
  have hle : (i + 1) * sz ≤ xs.length * sz := Nat.mul_le_mul_right _ hi
  rw [Nat.add_mul] at hle
  rw [List.set_append_left _ _ (by rw [flat_len hc]; omega), flat_set hc xs i x x' hx j v hj he]
theorem flat_lt {α : Type} {cel : α → List Value} {sz : Nat} (hc : ∀ x, (cel x).length = sz) {xs : List α} {tl : List Value} {i j : Nat} (hi : i < xs.length) (hj : j < sz) : i * sz + j < (xs.flatMap cel ++ tl).length := by
  have hle : (i + 1) * sz ≤ xs.length * sz := Nat.mul_le_mul_right _ hi
  rw [Nat.add_mul] at hle
  rw [List.length_append, flat_len hc]; omega
/-! ### The law's disk -/
abbrev Sec := gharrylaw03_sector
abbrev cSec (x : Sec) : List Value := [str x.sure, str x.now, .bool x.waits]
theorem cSec_len (x : Sec) : (cSec x).length = 3 := rfl
section
variable {q : List Sec} {tl : List Value} {i : Nat} {x : Sec}
theorem sec_ld0 (hx : q[i]? = some x) : (q.flatMap cSec ++ tl)[i * 3]? = some (eS.enc x.sure) := flat_getT cSec_len hx (j := 0) rfl
theorem sec_ld1 (hx : q[i]? = some x) : (q.flatMap cSec ++ tl)[i * 3 + 1]? = some (eS.enc x.now) := flat_getT cSec_len hx (j := 1) rfl
theorem sec_ld2 (hx : q[i]? = some x) : (q.flatMap cSec ++ tl)[i * 3 + 2]? = some (eB.enc x.waits) := flat_getT cSec_len hx (j := 2) rfl
theorem sec_st0 (v : List UInt8) (hx : q[i]? = some x) : (q.flatMap cSec ++ tl).set (i * 3) (str v) = (q.set i ⟨v, x.now, x.waits⟩).flatMap cSec ++ tl := flat_setT cSec_len (⟨v, x.now, x.waits⟩ : Sec) hx (j := 0) (by decide) rfl
theorem sec_st1 (v : List UInt8) (hx : q[i]? = some x) : (q.flatMap cSec ++ tl).set (i * 3 + 1) (str v) = (q.set i ⟨x.sure, v, x.waits⟩).flatMap cSec ++ tl := flat_setT cSec_len (⟨x.sure, v, x.waits⟩ : Sec) hx (j := 1) (by decide) rfl
theorem sec_st2 (v : Bool) (hx : q[i]? = some x) : (q.flatMap cSec ++ tl).set (i * 3 + 2) (.bool v) = (q.set i ⟨x.sure, x.now, v⟩).flatMap cSec ++ tl := flat_setT cSec_len (⟨x.sure, x.now, v⟩ : Sec) hx (j := 2) (by decide) rfl
theorem sec_lt0 (hi : i < q.length) : i * 3 < (q.flatMap cSec ++ tl).length := flat_lt cSec_len hi (j := 0) (by decide)
theorem sec_lt1 (hi : i < q.length) : i * 3 + 1 < (q.flatMap cSec ++ tl).length := flat_lt cSec_len hi (j := 1) (by decide)
theorem sec_lt2 (hi : i < q.length) : i * 3 + 2 < (q.flatMap cSec ++ tl).length := flat_lt cSec_len hi (j := 2) (by decide)
theorem set_get {α : Type} {l : List α} (i : Nat) (x : α) (h : i < l.length) : (l.set i x)[i]? = some x := by simp [h]
end
def zSec : Sec := ⟨[], [], false⟩
structure Pl where
  b : Nat
  g : Nat
  c : Nat
  l : List Sec
  tl : List Value
  down : Bool
  armed : Bool
  left : Int
  keep : Int
  acts : Int
  downs : Int
abbrev pll (p : Pl) : List HP := [ar p.b 49 [.slice (some ⟨p.g, 0, none⟩) p.l.length p.c, .bool p.down, .bool p.armed, .int .i64 p.left, .int .u64 p.keep, .int .i64 p.acts, .int .i64 p.downs], ar p.g 51 (p.l.flatMap cSec ++ p.tl)]
def Pl.p (p : Pl) : Value := .pointer (some ⟨p.b, 0, none⟩)
def rank (l : List Sec) (i : Nat) : Nat := ((l.take i).filter (·.waits)).length
def hv (keep : Int) : Nat → Int
  | 0 => keep
  | j + 1 => (hv keep j).tdiv 2
def bitOf (keep : Int) (k : Nat) : Bool := (hv keep (k % 64)).tmod 2 == 1
def offOne (keep : Int) (k : Nat) (x : Sec) : Sec := let s := if bitOf keep k then x.now else x.sure; ⟨s, s, false⟩
def offl (l : List Sec) (keep : Int) : Nat → List Sec
  | 0 => l
  | i + 1 => if (l.getD i zSec).waits then (offl l keep i).set i (offOne keep (rank l i) (l.getD i zSec)) else offl l keep i
theorem offl_len (l : List Sec) (keep : Int) : ∀ i, (offl l keep i).length = l.length
  | 0 => rfl
  | i + 1 => by unfold offl; split <;> simp [offl_len l keep i]
theorem offl_get (l : List Sec) (keep : Int) : ∀ (i j : Nat), j < l.length → (offl l keep i).getD j zSec = if j < i ∧ (l.getD j zSec).waits then offOne keep (rank l j) (l.getD j zSec) else l.getD j zSec
  | 0, j, hj => by simp [offl]
  | i + 1, j, hj => by
    have ih := offl_get l keep i j hj
    unfold offl
    split
    · rename_i hw
      by_cases h : i = j
      · subst h
        rw [if_pos ⟨by omega, hw⟩]
        simp [List.getD_eq_getElem?_getD, List.getElem?_set, offl_len, hj]
      · have e : ((offl l keep i).set i (offOne keep (rank l i) (l.getD i zSec))).getD j zSec = (offl l keep i).getD j zSec := by
          simp [List.getD_eq_getElem?_getD, List.getElem?_set, h]
        rw [e, ih]
        by_cases hc : j < i ∧ (l.getD j zSec).waits = true
        · rw [if_pos hc, if_pos ⟨by omega, hc.2⟩]
        · rw [if_neg hc, if_neg (fun hc' => hc ⟨by omega, hc'.2⟩)]
    · rename_i hw
      rw [ih]
      by_cases hc : j < i ∧ (l.getD j zSec).waits = true
      · rw [if_pos hc, if_pos ⟨by omega, hc.2⟩]
      · rw [if_neg hc, if_neg (fun hc' => hc ⟨by
          rcases Nat.lt_or_ge j i with h | h
          · exact h
          · have : j = i := by omega
            subst this; exact absurd hc'.2 hw, hc'.2⟩)]
theorem offl_at (l : List Sec) (keep : Int) {i : Nat} (hi : i < l.length) : (offl l keep i)[i]? = some (l.getD i zSec) := by
  have h := offl_get l keep i i hi
  rw [if_neg (by omega)] at h
  rw [← h]
  have hl := offl_len l keep i
  rw [List.getD_eq_getElem?_getD, List.getElem?_eq_getElem (by omega)]
  rfl
theorem rank_succ (l : List Sec) {i : Nat} (hi : i < l.length) : rank l (i + 1) = if (l.getD i zSec).waits then rank l i + 1 else rank l i := by
  unfold rank
  rw [List.take_succ_eq_append_getElem hi, List.filter_append]
  have : l.getD i zSec = l[i] := by simp [hi]
  rw [this]
  cases h : l[i].waits <;> simp [h]
theorem rank_le (l : List Sec) (i : Nat) : rank l i ≤ i := by
  unfold rank
  exact Nat.le_trans (List.length_filter_le _ _) (by simp; omega)
def Pl.off (p : Pl) (keep : Int) : Pl := { p with l := offl p.l keep p.l.length, down := true, armed := false, downs := IntKind.wrap .i64 (p.downs + 1) }
theorem hv_nn (keep : Int) (h : 0 ≤ keep) : ∀ j, 0 ≤ hv keep j ∧ hv keep j ≤ keep
  | 0 => ⟨h, Int.le_refl _⟩
  | j + 1 => by
    have ih := hv_nn keep h j
    unfold hv
    rw [td ih.1]
    omega
theorem wU64 {n : Int} (h : 0 ≤ n) (h' : n ≤ 18446744073709551615) : IntKind.wrap .u64 n = n := by
  rw [IntKind.wrap_u64]; omega
end Go.Sp
