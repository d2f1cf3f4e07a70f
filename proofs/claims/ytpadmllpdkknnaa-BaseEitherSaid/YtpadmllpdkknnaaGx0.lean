/- What each region of the Go functions does. Written by my own generator. -/
import Derived.Test.YtpadmllpdkknnaaT
namespace Go.Sp
open Go
set_option maxRecDepth 100000
set_option linter.unusedVariables false
open Go.Proofs
/-! gharry.gharrylaw03.DiskMost -/
noncomputable def c3 : Cfg := { P := Try.prog, n := 59, T := TT, body := (Try.f3.body).getD .skip, res := Try.f3.results.toList, li := lk [] [(0, [0]), (1, [0]), (2, []), (3, [0]), (4, [0, 3, 4]), (5, [3, 4]), (6, [0, 3, 4])], lo := lk [] [(0, [0]), (1, [0, 10]), (2, [2]), (3, [0, 3, 4]), (4, [0, 3, 4, 19]), (5, [2]), (6, [2]), (1000000, [2])], ord := lk (false, []) [] }
@[go_sem] theorem c3_i0 : c3.li 0 = [0] := rfl
@[go_sem] theorem c3_i1 : c3.li 1 = [0] := rfl
@[go_sem] theorem c3_i2 : c3.li 2 = [] := rfl
@[go_sem] theorem c3_i3 : c3.li 3 = [0] := rfl
@[go_sem] theorem c3_i4 : c3.li 4 = [0, 3, 4] := rfl
@[go_sem] theorem c3_i5 : c3.li 5 = [3, 4] := rfl
@[go_sem] theorem c3_i6 : c3.li 6 = [0, 3, 4] := rfl
@[go_sem] theorem c3_r0 (more0 : Int) (K : Env → W) : RP c3 0 [(0, .int .i64 more0)] K =
    (K [(0, .int .i64 more0)]) := by kernel_rfl
@[go_sem] theorem c3_r1 (more0 : Int) (K : Env → W) : RP c3 1 [(0, .int .i64 more0)] K =
    (cnd ((decide (more0 < (-1 : Int)))) (K [(0, .int .i64 more0), (10, .bool true)]) (K [(0, .int .i64 more0), (10, .bool ((decide ((1 : Int) < more0))))])) := by kernel_rfl
@[go_sem] theorem c3_r2 (K : Env → W) : RP c3 2 [] K =
    (cal eB Try.prog 24 #[] fun (y1_ : Bool) => (K [(2, .bool y1_)])) := by kernel_rfl
@[go_sem] theorem c3_r3 (more0 : Int) (K : Env → W) : RP c3 3 [(0, .int .i64 more0)] K =
    (cal (eT2 eP eI) Try.prog 25 #[.int .i64 ((IntKind.wrap .i64 ((8192 : Int) + more0)))] fun (y1_ : ((Option Addr) × Int)) => (K [(0, .int .i64 more0), (3, .pointer y1_.1), (4, .int .i64 y1_.2)])) := by kernel_rfl
@[go_sem] theorem c3_r4 (more0 : Int) (d3 : Option Addr) (e4 : Int) (K : Env → W) : RP c3 4 [(0, .int .i64 more0), (3, .pointer d3), (4, .int .i64 e4)] K =
    (K [(0, .int .i64 more0), (3, .pointer d3), (4, .int .i64 e4), (19, .bool ((more0 == (1 : Int))))]) := by kernel_rfl
@[go_sem] theorem c3_r5 (d3 : Option Addr) (e4 : Int) (K : Env → W) : RP c3 5 [(3, .pointer d3), (4, .int .i64 e4)] K =
    (cnd ((d3).isNone) (cnd ((e4 == (1 : Int))) (cal eB Try.prog 24 #[] fun (y1_ : Bool) => (K [(2, .bool y1_)])) (K [(2, .bool false)])) (K [(2, .bool false)])) := by kernel_rfl
@[go_sem] theorem c3_r6 (more0 : Int) (d3 : Option Addr) (e4 : Int) (K : Env → W) : RP c3 6 [(0, .int .i64 more0), (3, .pointer d3), (4, .int .i64 e4)] K =
    (cnd ((e4 == (0 : Int))) (cnd ((!(d3).isNone)) (cal eI Try.prog 26 #[.pointer d3] fun (y1_ : Int) => (cnd ((y1_ == (IntKind.wrap .i64 ((8192 : Int) + more0)))) (cal eI Try.prog 27 #[.pointer d3, .int .i64 ((IntKind.wrap .i64 ((8191 : Int) + more0))), str (([122] : List UInt8))] fun (y2_ : Int) => (cnd ((y2_ == (0 : Int))) (cal eI Try.prog 27 #[.pointer d3, .int .i64 ((IntKind.wrap .i64 ((8192 : Int) + more0))), str (([122] : List UInt8))] fun (y3_ : Int) => (cnd ((y3_ == (6 : Int))) (cal eB Try.prog 24 #[] fun (y4_ : Bool) => (K [(2, .bool y4_)])) (K [(2, .bool false)]))) (K [(2, .bool false)]))) (K [(2, .bool false)]))) (K [(2, .bool false)])) (K [(2, .bool false)])) := by kernel_rfl
@[go_sem] theorem c3_o : c3.lo 1000000 = [2] := rfl
@[go_sem] theorem c3_e (t2 : Bool) (k : Value → W) : RTp c3 [(2, .bool t2)] k = (k (.bool t2)) := by kernel_rfl
theorem c3_ok : (c3.P.follows .mixedOrders && okc c3 c3.body) = true := by kernel_rfl
theorem c3_fn {e : Enc} {args : Array Value} {G : e.α → W} {L : List HP} {ρ : Env} (hρ : envA 0 args.toList = ρ) (hs : Nat.ble args.size 59 = true) (h : E L (D c3 (.seq (.reg 0) (.seq (.seq (.reg 1) (.cond (.tmp 10) (.seq (.reg 2) (.ret)) (.skip))) (.seq (.reg 3) (.seq (.seq (.reg 4) (.cond (.tmp 19) (.seq (.reg 5) (.ret)) (.skip))) (.seq (.reg 6) (.ret)))))) (fnQ c3 e G) ρ)) : E L (cal e Try.prog 3 args G) :=
  d_fn (c := c3) Try.func3 (by kernel_rfl) (by kernel_rfl) (by kernel_rfl) c3_ok (by kernel_rfl) (by kernel_rfl) hρ hs h
/-! gharry.gharrylaw03.DiskLasts -/
noncomputable def c4 : Cfg := { P := Try.prog, n := 151, T := TT, body := (Try.f4.body).getD .skip, res := Try.f4.results.toList, li := lk [] [(0, [0, 1, 2]), (1, [0, 1, 2]), (2, [0, 1, 2, 7, 8]), (3, []), (4, [0, 1, 2, 7]), (5, [0, 1, 2, 7, 9]), (6, [0, 1, 2, 7, 9]), (7, [0, 1, 2, 7, 9]), (8, []), (9, [0, 1, 2, 7]), (10, []), (11, [0, 1, 2, 7]), (12, [0, 1, 2, 7, 10]), (13, [0, 1, 2, 7, 10]), (14, [0, 1, 2, 7, 10]), (15, []), (16, [0, 1, 2, 7]), (17, []), (18, [0, 1, 7]), (19, [0, 1, 7, 11]), (20, [0, 1, 7, 11]), (21, [0, 1, 7, 11]), (22, [0, 1, 7, 11, 12, 13]), (23, [0, 1, 7, 11, 12, 13, 14]), (24, [0, 1, 7, 11, 12, 13]), (25, [0, 1, 7, 11, 12, 13, 14]), (26, [0, 1, 7, 11, 12, 13, 14, 15]), (27, []), (28, [])], lo := lk [] [(0, [0, 1, 2]), (1, [0, 1, 2, 7, 8]), (2, [0, 1, 2, 7, 25]), (3, [6]), (4, [0, 1, 2, 7, 9]), (5, [0, 1, 2, 7, 9, 33]), (6, [0, 1, 2, 7, 9]), (7, [0, 1, 2, 7, 9, 51]), (8, [6]), (9, [0, 1, 2, 7, 54]), (10, [6]), (11, [0, 1, 2, 7, 10]), (12, [0, 1, 2, 7, 10, 62]), (13, [0, 1, 2, 7, 10]), (14, [0, 1, 2, 7, 10, 80]), (15, [6]), (16, [0, 1, 7, 89]), (17, [6]), (18, [0, 1, 7, 11]), (19, [0, 1, 7, 11, 91]), (20, [0, 1, 7, 11]), (21, [0, 1, 7, 11, 12, 13]), (22, [0, 1, 7, 11, 12, 13, 14]), (23, [0, 1, 7, 11, 12, 13, 14, 112]), (24, [0, 1, 7, 11, 12, 13, 14]), (25, [0, 1, 7, 11, 12, 13, 14, 15]), (26, [0, 1, 7, 11, 149]), (27, [6]), (28, [6]), (1000000, [6])], ord := lk (false, []) [] }
@[go_sem] theorem c4_i0 : c4.li 0 = [0, 1, 2] := rfl
@[go_sem] theorem c4_i1 : c4.li 1 = [0, 1, 2] := rfl
@[go_sem] theorem c4_i2 : c4.li 2 = [0, 1, 2, 7, 8] := rfl
@[go_sem] theorem c4_i3 : c4.li 3 = [] := rfl
@[go_sem] theorem c4_i4 : c4.li 4 = [0, 1, 2, 7] := rfl
@[go_sem] theorem c4_i5 : c4.li 5 = [0, 1, 2, 7, 9] := rfl
@[go_sem] theorem c4_i6 : c4.li 6 = [0, 1, 2, 7, 9] := rfl
@[go_sem] theorem c4_i7 : c4.li 7 = [0, 1, 2, 7, 9] := rfl
@[go_sem] theorem c4_i8 : c4.li 8 = [] := rfl
@[go_sem] theorem c4_i9 : c4.li 9 = [0, 1, 2, 7] := rfl
@[go_sem] theorem c4_i10 : c4.li 10 = [] := rfl
@[go_sem] theorem c4_i11 : c4.li 11 = [0, 1, 2, 7] := rfl
@[go_sem] theorem c4_i12 : c4.li 12 = [0, 1, 2, 7, 10] := rfl
@[go_sem] theorem c4_i13 : c4.li 13 = [0, 1, 2, 7, 10] := rfl
@[go_sem] theorem c4_i14 : c4.li 14 = [0, 1, 2, 7, 10] := rfl
@[go_sem] theorem c4_i15 : c4.li 15 = [] := rfl
@[go_sem] theorem c4_i16 : c4.li 16 = [0, 1, 2, 7] := rfl
@[go_sem] theorem c4_i17 : c4.li 17 = [] := rfl
@[go_sem] theorem c4_i18 : c4.li 18 = [0, 1, 7] := rfl
@[go_sem] theorem c4_i19 : c4.li 19 = [0, 1, 7, 11] := rfl
@[go_sem] theorem c4_i20 : c4.li 20 = [0, 1, 7, 11] := rfl
@[go_sem] theorem c4_i21 : c4.li 21 = [0, 1, 7, 11] := rfl
@[go_sem] theorem c4_i22 : c4.li 22 = [0, 1, 7, 11, 12, 13] := rfl
@[go_sem] theorem c4_i23 : c4.li 23 = [0, 1, 7, 11, 12, 13, 14] := rfl
@[go_sem] theorem c4_i24 : c4.li 24 = [0, 1, 7, 11, 12, 13] := rfl
@[go_sem] theorem c4_i25 : c4.li 25 = [0, 1, 7, 11, 12, 13, 14] := rfl
@[go_sem] theorem c4_i26 : c4.li 26 = [0, 1, 7, 11, 12, 13, 14, 15] := rfl
@[go_sem] theorem c4_i27 : c4.li 27 = [] := rfl
@[go_sem] theorem c4_i28 : c4.li 28 = [] := rfl
@[go_sem] theorem c4_r0 (l0p : Option Addr) (l0n l0c : Nat) (m1p : Option Addr) (m1n m1c : Nat) (keep2 : Int) (K : Env → W) : RP c4 0 [(0, .slice l0p l0n l0c), (1, .slice m1p m1n m1c), (2, .int .u64 keep2)] K =
    (K [(0, .slice l0p l0n l0c), (1, .slice m1p m1n m1c), (2, .int .u64 keep2)]) := by kernel_rfl
@[go_sem] theorem c4_r1 (l0p : Option Addr) (l0n l0c : Nat) (m1p : Option Addr) (m1n m1c : Nat) (keep2 : Int) (K : Env → W) : RP c4 1 [(0, .slice l0p l0n l0c), (1, .slice m1p m1n m1c), (2, .int .u64 keep2)] K =
    (cal (eT2 eP eI) Try.prog 25 #[.int .i64 ((40 : Int))] fun (y1_ : ((Option Addr) × Int)) => (K [(0, .slice l0p l0n l0c), (1, .slice m1p m1n m1c), (2, .int .u64 keep2), (7, .pointer y1_.1), (8, .int .i64 y1_.2)])) := by kernel_rfl
@[go_sem] theorem c4_r2 (l0p : Option Addr) (l0n l0c : Nat) (m1p : Option Addr) (m1n m1c : Nat) (keep2 : Int) (d7 : Option Addr) (e8 : Int) (K : Env → W) : RP c4 2 [(0, .slice l0p l0n l0c), (1, .slice m1p m1n m1c), (2, .int .u64 keep2), (7, .pointer d7), (8, .int .i64 e8)] K =
    (cnd ((e8 != (0 : Int))) (K [(0, .slice l0p l0n l0c), (1, .slice m1p m1n m1c), (2, .int .u64 keep2), (7, .pointer d7), (25, .bool true)]) (K [(0, .slice l0p l0n l0c), (1, .slice m1p m1n m1c), (2, .int .u64 keep2), (7, .pointer d7), (25, .bool ((d7).isNone))])) := by kernel_rfl
@[go_sem] theorem c4_r3 (K : Env → W) : RP c4 3 [] K =
    (K [(6, .bool false)]) := by kernel_rfl
@[go_sem] theorem c4_r4 (l0p : Option Addr) (l0n l0c : Nat) (m1p : Option Addr) (m1n m1c : Nat) (keep2 : Int) (d7 : Option Addr) (K : Env → W) : RP c4 4 [(0, .slice l0p l0n l0c), (1, .slice m1p m1n m1c), (2, .int .u64 keep2), (7, .pointer d7)] K =
    (K [(0, .slice l0p l0n l0c), (1, .slice m1p m1n m1c), (2, .int .u64 keep2), (7, .pointer d7), (9, .int .i64 ((0 : Int)))]) := by kernel_rfl
@[go_sem] theorem c4_r5 (l0p : Option Addr) (l0n l0c : Nat) (m1p : Option Addr) (m1n m1c : Nat) (keep2 : Int) (d7 : Option Addr) (i9 : Int) (K : Env → W) : RP c4 5 [(0, .slice l0p l0n l0c), (1, .slice m1p m1n m1c), (2, .int .u64 keep2), (7, .pointer d7), (9, .int .i64 i9)] K =
    (cnd ((decide (i9 < (l0n : Int)))) (K [(0, .slice l0p l0n l0c), (1, .slice m1p m1n m1c), (2, .int .u64 keep2), (7, .pointer d7), (9, .int .i64 i9), (33, .bool ((decide (i9 < (40 : Int)))))]) (K [(0, .slice l0p l0n l0c), (1, .slice m1p m1n m1c), (2, .int .u64 keep2), (7, .pointer d7), (9, .int .i64 i9), (33, .bool false)])) := by kernel_rfl
@[go_sem] theorem c4_r6 (l0p : Option Addr) (l0n l0c : Nat) (m1p : Option Addr) (m1n m1c : Nat) (keep2 : Int) (d7 : Option Addr) (i9 : Int) (K : Env → W) : RP c4 6 [(0, .slice l0p l0n l0c), (1, .slice m1p m1n m1c), (2, .int .u64 keep2), (7, .pointer d7), (9, .int .i64 i9)] K =
    (K [(0, .slice l0p l0n l0c), (1, .slice m1p m1n m1c), (2, .int .u64 keep2), (7, .pointer d7), (9, .int .i64 ((IntKind.wrap .i64 (i9 + (1 : Int)))))]) := by kernel_rfl
@[go_sem] theorem c4_r7 (l0p : Option Addr) (l0n l0c : Nat) (m1p : Option Addr) (m1n m1c : Nat) (keep2 : Int) (d7 : Option Addr) (i9 : Int) (K : Env → W) : RP c4 7 [(0, .slice l0p l0n l0c), (1, .slice m1p m1n m1c), (2, .int .u64 keep2), (7, .pointer d7), (9, .int .i64 i9)] K =
    (rq (0 ≤ i9 ∧ i9 < (l0n : Int)) (nn l0p fun y1_ => (ld eS ((Addr.add y1_ ((i9).toNat * 1))) fun (y2_ : List UInt8) => (cnd ((decide (((y2_).length : Int) ≤ (64 : Int)))) (rq (0 ≤ i9 ∧ i9 < (l0n : Int)) (nn l0p fun y3_ => (ld eS ((Addr.add y3_ ((i9).toNat * 1))) fun (y4_ : List UInt8) => (cal eI Try.prog 27 #[.pointer d7, .int .i64 i9, str y4_] fun (y5_ : Int) => (K [(0, .slice l0p l0n l0c), (1, .slice m1p m1n m1c), (2, .int .u64 keep2), (7, .pointer d7), (9, .int .i64 i9), (51, .bool ((y5_ != (0 : Int))))]))))) (K [(0, .slice l0p l0n l0c), (1, .slice m1p m1n m1c), (2, .int .u64 keep2), (7, .pointer d7), (9, .int .i64 i9), (51, .bool false)]))))) := by kernel_rfl
@[go_sem] theorem c4_r8 (K : Env → W) : RP c4 8 [] K =
    (K [(6, .bool false)]) := by kernel_rfl
@[go_sem] theorem c4_r9 (l0p : Option Addr) (l0n l0c : Nat) (m1p : Option Addr) (m1n m1c : Nat) (keep2 : Int) (d7 : Option Addr) (K : Env → W) : RP c4 9 [(0, .slice l0p l0n l0c), (1, .slice m1p m1n m1c), (2, .int .u64 keep2), (7, .pointer d7)] K =
    (cal eI Try.prog 28 #[.pointer d7] fun (y1_ : Int) => (K [(0, .slice l0p l0n l0c), (1, .slice m1p m1n m1c), (2, .int .u64 keep2), (7, .pointer d7), (54, .bool ((y1_ != (0 : Int))))])) := by kernel_rfl
@[go_sem] theorem c4_r10 (K : Env → W) : RP c4 10 [] K =
    (K [(6, .bool false)]) := by kernel_rfl
@[go_sem] theorem c4_r11 (l0p : Option Addr) (l0n l0c : Nat) (m1p : Option Addr) (m1n m1c : Nat) (keep2 : Int) (d7 : Option Addr) (K : Env → W) : RP c4 11 [(0, .slice l0p l0n l0c), (1, .slice m1p m1n m1c), (2, .int .u64 keep2), (7, .pointer d7)] K =
    (K [(0, .slice l0p l0n l0c), (1, .slice m1p m1n m1c), (2, .int .u64 keep2), (7, .pointer d7), (10, .int .i64 ((0 : Int)))]) := by kernel_rfl
@[go_sem] theorem c4_r12 (l0p : Option Addr) (l0n l0c : Nat) (m1p : Option Addr) (m1n m1c : Nat) (keep2 : Int) (d7 : Option Addr) (i10 : Int) (K : Env → W) : RP c4 12 [(0, .slice l0p l0n l0c), (1, .slice m1p m1n m1c), (2, .int .u64 keep2), (7, .pointer d7), (10, .int .i64 i10)] K =
    (cnd ((decide (i10 < (m1n : Int)))) (K [(0, .slice l0p l0n l0c), (1, .slice m1p m1n m1c), (2, .int .u64 keep2), (7, .pointer d7), (10, .int .i64 i10), (62, .bool ((decide (i10 < (40 : Int)))))]) (K [(0, .slice l0p l0n l0c), (1, .slice m1p m1n m1c), (2, .int .u64 keep2), (7, .pointer d7), (10, .int .i64 i10), (62, .bool false)])) := by kernel_rfl
@[go_sem] theorem c4_r13 (l0p : Option Addr) (l0n l0c : Nat) (m1p : Option Addr) (m1n m1c : Nat) (keep2 : Int) (d7 : Option Addr) (i10 : Int) (K : Env → W) : RP c4 13 [(0, .slice l0p l0n l0c), (1, .slice m1p m1n m1c), (2, .int .u64 keep2), (7, .pointer d7), (10, .int .i64 i10)] K =
    (K [(0, .slice l0p l0n l0c), (1, .slice m1p m1n m1c), (2, .int .u64 keep2), (7, .pointer d7), (10, .int .i64 ((IntKind.wrap .i64 (i10 + (1 : Int)))))]) := by kernel_rfl
@[go_sem] theorem c4_r14 (l0p : Option Addr) (l0n l0c : Nat) (m1p : Option Addr) (m1n m1c : Nat) (keep2 : Int) (d7 : Option Addr) (i10 : Int) (K : Env → W) : RP c4 14 [(0, .slice l0p l0n l0c), (1, .slice m1p m1n m1c), (2, .int .u64 keep2), (7, .pointer d7), (10, .int .i64 i10)] K =
    (rq (0 ≤ i10 ∧ i10 < (m1n : Int)) (nn m1p fun y1_ => (ld eS ((Addr.add y1_ ((i10).toNat * 1))) fun (y2_ : List UInt8) => (cnd ((decide (((y2_).length : Int) ≤ (64 : Int)))) (rq (0 ≤ i10 ∧ i10 < (m1n : Int)) (nn m1p fun y3_ => (ld eS ((Addr.add y3_ ((i10).toNat * 1))) fun (y4_ : List UInt8) => (cal eI Try.prog 27 #[.pointer d7, .int .i64 i10, str y4_] fun (y5_ : Int) => (K [(0, .slice l0p l0n l0c), (1, .slice m1p m1n m1c), (2, .int .u64 keep2), (7, .pointer d7), (10, .int .i64 i10), (80, .bool ((y5_ != (0 : Int))))]))))) (K [(0, .slice l0p l0n l0c), (1, .slice m1p m1n m1c), (2, .int .u64 keep2), (7, .pointer d7), (10, .int .i64 i10), (80, .bool false)]))))) := by kernel_rfl
@[go_sem] theorem c4_r15 (K : Env → W) : RP c4 15 [] K =
    (K [(6, .bool false)]) := by kernel_rfl
@[go_sem] theorem c4_r16 (l0p : Option Addr) (l0n l0c : Nat) (m1p : Option Addr) (m1n m1c : Nat) (keep2 : Int) (d7 : Option Addr) (K : Env → W) : RP c4 16 [(0, .slice l0p l0n l0c), (1, .slice m1p m1n m1c), (2, .int .u64 keep2), (7, .pointer d7)] K =
    (cal eI Try.prog 29 #[.pointer d7, .int .u64 keep2] fun (y1_ : Int) => (cnd ((y1_ != (0 : Int))) (K [(0, .slice l0p l0n l0c), (1, .slice m1p m1n m1c), (7, .pointer d7), (89, .bool true)]) (cal eI Try.prog 30 #[.pointer d7] fun (y2_ : Int) => (K [(0, .slice l0p l0n l0c), (1, .slice m1p m1n m1c), (7, .pointer d7), (89, .bool ((y2_ != (0 : Int))))])))) := by kernel_rfl
@[go_sem] theorem c4_r17 (K : Env → W) : RP c4 17 [] K =
    (K [(6, .bool false)]) := by kernel_rfl
@[go_sem] theorem c4_r18 (l0p : Option Addr) (l0n l0c : Nat) (m1p : Option Addr) (m1n m1c : Nat) (d7 : Option Addr) (K : Env → W) : RP c4 18 [(0, .slice l0p l0n l0c), (1, .slice m1p m1n m1c), (7, .pointer d7)] K =
    (K [(0, .slice l0p l0n l0c), (1, .slice m1p m1n m1c), (7, .pointer d7), (11, .int .i64 ((0 : Int)))]) := by kernel_rfl
@[go_sem] theorem c4_r19 (l0p : Option Addr) (l0n l0c : Nat) (m1p : Option Addr) (m1n m1c : Nat) (d7 : Option Addr) (i11 : Int) (K : Env → W) : RP c4 19 [(0, .slice l0p l0n l0c), (1, .slice m1p m1n m1c), (7, .pointer d7), (11, .int .i64 i11)] K =
    (K [(0, .slice l0p l0n l0c), (1, .slice m1p m1n m1c), (7, .pointer d7), (11, .int .i64 i11), (91, .bool ((decide (i11 < (40 : Int)))))]) := by kernel_rfl
@[go_sem] theorem c4_r20 (l0p : Option Addr) (l0n l0c : Nat) (m1p : Option Addr) (m1n m1c : Nat) (d7 : Option Addr) (i11 : Int) (K : Env → W) : RP c4 20 [(0, .slice l0p l0n l0c), (1, .slice m1p m1n m1c), (7, .pointer d7), (11, .int .i64 i11)] K =
    (K [(0, .slice l0p l0n l0c), (1, .slice m1p m1n m1c), (7, .pointer d7), (11, .int .i64 ((IntKind.wrap .i64 (i11 + (1 : Int)))))]) := by kernel_rfl
@[go_sem] theorem c4_r21 (l0p : Option Addr) (l0n l0c : Nat) (m1p : Option Addr) (m1n m1c : Nat) (d7 : Option Addr) (i11 : Int) (K : Env → W) : RP c4 21 [(0, .slice l0p l0n l0c), (1, .slice m1p m1n m1c), (7, .pointer d7), (11, .int .i64 i11)] K =
    (cal (eT2 eS eI) Try.prog 31 #[.pointer d7, .int .i64 i11] fun (y1_ : ((List UInt8) × Int)) => (K [(0, .slice l0p l0n l0c), (1, .slice m1p m1n m1c), (7, .pointer d7), (11, .int .i64 i11), (12, str y1_.1), (13, .int .i64 y1_.2)])) := by kernel_rfl
@[go_sem] theorem c4_r22 (l0p : Option Addr) (l0n l0c : Nat) (m1p : Option Addr) (m1n m1c : Nat) (d7 : Option Addr) (i11 : Int) (s12 : List UInt8) (f13 : Int) (K : Env → W) : RP c4 22 [(0, .slice l0p l0n l0c), (1, .slice m1p m1n m1c), (7, .pointer d7), (11, .int .i64 i11), (12, str s12), (13, .int .i64 f13)] K =
    (cal eS Try.prog 32 #[str (([] : List UInt8))] fun (y1_ : List UInt8) => (K [(0, .slice l0p l0n l0c), (1, .slice m1p m1n m1c), (7, .pointer d7), (11, .int .i64 i11), (12, str s12), (13, .int .i64 f13), (14, str y1_)])) := by kernel_rfl
@[go_sem] theorem c4_r23 (l0p : Option Addr) (l0n l0c : Nat) (m1p : Option Addr) (m1n m1c : Nat) (d7 : Option Addr) (i11 : Int) (s12 : List UInt8) (f13 : Int) (was14 : List UInt8) (K : Env → W) : RP c4 23 [(0, .slice l0p l0n l0c), (1, .slice m1p m1n m1c), (7, .pointer d7), (11, .int .i64 i11), (12, str s12), (13, .int .i64 f13), (14, str was14)] K =
    (cnd ((decide (i11 < (l0n : Int)))) (rq (0 ≤ i11 ∧ i11 < (l0n : Int)) (nn l0p fun y1_ => (ld eS ((Addr.add y1_ ((i11).toNat * 1))) fun (y2_ : List UInt8) => (K [(0, .slice l0p l0n l0c), (1, .slice m1p m1n m1c), (7, .pointer d7), (11, .int .i64 i11), (12, str s12), (13, .int .i64 f13), (14, str was14), (112, .bool ((decide (((y2_).length : Int) ≤ (64 : Int)))))])))) (K [(0, .slice l0p l0n l0c), (1, .slice m1p m1n m1c), (7, .pointer d7), (11, .int .i64 i11), (12, str s12), (13, .int .i64 f13), (14, str was14), (112, .bool false)])) := by kernel_rfl
@[go_sem] theorem c4_r24 (l0p : Option Addr) (l0n l0c : Nat) (m1p : Option Addr) (m1n m1c : Nat) (d7 : Option Addr) (i11 : Int) (s12 : List UInt8) (f13 : Int) (K : Env → W) : RP c4 24 [(0, .slice l0p l0n l0c), (1, .slice m1p m1n m1c), (7, .pointer d7), (11, .int .i64 i11), (12, str s12), (13, .int .i64 f13)] K =
    (rq (0 ≤ i11 ∧ i11 < (l0n : Int)) (nn l0p fun y1_ => (ld eS ((Addr.add y1_ ((i11).toNat * 1))) fun (y2_ : List UInt8) => (cal eS Try.prog 32 #[str y2_] fun (y3_ : List UInt8) => (K [(0, .slice l0p l0n l0c), (1, .slice m1p m1n m1c), (7, .pointer d7), (11, .int .i64 i11), (12, str s12), (13, .int .i64 f13), (14, str y3_)]))))) := by kernel_rfl
@[go_sem] theorem c4_r25 (l0p : Option Addr) (l0n l0c : Nat) (m1p : Option Addr) (m1n m1c : Nat) (d7 : Option Addr) (i11 : Int) (s12 : List UInt8) (f13 : Int) (was14 : List UInt8) (K : Env → W) : RP c4 25 [(0, .slice l0p l0n l0c), (1, .slice m1p m1n m1c), (7, .pointer d7), (11, .int .i64 i11), (12, str s12), (13, .int .i64 f13), (14, str was14)] K =
    (cnd ((decide (i11 < (m1n : Int)))) (rq (0 ≤ i11 ∧ i11 < (m1n : Int)) (nn m1p fun y1_ => (ld eS ((Addr.add y1_ ((i11).toNat * 1))) fun (y2_ : List UInt8) => (cnd ((decide (((y2_).length : Int) ≤ (64 : Int)))) (rq (0 ≤ i11 ∧ i11 < (m1n : Int)) (nn m1p fun y3_ => (ld eS ((Addr.add y3_ ((i11).toNat * 1))) fun (y4_ : List UInt8) => (cal eS Try.prog 32 #[str y4_] fun (y5_ : List UInt8) => (K [(0, .slice l0p l0n l0c), (1, .slice m1p m1n m1c), (7, .pointer d7), (11, .int .i64 i11), (12, str s12), (13, .int .i64 f13), (14, str was14), (15, .bool ((s12 == y5_)))]))))) (K [(0, .slice l0p l0n l0c), (1, .slice m1p m1n m1c), (7, .pointer d7), (11, .int .i64 i11), (12, str s12), (13, .int .i64 f13), (14, str was14), (15, .bool false)]))))) (K [(0, .slice l0p l0n l0c), (1, .slice m1p m1n m1c), (7, .pointer d7), (11, .int .i64 i11), (12, str s12), (13, .int .i64 f13), (14, str was14), (15, .bool false)])) := by kernel_rfl
@[go_sem] theorem c4_r26 (l0p : Option Addr) (l0n l0c : Nat) (m1p : Option Addr) (m1n m1c : Nat) (d7 : Option Addr) (i11 : Int) (s12 : List UInt8) (f13 : Int) (was14 : List UInt8) (is15 : Bool) (K : Env → W) : RP c4 26 [(0, .slice l0p l0n l0c), (1, .slice m1p m1n m1c), (7, .pointer d7), (11, .int .i64 i11), (12, str s12), (13, .int .i64 f13), (14, str was14), (15, .bool is15)] K =
    (cnd ((f13 != (0 : Int))) (K [(0, .slice l0p l0n l0c), (1, .slice m1p m1n m1c), (7, .pointer d7), (11, .int .i64 i11), (149, .bool true)]) (cnd ((!(s12 == was14))) (K [(0, .slice l0p l0n l0c), (1, .slice m1p m1n m1c), (7, .pointer d7), (11, .int .i64 i11), (149, .bool ((!is15)))]) (K [(0, .slice l0p l0n l0c), (1, .slice m1p m1n m1c), (7, .pointer d7), (11, .int .i64 i11), (149, .bool false)]))) := by kernel_rfl
@[go_sem] theorem c4_r27 (K : Env → W) : RP c4 27 [] K =
    (K [(6, .bool false)]) := by kernel_rfl
@[go_sem] theorem c4_r28 (K : Env → W) : RP c4 28 [] K =
    (cal eB Try.prog 24 #[] fun (y1_ : Bool) => (K [(6, .bool y1_)])) := by kernel_rfl
@[go_sem] theorem c4_o : c4.lo 1000000 = [6] := rfl
@[go_sem] theorem c4_e (t6 : Bool) (k : Value → W) : RTp c4 [(6, .bool t6)] k = (k (.bool t6)) := by kernel_rfl
theorem c4_ok : (c4.P.follows .mixedOrders && okc c4 c4.body) = true := by kernel_rfl
theorem c4_fn {e : Enc} {args : Array Value} {G : e.α → W} {L : List HP} {ρ : Env} (hρ : envA 0 args.toList = ρ) (hs : Nat.ble args.size 151 = true) (h : E L (D c4 (.seq (.reg 0) (.seq (.reg 1) (.seq (.seq (.reg 2) (.cond (.tmp 25) (.seq (.reg 3) (.ret)) (.skip))) (.seq (.seq (.reg 4) (.block 0 (.loop (.seq (.seq (.reg 5) (.cond (.tmp 33) (.skip) (.exit 0))) (.seq (.block 1 (.seq (.reg 7) (.cond (.tmp 51) (.seq (.reg 8) (.ret)) (.skip)))) (.reg 6)))))) (.seq (.seq (.reg 9) (.cond (.tmp 54) (.seq (.reg 10) (.ret)) (.skip))) (.seq (.seq (.reg 11) (.block 2 (.loop (.seq (.seq (.reg 12) (.cond (.tmp 62) (.skip) (.exit 2))) (.seq (.block 3 (.seq (.reg 14) (.cond (.tmp 80) (.seq (.reg 15) (.ret)) (.skip)))) (.reg 13)))))) (.seq (.seq (.reg 16) (.cond (.tmp 89) (.seq (.reg 17) (.ret)) (.skip))) (.seq (.seq (.reg 18) (.block 4 (.loop (.seq (.seq (.reg 19) (.cond (.tmp 91) (.skip) (.exit 4))) (.seq (.block 5 (.seq (.reg 21) (.seq (.reg 22) (.seq (.seq (.reg 23) (.cond (.tmp 112) (.reg 24) (.skip))) (.seq (.reg 25) (.seq (.reg 26) (.cond (.tmp 149) (.seq (.reg 27) (.ret)) (.skip)))))))) (.reg 20)))))) (.seq (.reg 28) (.ret)))))))))) (fnQ c4 e G) ρ)) : E L (cal e Try.prog 4 args G) :=
  d_fn (c := c4) Try.func4 (by kernel_rfl) (by kernel_rfl) (by kernel_rfl) c4_ok (by kernel_rfl) (by kernel_rfl) hρ hs h
-- loop (first region 19): live slots 0:l0 1:m1 7:d7 11:i11, of which it writes [11]
-- loop (first region 12): live slots 0:l0 1:m1 2:keep2 7:d7 10:i10, of which it writes [10]
-- loop (first region 5): live slots 0:l0 1:m1 2:keep2 7:d7 9:i9, of which it writes [9]
/-! gharry.gharrylaw03.DiskPlays -/
noncomputable def c6 : Cfg := { P := Try.prog, n := 120, T := TT, body := (Try.f6.body).getD .skip, res := Try.f6.results.toList, li := lk [] [(0, [0, 1]), (1, [0, 1]), (2, []), (3, [0, 1]), (4, [0, 1, 5, 6]), (5, [5, 6]), (6, [0, 1, 5, 6]), (7, []), (8, [0, 1, 5]), (9, [0, 1, 5, 7]), (10, [0, 1, 5, 7, 8]), (11, [0, 1, 5, 7, 8]), (12, [0, 1, 5, 7, 8]), (13, [0, 1, 5, 7]), (14, [0, 1, 5, 7, 9]), (15, [0, 1, 5, 7, 9]), (16, [0, 1, 5, 7, 9]), (17, []), (18, [])], lo := lk [] [(0, [0, 1]), (1, [0, 1, 15]), (2, [4]), (3, [0, 1, 5, 6]), (4, [0, 1, 5, 6, 27]), (5, [4]), (6, [0, 1, 5, 42]), (7, [4]), (8, [0, 1, 5, 7]), (9, [0, 1, 5, 7, 8]), (10, [0, 1, 5, 7, 8, 47]), (11, [0, 1, 5, 7, 8]), (12, [0, 1, 5, 7, 8]), (13, [0, 1, 5, 7, 9]), (14, [0, 1, 5, 7, 9, 69]), (15, [0, 1, 5, 7, 9]), (16, [0, 1, 5, 7, 9, 118]), (17, [4]), (18, [4]), (1000000, [4])], ord := lk (false, []) [(12, (true, [(0, 1), (1, 1), (2, 1), (3, 1), (4, 0), (5, 2), (6, 2), (7, 1), (8, 2), (9, 4), (10, 1), (11, 1), (12, 4)])), (16, (true, [(0, 1), (1, 1), (2, 1), (3, 1), (4, 1), (5, 0), (6, 3), (7, 1), (8, 1), (9, 1), (11, 1), (12, 1), (13, 1), (14, 0), (10, 2), (15, 1), (16, 1), (17, 1), (18, 1), (20, 1), (19, 3), (21, 1), (22, 1), (23, 1), (24, 1), (26, 1), (27, 1), (28, 1), (29, 0), (25, 2), (30, 1), (31, 1), (32, 1), (33, 1), (35, 1), (36, 1), (37, 1), (38, 0), (34, 2), (39, 1), (40, 1), (41, 1), (42, 1), (43, 1), (44, 4), (45, 1), (46, 1)]))] }
@[go_sem] theorem c6_i0 : c6.li 0 = [0, 1] := rfl
@[go_sem] theorem c6_i1 : c6.li 1 = [0, 1] := rfl
@[go_sem] theorem c6_i2 : c6.li 2 = [] := rfl
@[go_sem] theorem c6_i3 : c6.li 3 = [0, 1] := rfl
@[go_sem] theorem c6_i4 : c6.li 4 = [0, 1, 5, 6] := rfl
@[go_sem] theorem c6_i5 : c6.li 5 = [5, 6] := rfl
@[go_sem] theorem c6_i6 : c6.li 6 = [0, 1, 5, 6] := rfl
@[go_sem] theorem c6_i7 : c6.li 7 = [] := rfl
@[go_sem] theorem c6_i8 : c6.li 8 = [0, 1, 5] := rfl
@[go_sem] theorem c6_i9 : c6.li 9 = [0, 1, 5, 7] := rfl
@[go_sem] theorem c6_i10 : c6.li 10 = [0, 1, 5, 7, 8] := rfl
@[go_sem] theorem c6_i11 : c6.li 11 = [0, 1, 5, 7, 8] := rfl
@[go_sem] theorem c6_i12 : c6.li 12 = [0, 1, 5, 7, 8] := rfl
@[go_sem] theorem c6_i13 : c6.li 13 = [0, 1, 5, 7] := rfl
@[go_sem] theorem c6_i14 : c6.li 14 = [0, 1, 5, 7, 9] := rfl
@[go_sem] theorem c6_i15 : c6.li 15 = [0, 1, 5, 7, 9] := rfl
@[go_sem] theorem c6_i16 : c6.li 16 = [0, 1, 5, 7, 9] := rfl
@[go_sem] theorem c6_i17 : c6.li 17 = [] := rfl
@[go_sem] theorem c6_i18 : c6.li 18 = [] := rfl
@[go_sem] theorem c6_r0 (sectors0 : Int) (script1p : Option Addr) (script1n script1c : Nat) (K : Env → W) : RP c6 0 [(0, .int .i64 sectors0), (1, .slice script1p script1n script1c)] K =
    (K [(0, .int .i64 sectors0), (1, .slice script1p script1n script1c)]) := by kernel_rfl
@[go_sem] theorem c6_r1 (sectors0 : Int) (script1p : Option Addr) (script1n script1c : Nat) (K : Env → W) : RP c6 1 [(0, .int .i64 sectors0), (1, .slice script1p script1n script1c)] K =
    (cnd ((decide ((100 : Int) < sectors0))) (K [(0, .int .i64 sectors0), (1, .slice script1p script1n script1c), (15, .bool ((decide (sectors0 ≤ (8192 : Int)))))]) (K [(0, .int .i64 sectors0), (1, .slice script1p script1n script1c), (15, .bool false)])) := by kernel_rfl
@[go_sem] theorem c6_r2 (K : Env → W) : RP c6 2 [] K =
    (cal eB Try.prog 24 #[] fun (y1_ : Bool) => (K [(4, .bool y1_)])) := by kernel_rfl
@[go_sem] theorem c6_r3 (sectors0 : Int) (script1p : Option Addr) (script1n script1c : Nat) (K : Env → W) : RP c6 3 [(0, .int .i64 sectors0), (1, .slice script1p script1n script1c)] K =
    (cal (eT2 eP eI) Try.prog 25 #[.int .i64 sectors0] fun (y1_ : ((Option Addr) × Int)) => (K [(0, .int .i64 sectors0), (1, .slice script1p script1n script1c), (5, .pointer y1_.1), (6, .int .i64 y1_.2)])) := by kernel_rfl
@[go_sem] theorem c6_r4 (sectors0 : Int) (script1p : Option Addr) (script1n script1c : Nat) (d5 : Option Addr) (e6 : Int) (K : Env → W) : RP c6 4 [(0, .int .i64 sectors0), (1, .slice script1p script1n script1c), (5, .pointer d5), (6, .int .i64 e6)] K =
    (cnd ((decide (sectors0 < (1 : Int)))) (K [(0, .int .i64 sectors0), (1, .slice script1p script1n script1c), (5, .pointer d5), (6, .int .i64 e6), (27, .bool true)]) (K [(0, .int .i64 sectors0), (1, .slice script1p script1n script1c), (5, .pointer d5), (6, .int .i64 e6), (27, .bool ((decide ((8192 : Int) < sectors0))))])) := by kernel_rfl
@[go_sem] theorem c6_r5 (d5 : Option Addr) (e6 : Int) (K : Env → W) : RP c6 5 [(5, .pointer d5), (6, .int .i64 e6)] K =
    (cnd ((d5).isNone) (cnd ((e6 == (1 : Int))) (cal eB Try.prog 24 #[] fun (y1_ : Bool) => (K [(4, .bool y1_)])) (K [(4, .bool false)])) (K [(4, .bool false)])) := by kernel_rfl
@[go_sem] theorem c6_r6 (sectors0 : Int) (script1p : Option Addr) (script1n script1c : Nat) (d5 : Option Addr) (e6 : Int) (K : Env → W) : RP c6 6 [(0, .int .i64 sectors0), (1, .slice script1p script1n script1c), (5, .pointer d5), (6, .int .i64 e6)] K =
    (cnd ((e6 != (0 : Int))) (K [(0, .int .i64 sectors0), (1, .slice script1p script1n script1c), (5, .pointer d5), (42, .bool true)]) (K [(0, .int .i64 sectors0), (1, .slice script1p script1n script1c), (5, .pointer d5), (42, .bool ((d5).isNone))])) := by kernel_rfl
@[go_sem] theorem c6_r7 (K : Env → W) : RP c6 7 [] K =
    (K [(4, .bool false)]) := by kernel_rfl
@[go_sem] theorem c6_r8 (sectors0 : Int) (script1p : Option Addr) (script1n script1c : Nat) (d5 : Option Addr) (K : Env → W) : RP c6 8 [(0, .int .i64 sectors0), (1, .slice script1p script1n script1c), (5, .pointer d5)] K =
    (nwc #[.slice ((((⟨(none, 0, 0), false, false, (0 : Int), (0 : Int), (0 : Int), (0 : Int)⟩ : gharrylaw03_plain)).l).1) ((((⟨(none, 0, 0), false, false, (0 : Int), (0 : Int), (0 : Int), (0 : Int)⟩ : gharrylaw03_plain)).l).2.1) ((((⟨(none, 0, 0), false, false, (0 : Int), (0 : Int), (0 : Int), (0 : Int)⟩ : gharrylaw03_plain)).l).2.2), .bool (((⟨(none, 0, 0), false, false, (0 : Int), (0 : Int), (0 : Int), (0 : Int)⟩ : gharrylaw03_plain)).down), .bool (((⟨(none, 0, 0), false, false, (0 : Int), (0 : Int), (0 : Int), (0 : Int)⟩ : gharrylaw03_plain)).armed), .int .i64 (((⟨(none, 0, 0), false, false, (0 : Int), (0 : Int), (0 : Int), (0 : Int)⟩ : gharrylaw03_plain)).left), .int .u64 (((⟨(none, 0, 0), false, false, (0 : Int), (0 : Int), (0 : Int), (0 : Int)⟩ : gharrylaw03_plain)).keep), .int .i64 (((⟨(none, 0, 0), false, false, (0 : Int), (0 : Int), (0 : Int), (0 : Int)⟩ : gharrylaw03_plain)).acts), .int .i64 (((⟨(none, 0, 0), false, false, (0 : Int), (0 : Int), (0 : Int), (0 : Int)⟩ : gharrylaw03_plain)).downs)] 49 fun y1_ => (K [(0, .int .i64 sectors0), (1, .slice script1p script1n script1c), (5, .pointer d5), (7, .pointer (some y1_))])) := by kernel_rfl
@[go_sem] theorem c6_r9 (sectors0 : Int) (script1p : Option Addr) (script1n script1c : Nat) (d5 : Option Addr) (p7 : Addr) (K : Env → W) : RP c6 9 [(0, .int .i64 sectors0), (1, .slice script1p script1n script1c), (5, .pointer d5), (7, .pointer (some p7))] K =
    (K [(0, .int .i64 sectors0), (1, .slice script1p script1n script1c), (5, .pointer d5), (7, .pointer (some p7)), (8, .int .i64 ((0 : Int)))]) := by kernel_rfl
@[go_sem] theorem c6_r10 (sectors0 : Int) (script1p : Option Addr) (script1n script1c : Nat) (d5 : Option Addr) (p7 : Addr) (i8 : Int) (K : Env → W) : RP c6 10 [(0, .int .i64 sectors0), (1, .slice script1p script1n script1c), (5, .pointer d5), (7, .pointer (some p7)), (8, .int .i64 i8)] K =
    (K [(0, .int .i64 sectors0), (1, .slice script1p script1n script1c), (5, .pointer d5), (7, .pointer (some p7)), (8, .int .i64 i8), (47, .bool ((decide (i8 < sectors0))))]) := by kernel_rfl
@[go_sem] theorem c6_r11 (sectors0 : Int) (script1p : Option Addr) (script1n script1c : Nat) (d5 : Option Addr) (p7 : Addr) (i8 : Int) (K : Env → W) : RP c6 11 [(0, .int .i64 sectors0), (1, .slice script1p script1n script1c), (5, .pointer d5), (7, .pointer (some p7)), (8, .int .i64 i8)] K =
    (K [(0, .int .i64 sectors0), (1, .slice script1p script1n script1c), (5, .pointer d5), (7, .pointer (some p7)), (8, .int .i64 ((IntKind.wrap .i64 (i8 + (1 : Int)))))]) := by kernel_rfl
@[go_sem] theorem c6_r12 (sectors0 : Int) (script1p : Option Addr) (script1n script1c : Nat) (d5 : Option Addr) (p7 : Addr) (i8 : Int) (K : Env → W) : RP c6 12 [(0, .int .i64 sectors0), (1, .slice script1p script1n script1c), (5, .pointer d5), (7, .pointer (some p7)), (8, .int .i64 i8)] K =
    (ph fun S0 => (ldq S0 eSl p7 fun (y1_ : (Option Addr × Nat × Nat)) => (cal eS Try.prog 32 #[str (([] : List UInt8))] fun (y2_ : List UInt8) => (kpn S0 fun S1 => (cal eS Try.prog 32 #[str (([] : List UInt8))] fun (y3_ : List UInt8) => (kpn S1 fun S2 => (nwc #[str (((⟨y2_, y3_, false⟩ : gharrylaw03_sector)).sure), str (((⟨y2_, y3_, false⟩ : gharrylaw03_sector)).now), .bool (((⟨y2_, y3_, false⟩ : gharrylaw03_sector)).waits)] 51 fun y4_ => (kpn S2 fun S3 => (val eSl Try.prog (oB_append #[47, 47] 47 #[.slice y1_.1 y1_.2.1 y1_.2.2, .slice ((some y4_)) 1 1]) fun (y5_ : (Option Addr × Nat × Nat)) => (st p7 (.slice y5_.1 y5_.2.1 y5_.2.2) (K [(0, .int .i64 sectors0), (1, .slice script1p script1n script1c), (5, .pointer d5), (7, .pointer (some p7)), (8, .int .i64 i8)]))))))))))) := by kernel_rfl
@[go_sem] theorem c6_r13 (sectors0 : Int) (script1p : Option Addr) (script1n script1c : Nat) (d5 : Option Addr) (p7 : Addr) (K : Env → W) : RP c6 13 [(0, .int .i64 sectors0), (1, .slice script1p script1n script1c), (5, .pointer d5), (7, .pointer (some p7))] K =
    (K [(0, .int .i64 sectors0), (1, .slice script1p script1n script1c), (5, .pointer d5), (7, .pointer (some p7)), (9, .int .i64 ((0 : Int)))]) := by kernel_rfl
@[go_sem] theorem c6_r14 (sectors0 : Int) (script1p : Option Addr) (script1n script1c : Nat) (d5 : Option Addr) (p7 : Addr) (i9 : Int) (K : Env → W) : RP c6 14 [(0, .int .i64 sectors0), (1, .slice script1p script1n script1c), (5, .pointer d5), (7, .pointer (some p7)), (9, .int .i64 i9)] K =
    (cnd ((decide (i9 < (script1n : Int)))) (K [(0, .int .i64 sectors0), (1, .slice script1p script1n script1c), (5, .pointer d5), (7, .pointer (some p7)), (9, .int .i64 i9), (69, .bool ((decide (i9 < (80 : Int)))))]) (K [(0, .int .i64 sectors0), (1, .slice script1p script1n script1c), (5, .pointer d5), (7, .pointer (some p7)), (9, .int .i64 i9), (69, .bool false)])) := by kernel_rfl
@[go_sem] theorem c6_r15 (sectors0 : Int) (script1p : Option Addr) (script1n script1c : Nat) (d5 : Option Addr) (p7 : Addr) (i9 : Int) (K : Env → W) : RP c6 15 [(0, .int .i64 sectors0), (1, .slice script1p script1n script1c), (5, .pointer d5), (7, .pointer (some p7)), (9, .int .i64 i9)] K =
    (K [(0, .int .i64 sectors0), (1, .slice script1p script1n script1c), (5, .pointer d5), (7, .pointer (some p7)), (9, .int .i64 ((IntKind.wrap .i64 (i9 + (1 : Int)))))]) := by kernel_rfl
@[go_sem] theorem c6_r16 (sectors0 : Int) (script1p : Option Addr) (script1n script1c : Nat) (d5 : Option Addr) (p7 : Addr) (i9 : Int) (K : Env → W) : RP c6 16 [(0, .int .i64 sectors0), (1, .slice script1p script1n script1c), (5, .pointer d5), (7, .pointer (some p7)), (9, .int .i64 i9)] K =
    (ph fun S0 => (rq (0 ≤ i9 ∧ i9 < (script1n : Int)) (nn script1p fun y1_ => (ldnq S0 e_gharrylaw03_Op 4 ((Addr.add y1_ ((i9).toNat * 4))) fun (y2_ : gharrylaw03_Op) => (cal eB Try.prog 36 #[.pointer d5, .pointer (some p7), v_gharrylaw03_Op y2_] fun (y3_ : Bool) => (ph fun S1 => (cnd ((!y3_)) (kpn S1 fun S2 => (ph fun S3 => (kpn S3 fun S4 => (kpn S4 fun S5 => (K [(0, .int .i64 sectors0), (1, .slice script1p script1n script1c), (5, .pointer d5), (7, .pointer (some p7)), (9, .int .i64 i9), (118, .bool true)]))))) (ldq S1 eB ((p7.add 1)) fun (y4_ : Bool) => (cal eB Try.prog 37 #[.pointer d5] fun (y5_ : Bool) => (kpn S1 fun S6 => (cnd ((y5_ == y4_)) (ph fun S7 => (kpn S7 fun S8 => (kpn S8 fun S9 => (K [(0, .int .i64 sectors0), (1, .slice script1p script1n script1c), (5, .pointer d5), (7, .pointer (some p7)), (9, .int .i64 i9), (118, .bool true)])))) (cal eI Try.prog 26 #[.pointer d5] fun (y6_ : Int) => (ph fun S10 => (cnd ((y6_ != sectors0)) (kpn S10 fun S11 => (kpn S11 fun S12 => (K [(0, .int .i64 sectors0), (1, .slice script1p script1n script1c), (5, .pointer d5), (7, .pointer (some p7)), (9, .int .i64 i9), (118, .bool true)]))) (ldq S10 eI ((p7.add 5)) fun (y7_ : Int) => (cal eI Try.prog 38 #[.pointer d5] fun (y8_ : Int) => (kpn S10 fun S13 => (cnd ((y8_ != y7_)) (kpn S13 fun S14 => (K [(0, .int .i64 sectors0), (1, .slice script1p script1n script1c), (5, .pointer d5), (7, .pointer (some p7)), (9, .int .i64 i9), (118, .bool true)])) (ldq S13 eI ((p7.add 6)) fun (y9_ : Int) => (cal eI Try.prog 39 #[.pointer d5] fun (y10_ : Int) => (kpn S13 fun S15 => (cnd ((y10_ != y9_)) (K [(0, .int .i64 sectors0), (1, .slice script1p script1n script1c), (5, .pointer d5), (7, .pointer (some p7)), (9, .int .i64 i9), (118, .bool true)]) (cal eB Try.prog 40 #[.pointer d5, .pointer (some p7)] fun (y11_ : Bool) => (K [(0, .int .i64 sectors0), (1, .slice script1p script1n script1c), (5, .pointer d5), (7, .pointer (some p7)), (9, .int .i64 i9), (118, .bool ((!y11_)))])))))))))))))))))))))))) := by kernel_rfl
@[go_sem] theorem c6_r17 (K : Env → W) : RP c6 17 [] K =
    (K [(4, .bool false)]) := by kernel_rfl
@[go_sem] theorem c6_r18 (K : Env → W) : RP c6 18 [] K =
    (cal eB Try.prog 24 #[] fun (y1_ : Bool) => (K [(4, .bool y1_)])) := by kernel_rfl
@[go_sem] theorem c6_o : c6.lo 1000000 = [4] := rfl
@[go_sem] theorem c6_e (t4 : Bool) (k : Value → W) : RTp c6 [(4, .bool t4)] k = (k (.bool t4)) := by kernel_rfl
theorem c6_ok : (c6.P.follows .mixedOrders && okc c6 c6.body) = true := by kernel_rfl
theorem c6_fn {e : Enc} {args : Array Value} {G : e.α → W} {L : List HP} {ρ : Env} (hρ : envA 0 args.toList = ρ) (hs : Nat.ble args.size 120 = true) (h : E L (D c6 (.seq (.reg 0) (.seq (.seq (.reg 1) (.cond (.tmp 15) (.seq (.reg 2) (.ret)) (.skip))) (.seq (.reg 3) (.seq (.seq (.reg 4) (.cond (.tmp 27) (.seq (.reg 5) (.ret)) (.skip))) (.seq (.seq (.reg 6) (.cond (.tmp 42) (.seq (.reg 7) (.ret)) (.skip))) (.seq (.reg 8) (.seq (.seq (.reg 9) (.block 0 (.loop (.seq (.seq (.reg 10) (.cond (.tmp 47) (.skip) (.exit 0))) (.seq (.block 1 (.reg 12)) (.reg 11)))))) (.seq (.seq (.reg 13) (.block 2 (.loop (.seq (.seq (.reg 14) (.cond (.tmp 69) (.skip) (.exit 2))) (.seq (.block 3 (.seq (.reg 16) (.cond (.tmp 118) (.seq (.reg 17) (.ret)) (.skip)))) (.reg 15)))))) (.seq (.reg 18) (.ret)))))))))) (fnQ c6 e G) ρ)) : E L (cal e Try.prog 6 args G) :=
  d_fn (c := c6) Try.func6 (by kernel_rfl) (by kernel_rfl) (by kernel_rfl) c6_ok (by kernel_rfl) (by kernel_rfl) hρ hs h
-- loop (first region 14): live slots 0:sectors0 1:script1 5:d5 7:p7 9:i9, of which it writes [9]
-- loop (first region 10): live slots 0:sectors0 1:script1 5:d5 7:p7 8:i8, of which it writes [8]
/-! gharry.gharrylaw03.DiskNobody -/
noncomputable def c7 : Cfg := { P := Try.prog, n := 106, T := TT, body := (Try.f7.body).getD .skip, res := Try.f7.results.toList, li := lk [] [(0, [0, 1, 2]), (1, [0, 1, 2]), (2, [0, 1, 2, 7]), (3, [0, 1, 2, 7, 8]), (4, [0, 1, 2, 7, 8]), (5, [0, 1, 2, 7, 8]), (6, [0, 1, 2, 7, 8, 9, 10]), (7, [0, 1, 2, 7, 8, 9, 10, 11, 12])], lo := lk [] [(0, [0, 1, 2]), (1, [0, 1, 2, 7]), (2, [0, 1, 2, 7, 8]), (3, [0, 1, 2, 7, 8]), (4, [0, 1, 2, 7, 8]), (5, [0, 1, 2, 7, 8, 9, 10]), (6, [0, 1, 2, 7, 8, 9, 10, 11, 12]), (7, [6]), (1000000, [6])], ord := lk (false, []) [] }
@[go_sem] theorem c7_i0 : c7.li 0 = [0, 1, 2] := rfl
@[go_sem] theorem c7_i1 : c7.li 1 = [0, 1, 2] := rfl
@[go_sem] theorem c7_i2 : c7.li 2 = [0, 1, 2, 7] := rfl
@[go_sem] theorem c7_i3 : c7.li 3 = [0, 1, 2, 7, 8] := rfl
@[go_sem] theorem c7_i4 : c7.li 4 = [0, 1, 2, 7, 8] := rfl
@[go_sem] theorem c7_i5 : c7.li 5 = [0, 1, 2, 7, 8] := rfl
@[go_sem] theorem c7_i6 : c7.li 6 = [0, 1, 2, 7, 8, 9, 10] := rfl
@[go_sem] theorem c7_i7 : c7.li 7 = [0, 1, 2, 7, 8, 9, 10, 11, 12] := rfl
@[go_sem] theorem c7_r0 (i0 : Int) (s1 : List UInt8) (keep2 : Int) (K : Env → W) : RP c7 0 [(0, .int .i64 i0), (1, str s1), (2, .int .u64 keep2)] K =
    (K [(0, .int .i64 i0), (1, str s1), (2, .int .u64 keep2)]) := by kernel_rfl
@[go_sem] theorem c7_r1 (i0 : Int) (s1 : List UInt8) (keep2 : Int) (K : Env → W) : RP c7 1 [(0, .int .i64 i0), (1, str s1), (2, .int .u64 keep2)] K =
    (K [(0, .int .i64 i0), (1, str s1), (2, .int .u64 keep2), (7, .pointer none)]) := by kernel_rfl
@[go_sem] theorem c7_r2 (i0 : Int) (s1 : List UInt8) (keep2 : Int) (d7 : Option Addr) (K : Env → W) : RP c7 2 [(0, .int .i64 i0), (1, str s1), (2, .int .u64 keep2), (7, .pointer d7)] K =
    (nwc #[.slice none 0 0, .map none, .bool false, .int .i64 ((0 : Int)), .int .u64 ((0 : Int)), .int .i64 ((0 : Int)), .int .i64 ((0 : Int))] 59 fun y1_ => (K [(0, .int .i64 i0), (1, str s1), (2, .int .u64 keep2), (7, .pointer d7), (8, .pointer (some y1_))])) := by kernel_rfl
@[go_sem] theorem c7_r3 (i0 : Int) (s1 : List UInt8) (keep2 : Int) (d7 : Option Addr) (z8 : Addr) (K : Env → W) : RP c7 3 [(0, .int .i64 i0), (1, str s1), (2, .int .u64 keep2), (7, .pointer d7), (8, .pointer (some z8))] K =
    (cal eN Try.prog 41 #[.pointer d7] fun (y1_ : Unit) => (K [(0, .int .i64 i0), (1, str s1), (2, .int .u64 keep2), (7, .pointer d7), (8, .pointer (some z8))])) := by kernel_rfl
@[go_sem] theorem c7_r4 (i0 : Int) (s1 : List UInt8) (keep2 : Int) (d7 : Option Addr) (z8 : Addr) (K : Env → W) : RP c7 4 [(0, .int .i64 i0), (1, str s1), (2, .int .u64 keep2), (7, .pointer d7), (8, .pointer (some z8))] K =
    (cal eN Try.prog 41 #[.pointer (some z8)] fun (y1_ : Unit) => (K [(0, .int .i64 i0), (1, str s1), (2, .int .u64 keep2), (7, .pointer d7), (8, .pointer (some z8))])) := by kernel_rfl
@[go_sem] theorem c7_r5 (i0 : Int) (s1 : List UInt8) (keep2 : Int) (d7 : Option Addr) (z8 : Addr) (K : Env → W) : RP c7 5 [(0, .int .i64 i0), (1, str s1), (2, .int .u64 keep2), (7, .pointer d7), (8, .pointer (some z8))] K =
    (cal (eT2 eS eI) Try.prog 31 #[.pointer d7, .int .i64 i0] fun (y1_ : ((List UInt8) × Int)) => (K [(0, .int .i64 i0), (1, str s1), (2, .int .u64 keep2), (7, .pointer d7), (8, .pointer (some z8)), (9, str y1_.1), (10, .int .i64 y1_.2)])) := by kernel_rfl
@[go_sem] theorem c7_r6 (i0 : Int) (s1 : List UInt8) (keep2 : Int) (d7 : Option Addr) (z8 : Addr) (a9 : List UInt8) (e10 : Int) (K : Env → W) : RP c7 6 [(0, .int .i64 i0), (1, str s1), (2, .int .u64 keep2), (7, .pointer d7), (8, .pointer (some z8)), (9, str a9), (10, .int .i64 e10)] K =
    (cal (eT2 eS eI) Try.prog 31 #[.pointer (some z8), .int .i64 i0] fun (y1_ : ((List UInt8) × Int)) => (K [(0, .int .i64 i0), (1, str s1), (2, .int .u64 keep2), (7, .pointer d7), (8, .pointer (some z8)), (9, str a9), (10, .int .i64 e10), (11, str y1_.1), (12, .int .i64 y1_.2)])) := by kernel_rfl
@[go_sem] theorem c7_r7 (i0 : Int) (s1 : List UInt8) (keep2 : Int) (d7 : Option Addr) (z8 : Addr) (a9 : List UInt8) (e10 : Int) (b11 : List UInt8) (f12 : Int) (K : Env → W) : RP c7 7 [(0, .int .i64 i0), (1, str s1), (2, .int .u64 keep2), (7, .pointer d7), (8, .pointer (some z8)), (9, str a9), (10, .int .i64 e10), (11, str b11), (12, .int .i64 f12)] K =
    (cnd ((a9 == ([] : List UInt8))) (cnd ((e10 == (11 : Int))) (cnd ((b11 == ([] : List UInt8))) (cnd ((f12 == (11 : Int))) (cal eI Try.prog 27 #[.pointer d7, .int .i64 i0, str s1] fun (y1_ : Int) => (cnd ((y1_ == (11 : Int))) (cal eI Try.prog 27 #[.pointer (some z8), .int .i64 i0, str s1] fun (y2_ : Int) => (cnd ((y2_ == (11 : Int))) (cal eI Try.prog 28 #[.pointer d7] fun (y3_ : Int) => (cnd ((y3_ == (11 : Int))) (cal eI Try.prog 29 #[.pointer (some z8), .int .u64 keep2] fun (y4_ : Int) => (cnd ((y4_ == (11 : Int))) (cal eI Try.prog 42 #[.pointer d7, .int .i64 i0, .int .u64 keep2] fun (y5_ : Int) => (cnd ((y5_ == (11 : Int))) (cal eI Try.prog 30 #[.pointer (some z8)] fun (y6_ : Int) => (cnd ((y6_ == (11 : Int))) (cal eB Try.prog 37 #[.pointer d7] fun (y7_ : Bool) => (cnd ((!y7_)) (cal eB Try.prog 37 #[.pointer (some z8)] fun (y8_ : Bool) => (cnd ((!y8_)) (cal eI Try.prog 26 #[.pointer d7] fun (y9_ : Int) => (cal eI Try.prog 26 #[.pointer (some z8)] fun (y10_ : Int) => (cal eI Try.prog 38 #[.pointer d7] fun (y11_ : Int) => (cal eI Try.prog 39 #[.pointer (some z8)] fun (y12_ : Int) => (cal eSl Try.prog 43 #[.pointer d7] fun (y13_ : (Option Addr × Nat × Nat)) => (cal eSl Try.prog 43 #[.pointer (some z8)] fun (y14_ : (Option Addr × Nat × Nat)) => (cnd (((IntKind.wrap .i64 ((IntKind.wrap .i64 ((IntKind.wrap .i64 ((IntKind.wrap .i64 ((IntKind.wrap .i64 (y9_ + y10_)) + y11_)) + y12_)) + (y13_.2.1 : Int))) + (y14_.2.1 : Int))) == (0 : Int))) (cal eB Try.prog 24 #[] fun (y15_ : Bool) => (K [(6, .bool y15_)])) (K [(6, .bool false)])))))))) (K [(6, .bool false)]))) (K [(6, .bool false)]))) (K [(6, .bool false)]))) (K [(6, .bool false)]))) (K [(6, .bool false)]))) (K [(6, .bool false)]))) (K [(6, .bool false)]))) (K [(6, .bool false)]))) (K [(6, .bool false)])) (K [(6, .bool false)])) (K [(6, .bool false)])) (K [(6, .bool false)])) := by kernel_rfl
@[go_sem] theorem c7_o : c7.lo 1000000 = [6] := rfl
@[go_sem] theorem c7_e (t6 : Bool) (k : Value → W) : RTp c7 [(6, .bool t6)] k = (k (.bool t6)) := by kernel_rfl
theorem c7_ok : (c7.P.follows .mixedOrders && okc c7 c7.body) = true := by kernel_rfl
theorem c7_fn {e : Enc} {args : Array Value} {G : e.α → W} {L : List HP} {ρ : Env} (hρ : envA 0 args.toList = ρ) (hs : Nat.ble args.size 106 = true) (h : E L (D c7 (.seq (.reg 0) (.seq (.reg 1) (.seq (.reg 2) (.seq (.reg 3) (.seq (.reg 4) (.seq (.reg 5) (.seq (.reg 6) (.seq (.reg 7) (.ret))))))))) (fnQ c7 e G) ρ)) : E L (cal e Try.prog 7 args G) :=
  d_fn (c := c7) Try.func7 (by kernel_rfl) (by kernel_rfl) (by kernel_rfl) c7_ok (by kernel_rfl) (by kernel_rfl) hρ hs h
/-! gharry.gharrylaw03.awake -/
noncomputable def c24 : Cfg := { P := Try.prog, n := 63, T := TT, body := (Try.f24.body).getD .skip, res := Try.f24.results.toList, li := lk [] [(0, []), (1, []), (2, [1, 2]), (3, []), (4, [1]), (5, [1, 3, 4])], lo := lk [] [(0, []), (1, [1, 2]), (2, [1, 29]), (3, [0]), (4, [1, 3, 4]), (5, [0]), (1000000, [0])], ord := lk (false, []) [] }
@[go_sem] theorem c24_i0 : c24.li 0 = [] := rfl
@[go_sem] theorem c24_i1 : c24.li 1 = [] := rfl
@[go_sem] theorem c24_i2 : c24.li 2 = [1, 2] := rfl
@[go_sem] theorem c24_i3 : c24.li 3 = [] := rfl
@[go_sem] theorem c24_i4 : c24.li 4 = [1] := rfl
@[go_sem] theorem c24_i5 : c24.li 5 = [1, 3, 4] := rfl
@[go_sem] theorem c24_r0 (K : Env → W) : RP c24 0 [] K =
    (K []) := by kernel_rfl
@[go_sem] theorem c24_r1 (K : Env → W) : RP c24 1 [] K =
    (cal (eT2 eP eI) Try.prog 25 #[.int .i64 ((2 : Int))] fun (y1_ : ((Option Addr) × Int)) => (K [(1, .pointer y1_.1), (2, .int .i64 y1_.2)])) := by kernel_rfl
@[go_sem] theorem c24_r2 (d1 : Option Addr) (e2 : Int) (K : Env → W) : RP c24 2 [(1, .pointer d1), (2, .int .i64 e2)] K =
    (cnd ((e2 != (0 : Int))) (K [(1, .pointer d1), (29, .bool true)]) (cnd ((d1).isNone) (K [(1, .pointer d1), (29, .bool true)]) (cal eI Try.prog 27 #[.pointer d1, .int .i64 ((0 : Int)), str (([97] : List UInt8))] fun (y1_ : Int) => (cnd ((y1_ != (0 : Int))) (K [(1, .pointer d1), (29, .bool true)]) (cal eI Try.prog 29 #[.pointer d1, .int .u64 ((0 : Int))] fun (y2_ : Int) => (cnd ((y2_ != (0 : Int))) (K [(1, .pointer d1), (29, .bool true)]) (cal eI Try.prog 30 #[.pointer d1] fun (y3_ : Int) => (K [(1, .pointer d1), (29, .bool ((y3_ != (0 : Int))))])))))))) := by kernel_rfl
@[go_sem] theorem c24_r3 (K : Env → W) : RP c24 3 [] K =
    (K [(0, .bool false)]) := by kernel_rfl
@[go_sem] theorem c24_r4 (d1 : Option Addr) (K : Env → W) : RP c24 4 [(1, .pointer d1)] K =
    (cal (eT2 eS eI) Try.prog 31 #[.pointer d1, .int .i64 ((0 : Int))] fun (y1_ : ((List UInt8) × Int)) => (K [(1, .pointer d1), (3, str y1_.1), (4, .int .i64 y1_.2)])) := by kernel_rfl
@[go_sem] theorem c24_r5 (d1 : Option Addr) (s3 : List UInt8) (f4 : Int) (K : Env → W) : RP c24 5 [(1, .pointer d1), (3, str s3), (4, .int .i64 f4)] K =
    (cnd ((f4 == (0 : Int))) (cal eS Try.prog 32 #[str (([] : List UInt8))] fun (y1_ : List UInt8) => (cnd ((s3 == y1_)) (cal eI Try.prog 27 #[.pointer d1, .int .i64 ((0 : Int)), str (([97] : List UInt8))] fun (y2_ : Int) => (cnd ((y2_ == (0 : Int))) (cal eI Try.prog 29 #[.pointer d1, .int .u64 ((1 : Int))] fun (y3_ : Int) => (cnd ((y3_ == (0 : Int))) (cal eI Try.prog 30 #[.pointer d1] fun (y4_ : Int) => (cnd ((y4_ == (0 : Int))) (cal eS Try.prog 65 #[.pointer d1] fun (y5_ : List UInt8) => (cal eS Try.prog 32 #[str (([97] : List UInt8))] fun (y6_ : List UInt8) => (K [(0, .bool ((y5_ == y6_)))]))) (K [(0, .bool false)]))) (K [(0, .bool false)]))) (K [(0, .bool false)]))) (K [(0, .bool false)]))) (K [(0, .bool false)])) := by kernel_rfl
@[go_sem] theorem c24_o : c24.lo 1000000 = [0] := rfl
@[go_sem] theorem c24_e (t0 : Bool) (k : Value → W) : RTp c24 [(0, .bool t0)] k = (k (.bool t0)) := by kernel_rfl
theorem c24_ok : (c24.P.follows .mixedOrders && okc c24 c24.body) = true := by kernel_rfl
theorem c24_fn {e : Enc} {args : Array Value} {G : e.α → W} {L : List HP} {ρ : Env} (hρ : envA 0 args.toList = ρ) (hs : Nat.ble args.size 63 = true) (h : E L (D c24 (.seq (.reg 0) (.seq (.reg 1) (.seq (.seq (.reg 2) (.cond (.tmp 29) (.seq (.reg 3) (.ret)) (.skip))) (.seq (.reg 4) (.seq (.reg 5) (.ret)))))) (fnQ c24 e G) ρ)) : E L (cal e Try.prog 24 args G) :=
  d_fn (c := c24) Try.func24 (by kernel_rfl) (by kernel_rfl) (by kernel_rfl) c24_ok (by kernel_rfl) (by kernel_rfl) hρ hs h
/-! gharry.gharrylaw03.whole -/
noncomputable def c32 : Cfg := { P := Try.prog, n := 9, T := TT, body := (Try.f32.body).getD .skip, res := Try.f32.results.toList, li := lk [] [(0, [0]), (1, [0]), (2, [0]), (3, [0])], lo := lk [] [(0, [0]), (1, [0, 5]), (2, [0]), (3, [2]), (1000000, [2])], ord := lk (false, []) [] }
@[go_sem] theorem c32_i0 : c32.li 0 = [0] := rfl
@[go_sem] theorem c32_i1 : c32.li 1 = [0] := rfl
@[go_sem] theorem c32_i2 : c32.li 2 = [0] := rfl
@[go_sem] theorem c32_i3 : c32.li 3 = [0] := rfl
@[go_sem] theorem c32_r0 (s0 : List UInt8) (K : Env → W) : RP c32 0 [(0, str s0)] K =
    (K [(0, str s0)]) := by kernel_rfl
@[go_sem] theorem c32_r1 (s0 : List UInt8) (K : Env → W) : RP c32 1 [(0, str s0)] K =
    (K [(0, str s0), (5, .bool ((decide (((s0).length : Int) < (64 : Int)))))]) := by kernel_rfl
@[go_sem] theorem c32_r2 (s0 : List UInt8) (K : Env → W) : RP c32 2 [(0, str s0)] K =
    (rq (((s0).length : Int) + ((([0] : List UInt8)).length : Int) ≤ 9223372036854775807) (K [(0, str ((s0 ++ ([0] : List UInt8))))])) := by kernel_rfl
@[go_sem] theorem c32_r3 (s0 : List UInt8) (K : Env → W) : RP c32 3 [(0, str s0)] K =
    (K [(2, str s0)]) := by kernel_rfl
@[go_sem] theorem c32_o : c32.lo 1000000 = [2] := rfl
@[go_sem] theorem c32_e (t2 : List UInt8) (k : Value → W) : RTp c32 [(2, str t2)] k = (k (str t2)) := by kernel_rfl
theorem c32_ok : (c32.P.follows .mixedOrders && okc c32 c32.body) = true := by kernel_rfl
theorem c32_fn {e : Enc} {args : Array Value} {G : e.α → W} {L : List HP} {ρ : Env} (hρ : envA 0 args.toList = ρ) (hs : Nat.ble args.size 9 = true) (h : E L (D c32 (.seq (.reg 0) (.seq (.block 0 (.loop (.seq (.seq (.reg 1) (.cond (.tmp 5) (.skip) (.exit 0))) (.block 1 (.reg 2))))) (.seq (.reg 3) (.ret)))) (fnQ c32 e G) ρ)) : E L (cal e Try.prog 32 args G) :=
  d_fn (c := c32) Try.func32 (by kernel_rfl) (by kernel_rfl) (by kernel_rfl) c32_ok (by kernel_rfl) (by kernel_rfl) hρ hs h
-- loop (first region 1): live slots 0:s0, of which it writes [0]
/-! gharry.gharrylaw03.step -/
noncomputable def c36 : Cfg := { P := Try.prog, n := 170, T := TT, body := (Try.f36.body).getD .skip, res := Try.f36.results.toList, li := lk [] [(0, [0, 1, 2]), (1, [0, 1, 5]), (2, [0, 1]), (3, [0]), (4, [0, 1]), (5, [0]), (6, [0, 1, 5, 10]), (7, [0, 1, 5]), (8, [1, 5, 7, 8]), (9, [7, 8]), (10, [1, 5, 7, 8]), (11, [7, 8]), (12, [1, 5, 7, 8]), (13, [0, 1, 5, 10]), (14, [0, 1, 5]), (15, [0, 1, 5, 10]), (16, [0, 1]), (17, [0, 1, 5, 10]), (18, [0, 1, 5]), (19, [0, 5]), (20, [0, 1, 5]), (21, [0, 5]), (22, [0, 1, 5, 10]), (23, [0, 1, 5]), (24, [0, 5]), (25, [0, 1, 5]), (26, [0, 5]), (27, [0, 1, 5]), (28, [0, 1, 5]), (29, [0, 1, 5]), (30, [0, 5]), (31, [0, 1, 10]), (32, [0, 1]), (33, [0]), (34, [])], lo := lk [] [(0, [0, 1, 5]), (1, [0, 1, 5, 10]), (2, [0, 1, 15]), (3, [6]), (4, [0]), (5, [6]), (6, [0, 1, 5, 10, 25]), (7, [1, 5, 7, 8]), (8, [1, 5, 7, 8, 37]), (9, [6]), (10, [1, 5, 7, 8, 56]), (11, [6]), (12, [6]), (13, [0, 1, 5, 10, 78]), (14, [6]), (15, [0, 1, 5, 10, 93]), (16, [6]), (17, [0, 1, 5, 10, 100]), (18, [0, 1, 5, 105]), (19, [6]), (20, [0, 5]), (21, [6]), (22, [0, 1, 5, 10, 120]), (23, [0, 1, 5, 125]), (24, [6]), (25, [0, 1, 5, 135]), (26, [6]), (27, [0, 1, 5]), (28, [0, 1, 5]), (29, [0, 5]), (30, [6]), (31, [0, 1, 163]), (32, [0]), (33, []), (34, [6]), (1000000, [6])], ord := lk (false, []) [(10, (true, [(0, 1), (1, 0), (2, 1), (3, 1), (4, 1), (5, 0), (6, 1), (7, 1), (8, 1), (9, 0), (10, 1), (11, 1), (12, 1)])), (12, (true, [(0, 1), (1, 1), (2, 1), (3, 1), (4, 0), (5, 1), (6, 0), (7, 1), (8, 1), (9, 0), (10, 1), (11, 1), (12, 1), (13, 1), (14, 1), (15, 1)])), (14, (true, [(0, 1), (1, 1), (2, 0), (3, 1), (4, 0), (6, 1), (7, 1), (8, 0), (9, 1), (10, 0), (5, 2), (11, 4), (12, 1), (13, 1)]))] }
@[go_sem] theorem c36_i0 : c36.li 0 = [0, 1, 2] := rfl
@[go_sem] theorem c36_i1 : c36.li 1 = [0, 1, 5] := rfl
@[go_sem] theorem c36_i2 : c36.li 2 = [0, 1] := rfl
@[go_sem] theorem c36_i3 : c36.li 3 = [0] := rfl
@[go_sem] theorem c36_i4 : c36.li 4 = [0, 1] := rfl
@[go_sem] theorem c36_i5 : c36.li 5 = [0] := rfl
@[go_sem] theorem c36_i6 : c36.li 6 = [0, 1, 5, 10] := rfl
@[go_sem] theorem c36_i7 : c36.li 7 = [0, 1, 5] := rfl
@[go_sem] theorem c36_i8 : c36.li 8 = [1, 5, 7, 8] := rfl
@[go_sem] theorem c36_i9 : c36.li 9 = [7, 8] := rfl
@[go_sem] theorem c36_i10 : c36.li 10 = [1, 5, 7, 8] := rfl
@[go_sem] theorem c36_i11 : c36.li 11 = [7, 8] := rfl
@[go_sem] theorem c36_i12 : c36.li 12 = [1, 5, 7, 8] := rfl
@[go_sem] theorem c36_i13 : c36.li 13 = [0, 1, 5, 10] := rfl
@[go_sem] theorem c36_i14 : c36.li 14 = [0, 1, 5] := rfl
@[go_sem] theorem c36_i15 : c36.li 15 = [0, 1, 5, 10] := rfl
@[go_sem] theorem c36_i16 : c36.li 16 = [0, 1] := rfl
@[go_sem] theorem c36_i17 : c36.li 17 = [0, 1, 5, 10] := rfl
@[go_sem] theorem c36_i18 : c36.li 18 = [0, 1, 5] := rfl
@[go_sem] theorem c36_i19 : c36.li 19 = [0, 5] := rfl
@[go_sem] theorem c36_i20 : c36.li 20 = [0, 1, 5] := rfl
@[go_sem] theorem c36_i21 : c36.li 21 = [0, 5] := rfl
@[go_sem] theorem c36_i22 : c36.li 22 = [0, 1, 5, 10] := rfl
@[go_sem] theorem c36_i23 : c36.li 23 = [0, 1, 5] := rfl
@[go_sem] theorem c36_i24 : c36.li 24 = [0, 5] := rfl
@[go_sem] theorem c36_i25 : c36.li 25 = [0, 1, 5] := rfl
@[go_sem] theorem c36_i26 : c36.li 26 = [0, 5] := rfl
@[go_sem] theorem c36_i27 : c36.li 27 = [0, 1, 5] := rfl
@[go_sem] theorem c36_i28 : c36.li 28 = [0, 1, 5] := rfl
@[go_sem] theorem c36_i29 : c36.li 29 = [0, 1, 5] := rfl
@[go_sem] theorem c36_i30 : c36.li 30 = [0, 5] := rfl
@[go_sem] theorem c36_i31 : c36.li 31 = [0, 1, 10] := rfl
@[go_sem] theorem c36_i32 : c36.li 32 = [0, 1] := rfl
@[go_sem] theorem c36_i33 : c36.li 33 = [0] := rfl
@[go_sem] theorem c36_i34 : c36.li 34 = [] := rfl
@[go_sem] theorem c36_r0 (d0 : Option Addr) (p1 : Option Addr) (o2 : gharrylaw03_Op) (K : Env → W) : RP c36 0 [(0, .pointer d0), (1, .pointer p1), (2, v_gharrylaw03_Op o2)] K =
    (nwc #[.int .i64 o2.Kind, .int .i64 o2.I, str o2.S, .int .u64 o2.Keep] 54 fun y1_ => (K [(0, .pointer d0), (1, .pointer p1), (5, .pointer (some y1_))])) := by kernel_rfl
@[go_sem] theorem c36_r1 (d0 : Option Addr) (p1 : Option Addr) (o5 : Addr) (K : Env → W) : RP c36 1 [(0, .pointer d0), (1, .pointer p1), (5, .pointer (some o5))] K =
    (ld eI o5 fun (y1_ : Int) => (K [(0, .pointer d0), (1, .pointer p1), (5, .pointer (some o5)), (10, .int .i64 y1_)])) := by kernel_rfl
@[go_sem] theorem c36_r2 (d0 : Option Addr) (p1 : Option Addr) (K : Env → W) : RP c36 2 [(0, .pointer d0), (1, .pointer p1)] K =
    (nn p1 fun y1_ => (ld eB ((y1_.add 1)) fun (y2_ : Bool) => (K [(0, .pointer d0), (1, .pointer p1), (15, .bool ((!y2_)))]))) := by kernel_rfl
@[go_sem] theorem c36_r3 (d0 : Option Addr) (K : Env → W) : RP c36 3 [(0, .pointer d0)] K =
    (cal eI Try.prog 30 #[.pointer d0] fun (y1_ : Int) => (K [(6, .bool ((y1_ == (19 : Int))))])) := by kernel_rfl
@[go_sem] theorem c36_r4 (d0 : Option Addr) (p1 : Option Addr) (K : Env → W) : RP c36 4 [(0, .pointer d0), (1, .pointer p1)] K =
    (nn p1 fun y1_ => (st ((y1_.add 1)) (.bool false) (K [(0, .pointer d0)]))) := by kernel_rfl
@[go_sem] theorem c36_r5 (d0 : Option Addr) (K : Env → W) : RP c36 5 [(0, .pointer d0)] K =
    (cal eI Try.prog 30 #[.pointer d0] fun (y1_ : Int) => (K [(6, .bool ((y1_ == (0 : Int))))])) := by kernel_rfl
@[go_sem] theorem c36_r6 (d0 : Option Addr) (p1 : Option Addr) (o5 : Addr) (t10 : Int) (K : Env → W) : RP c36 6 [(0, .pointer d0), (1, .pointer p1), (5, .pointer (some o5)), (10, .int .i64 t10)] K =
    (K [(0, .pointer d0), (1, .pointer p1), (5, .pointer (some o5)), (10, .int .i64 t10), (25, .bool ((t10 == (0 : Int))))]) := by kernel_rfl
@[go_sem] theorem c36_r7 (d0 : Option Addr) (p1 : Option Addr) (o5 : Addr) (K : Env → W) : RP c36 7 [(0, .pointer d0), (1, .pointer p1), (5, .pointer (some o5))] K =
    (ld eI ((o5.add 1)) fun (y1_ : Int) => (cal (eT2 eS eI) Try.prog 31 #[.pointer d0, .int .i64 y1_] fun (y2_ : ((List UInt8) × Int)) => (K [(1, .pointer p1), (5, .pointer (some o5)), (7, str y2_.1), (8, .int .i64 y2_.2)]))) := by kernel_rfl
@[go_sem] theorem c36_r8 (p1 : Option Addr) (o5 : Addr) (s7 : List UInt8) (e8 : Int) (K : Env → W) : RP c36 8 [(1, .pointer p1), (5, .pointer (some o5)), (7, str s7), (8, .int .i64 e8)] K =
    (nn p1 fun y1_ => (ld eB ((y1_.add 1)) fun (y2_ : Bool) => (K [(1, .pointer p1), (5, .pointer (some o5)), (7, str s7), (8, .int .i64 e8), (37, .bool y2_)]))) := by kernel_rfl
@[go_sem] theorem c36_r9 (s7 : List UInt8) (e8 : Int) (K : Env → W) : RP c36 9 [(7, str s7), (8, .int .i64 e8)] K =
    (cnd ((s7 == ([] : List UInt8))) (K [(6, .bool ((e8 == (9 : Int))))]) (K [(6, .bool false)])) := by kernel_rfl
@[go_sem] theorem c36_r10 (p1 : Option Addr) (o5 : Addr) (s7 : List UInt8) (e8 : Int) (K : Env → W) : RP c36 10 [(1, .pointer p1), (5, .pointer (some o5)), (7, str s7), (8, .int .i64 e8)] K =
    (ph fun S0 => (ldq S0 eI ((o5.add 1)) fun (y1_ : Int) => (cnd ((decide (y1_ < (0 : Int)))) (K [(1, .pointer p1), (5, .pointer (some o5)), (7, str s7), (8, .int .i64 e8), (56, .bool true)]) (ldq S0 eI ((o5.add 1)) fun (y2_ : Int) => (nn p1 fun y3_ => (ldq S0 eSl y3_ fun (y4_ : (Option Addr × Nat × Nat)) => (K [(1, .pointer p1), (5, .pointer (some o5)), (7, str s7), (8, .int .i64 e8), (56, .bool ((decide ((y4_.2.1 : Int) ≤ y2_))))]))))))) := by kernel_rfl
@[go_sem] theorem c36_r11 (s7 : List UInt8) (e8 : Int) (K : Env → W) : RP c36 11 [(7, str s7), (8, .int .i64 e8)] K =
    (cnd ((s7 == ([] : List UInt8))) (K [(6, .bool ((e8 == (6 : Int))))]) (K [(6, .bool false)])) := by kernel_rfl
@[go_sem] theorem c36_r12 (p1 : Option Addr) (o5 : Addr) (s7 : List UInt8) (e8 : Int) (K : Env → W) : RP c36 12 [(1, .pointer p1), (5, .pointer (some o5)), (7, str s7), (8, .int .i64 e8)] K =
    (ph fun S0 => (nn p1 fun y1_ => (ldq S0 eSl y1_ fun (y2_ : (Option Addr × Nat × Nat)) => (ldq S0 eI ((o5.add 1)) fun (y3_ : Int) => (rq (0 ≤ y3_ ∧ y3_ < (y2_.2.1 : Int)) (nn y2_.1 fun y4_ => (ldq S0 eS ((((Addr.add y4_ ((y3_).toNat * 3))).add 1)) fun (y5_ : List UInt8) => (cnd ((s7 == y5_)) (K [(6, .bool ((e8 == (0 : Int))))]) (K [(6, .bool false)]))))))))) := by kernel_rfl
@[go_sem] theorem c36_r13 (d0 : Option Addr) (p1 : Option Addr) (o5 : Addr) (t10 : Int) (K : Env → W) : RP c36 13 [(0, .pointer d0), (1, .pointer p1), (5, .pointer (some o5)), (10, .int .i64 t10)] K =
    (K [(0, .pointer d0), (1, .pointer p1), (5, .pointer (some o5)), (10, .int .i64 t10), (78, .bool ((t10 == (1 : Int))))]) := by kernel_rfl
@[go_sem] theorem c36_r14 (d0 : Option Addr) (p1 : Option Addr) (o5 : Addr) (K : Env → W) : RP c36 14 [(0, .pointer d0), (1, .pointer p1), (5, .pointer (some o5))] K =
    (ph fun S0 => (ldq S0 eI ((o5.add 1)) fun (y1_ : Int) => (ldq S0 eS ((o5.add 2)) fun (y2_ : List UInt8) => (ldq S0 eI ((o5.add 1)) fun (y3_ : Int) => (ldq S0 eS ((o5.add 2)) fun (y4_ : List UInt8) => (cal eI Try.prog 27 #[.pointer d0, .int .i64 y1_, str y2_] fun (y5_ : Int) => (kpn S0 fun S1 => (cal eI Try.prog 77 #[.pointer p1, .int .i64 y3_, str y4_] fun (y6_ : Int) => (K [(6, .bool ((y5_ == y6_)))]))))))))) := by kernel_rfl
@[go_sem] theorem c36_r15 (d0 : Option Addr) (p1 : Option Addr) (o5 : Addr) (t10 : Int) (K : Env → W) : RP c36 15 [(0, .pointer d0), (1, .pointer p1), (5, .pointer (some o5)), (10, .int .i64 t10)] K =
    (K [(0, .pointer d0), (1, .pointer p1), (5, .pointer (some o5)), (10, .int .i64 t10), (93, .bool ((t10 == (2 : Int))))]) := by kernel_rfl
@[go_sem] theorem c36_r16 (d0 : Option Addr) (p1 : Option Addr) (K : Env → W) : RP c36 16 [(0, .pointer d0), (1, .pointer p1)] K =
    (cal eI Try.prog 28 #[.pointer d0] fun (y1_ : Int) => (cal eI Try.prog 78 #[.pointer p1] fun (y2_ : Int) => (K [(6, .bool ((y1_ == y2_)))]))) := by kernel_rfl
@[go_sem] theorem c36_r17 (d0 : Option Addr) (p1 : Option Addr) (o5 : Addr) (t10 : Int) (K : Env → W) : RP c36 17 [(0, .pointer d0), (1, .pointer p1), (5, .pointer (some o5)), (10, .int .i64 t10)] K =
    (K [(0, .pointer d0), (1, .pointer p1), (5, .pointer (some o5)), (10, .int .i64 t10), (100, .bool ((t10 == (3 : Int))))]) := by kernel_rfl
@[go_sem] theorem c36_r18 (d0 : Option Addr) (p1 : Option Addr) (o5 : Addr) (K : Env → W) : RP c36 18 [(0, .pointer d0), (1, .pointer p1), (5, .pointer (some o5))] K =
    (nn p1 fun y1_ => (ld eB ((y1_.add 1)) fun (y2_ : Bool) => (K [(0, .pointer d0), (1, .pointer p1), (5, .pointer (some o5)), (105, .bool y2_)]))) := by kernel_rfl
@[go_sem] theorem c36_r19 (d0 : Option Addr) (o5 : Addr) (K : Env → W) : RP c36 19 [(0, .pointer d0), (5, .pointer (some o5))] K =
    (ld eU64 ((o5.add 3)) fun (y1_ : Int) => (cal eI Try.prog 29 #[.pointer d0, .int .u64 y1_] fun (y2_ : Int) => (K [(6, .bool ((y2_ == (9 : Int))))]))) := by kernel_rfl
@[go_sem] theorem c36_r20 (d0 : Option Addr) (p1 : Option Addr) (o5 : Addr) (K : Env → W) : RP c36 20 [(0, .pointer d0), (1, .pointer p1), (5, .pointer (some o5))] K =
    (ld eU64 ((o5.add 3)) fun (y1_ : Int) => (cal eN Try.prog 79 #[.pointer p1, .int .u64 y1_] fun (y2_ : Unit) => (K [(0, .pointer d0), (5, .pointer (some o5))]))) := by kernel_rfl
@[go_sem] theorem c36_r21 (d0 : Option Addr) (o5 : Addr) (K : Env → W) : RP c36 21 [(0, .pointer d0), (5, .pointer (some o5))] K =
    (ld eU64 ((o5.add 3)) fun (y1_ : Int) => (cal eI Try.prog 29 #[.pointer d0, .int .u64 y1_] fun (y2_ : Int) => (K [(6, .bool ((y2_ == (0 : Int))))]))) := by kernel_rfl
@[go_sem] theorem c36_r22 (d0 : Option Addr) (p1 : Option Addr) (o5 : Addr) (t10 : Int) (K : Env → W) : RP c36 22 [(0, .pointer d0), (1, .pointer p1), (5, .pointer (some o5)), (10, .int .i64 t10)] K =
    (K [(0, .pointer d0), (1, .pointer p1), (5, .pointer (some o5)), (10, .int .i64 t10), (120, .bool ((t10 == (4 : Int))))]) := by kernel_rfl
@[go_sem] theorem c36_r23 (d0 : Option Addr) (p1 : Option Addr) (o5 : Addr) (K : Env → W) : RP c36 23 [(0, .pointer d0), (1, .pointer p1), (5, .pointer (some o5))] K =
    (nn p1 fun y1_ => (ld eB ((y1_.add 1)) fun (y2_ : Bool) => (K [(0, .pointer d0), (1, .pointer p1), (5, .pointer (some o5)), (125, .bool y2_)]))) := by kernel_rfl
@[go_sem] theorem c36_r24 (d0 : Option Addr) (o5 : Addr) (K : Env → W) : RP c36 24 [(0, .pointer d0), (5, .pointer (some o5))] K =
    (ld eI ((o5.add 1)) fun (y1_ : Int) => (ld eU64 ((o5.add 3)) fun (y2_ : Int) => (cal eI Try.prog 42 #[.pointer d0, .int .i64 y1_, .int .u64 y2_] fun (y3_ : Int) => (K [(6, .bool ((y3_ == (9 : Int))))])))) := by kernel_rfl
@[go_sem] theorem c36_r25 (d0 : Option Addr) (p1 : Option Addr) (o5 : Addr) (K : Env → W) : RP c36 25 [(0, .pointer d0), (1, .pointer p1), (5, .pointer (some o5))] K =
    (ld eI ((o5.add 1)) fun (y1_ : Int) => (K [(0, .pointer d0), (1, .pointer p1), (5, .pointer (some o5)), (135, .bool ((decide (y1_ < (0 : Int)))))])) := by kernel_rfl
@[go_sem] theorem c36_r26 (d0 : Option Addr) (o5 : Addr) (K : Env → W) : RP c36 26 [(0, .pointer d0), (5, .pointer (some o5))] K =
    (ld eI ((o5.add 1)) fun (y1_ : Int) => (ld eU64 ((o5.add 3)) fun (y2_ : Int) => (cal eI Try.prog 42 #[.pointer d0, .int .i64 y1_, .int .u64 y2_] fun (y3_ : Int) => (K [(6, .bool ((y3_ == (1 : Int))))])))) := by kernel_rfl
@[go_sem] theorem c36_r27 (d0 : Option Addr) (p1 : Option Addr) (o5 : Addr) (K : Env → W) : RP c36 27 [(0, .pointer d0), (1, .pointer p1), (5, .pointer (some o5))] K =
    (nn p1 fun y1_ => (st ((y1_.add 2)) (.bool true) (K [(0, .pointer d0), (1, .pointer p1), (5, .pointer (some o5))]))) := by kernel_rfl
@[go_sem] theorem c36_r28 (d0 : Option Addr) (p1 : Option Addr) (o5 : Addr) (K : Env → W) : RP c36 28 [(0, .pointer d0), (1, .pointer p1), (5, .pointer (some o5))] K =
    (ld eI ((o5.add 1)) fun (y1_ : Int) => (nn p1 fun y2_ => (st ((y2_.add 3)) (.int .i64 y1_) (K [(0, .pointer d0), (1, .pointer p1), (5, .pointer (some o5))])))) := by kernel_rfl
@[go_sem] theorem c36_r29 (d0 : Option Addr) (p1 : Option Addr) (o5 : Addr) (K : Env → W) : RP c36 29 [(0, .pointer d0), (1, .pointer p1), (5, .pointer (some o5))] K =
    (ld eU64 ((o5.add 3)) fun (y1_ : Int) => (nn p1 fun y2_ => (st ((y2_.add 4)) (.int .u64 y1_) (K [(0, .pointer d0), (5, .pointer (some o5))])))) := by kernel_rfl
@[go_sem] theorem c36_r30 (d0 : Option Addr) (o5 : Addr) (K : Env → W) : RP c36 30 [(0, .pointer d0), (5, .pointer (some o5))] K =
    (ld eI ((o5.add 1)) fun (y1_ : Int) => (ld eU64 ((o5.add 3)) fun (y2_ : Int) => (cal eI Try.prog 42 #[.pointer d0, .int .i64 y1_, .int .u64 y2_] fun (y3_ : Int) => (K [(6, .bool ((y3_ == (0 : Int))))])))) := by kernel_rfl
@[go_sem] theorem c36_r31 (d0 : Option Addr) (p1 : Option Addr) (t10 : Int) (K : Env → W) : RP c36 31 [(0, .pointer d0), (1, .pointer p1), (10, .int .i64 t10)] K =
    (K [(0, .pointer d0), (1, .pointer p1), (163, .bool ((t10 == (5 : Int))))]) := by kernel_rfl
@[go_sem] theorem c36_r32 (d0 : Option Addr) (p1 : Option Addr) (K : Env → W) : RP c36 32 [(0, .pointer d0), (1, .pointer p1)] K =
    (nn p1 fun y1_ => (st ((y1_.add 2)) (.bool false) (K [(0, .pointer d0)]))) := by kernel_rfl
@[go_sem] theorem c36_r33 (d0 : Option Addr) (K : Env → W) : RP c36 33 [(0, .pointer d0)] K =
    (cal eN Try.prog 41 #[.pointer d0] fun (y1_ : Unit) => (K [])) := by kernel_rfl
@[go_sem] theorem c36_r34 (K : Env → W) : RP c36 34 [] K =
    (K [(6, .bool true)]) := by kernel_rfl
@[go_sem] theorem c36_o : c36.lo 1000000 = [6] := rfl
@[go_sem] theorem c36_e (t6 : Bool) (k : Value → W) : RTp c36 [(6, .bool t6)] k = (k (.bool t6)) := by kernel_rfl
theorem c36_ok : (c36.P.follows .mixedOrders && okc c36 c36.body) = true := by kernel_rfl
theorem c36_fn {e : Enc} {args : Array Value} {G : e.α → W} {L : List HP} {ρ : Env} (hρ : envA 0 args.toList = ρ) (hs : Nat.ble args.size 170 = true) (h : E L (D c36 (.seq (.reg 0) (.seq (.reg 1) (.block 0 (.seq (.reg 6) (.cond (.tmp 25) (.seq (.reg 7) (.seq (.seq (.reg 8) (.cond (.tmp 37) (.seq (.reg 9) (.ret)) (.skip))) (.seq (.seq (.reg 10) (.cond (.tmp 56) (.seq (.reg 11) (.ret)) (.skip))) (.seq (.reg 12) (.ret))))) (.seq (.reg 13) (.cond (.tmp 78) (.seq (.reg 14) (.ret)) (.seq (.reg 15) (.cond (.tmp 93) (.seq (.reg 16) (.ret)) (.seq (.reg 17) (.cond (.tmp 100) (.seq (.seq (.reg 18) (.cond (.tmp 105) (.seq (.reg 19) (.ret)) (.skip))) (.seq (.reg 20) (.seq (.reg 21) (.ret)))) (.seq (.reg 22) (.cond (.tmp 120) (.seq (.seq (.reg 23) (.cond (.tmp 125) (.seq (.reg 24) (.ret)) (.skip))) (.seq (.seq (.reg 25) (.cond (.tmp 135) (.seq (.reg 26) (.ret)) (.skip))) (.seq (.reg 27) (.seq (.reg 28) (.seq (.reg 29) (.seq (.reg 30) (.ret))))))) (.seq (.reg 31) (.cond (.tmp 163) (.seq (.reg 32) (.seq (.reg 33) (.seq (.reg 34) (.ret)))) (.seq (.seq (.reg 2) (.cond (.tmp 15) (.seq (.reg 3) (.ret)) (.skip))) (.seq (.reg 4) (.seq (.reg 5) (.ret))))))))))))))))))) (fnQ c36 e G) ρ)) : E L (cal e Try.prog 36 args G) :=
  d_fn (c := c36) Try.func36 (by kernel_rfl) (by kernel_rfl) (by kernel_rfl) c36_ok (by kernel_rfl) (by kernel_rfl) hρ hs h
/-! gharry.gharrylaw03.waits -/
noncomputable def c40 : Cfg := { P := Try.prog, n := 46, T := TT, body := (Try.f40.body).getD .skip, res := Try.f40.results.toList, li := lk [] [(0, [0, 1]), (1, [0, 1]), (2, [1, 5]), (3, [1, 5, 6]), (4, [1, 5, 6, 7]), (5, [1, 5, 6, 7]), (6, [1, 5, 6, 7]), (7, [1, 5, 6, 7]), (8, []), (9, [1, 5, 6, 7]), (10, [5, 6])], lo := lk [] [(0, [0, 1]), (1, [1, 5]), (2, [1, 5, 6]), (3, [1, 5, 6, 7]), (4, [1, 5, 6, 7, 16]), (5, [1, 5, 6, 7]), (6, [1, 5, 6, 7, 27]), (7, [1, 5, 6, 7, 39]), (8, [4]), (9, [1, 5, 6, 7]), (10, [4]), (1000000, [4])], ord := lk (false, []) [] }
@[go_sem] theorem c40_i0 : c40.li 0 = [0, 1] := rfl
@[go_sem] theorem c40_i1 : c40.li 1 = [0, 1] := rfl
@[go_sem] theorem c40_i2 : c40.li 2 = [1, 5] := rfl
@[go_sem] theorem c40_i3 : c40.li 3 = [1, 5, 6] := rfl
@[go_sem] theorem c40_i4 : c40.li 4 = [1, 5, 6, 7] := rfl
@[go_sem] theorem c40_i5 : c40.li 5 = [1, 5, 6, 7] := rfl
@[go_sem] theorem c40_i6 : c40.li 6 = [1, 5, 6, 7] := rfl
@[go_sem] theorem c40_i7 : c40.li 7 = [1, 5, 6, 7] := rfl
@[go_sem] theorem c40_i8 : c40.li 8 = [] := rfl
@[go_sem] theorem c40_i9 : c40.li 9 = [1, 5, 6, 7] := rfl
@[go_sem] theorem c40_i10 : c40.li 10 = [5, 6] := rfl
@[go_sem] theorem c40_r0 (d0 : Option Addr) (p1 : Option Addr) (K : Env → W) : RP c40 0 [(0, .pointer d0), (1, .pointer p1)] K =
    (K [(0, .pointer d0), (1, .pointer p1)]) := by kernel_rfl
@[go_sem] theorem c40_r1 (d0 : Option Addr) (p1 : Option Addr) (K : Env → W) : RP c40 1 [(0, .pointer d0), (1, .pointer p1)] K =
    (cal eSl Try.prog 43 #[.pointer d0] fun (y1_ : (Option Addr × Nat × Nat)) => (K [(1, .pointer p1), (5, .slice y1_.1 y1_.2.1 y1_.2.2)])) := by kernel_rfl
@[go_sem] theorem c40_r2 (p1 : Option Addr) (l5p : Option Addr) (l5n l5c : Nat) (K : Env → W) : RP c40 2 [(1, .pointer p1), (5, .slice l5p l5n l5c)] K =
    (K [(1, .pointer p1), (5, .slice l5p l5n l5c), (6, .int .i64 ((0 : Int)))]) := by kernel_rfl
@[go_sem] theorem c40_r3 (p1 : Option Addr) (l5p : Option Addr) (l5n l5c : Nat) (k6 : Int) (K : Env → W) : RP c40 3 [(1, .pointer p1), (5, .slice l5p l5n l5c), (6, .int .i64 k6)] K =
    (K [(1, .pointer p1), (5, .slice l5p l5n l5c), (6, .int .i64 k6), (7, .int .i64 ((0 : Int)))]) := by kernel_rfl
@[go_sem] theorem c40_r4 (p1 : Option Addr) (l5p : Option Addr) (l5n l5c : Nat) (k6 : Int) (i7 : Int) (K : Env → W) : RP c40 4 [(1, .pointer p1), (5, .slice l5p l5n l5c), (6, .int .i64 k6), (7, .int .i64 i7)] K =
    (nn p1 fun y1_ => (ld eSl y1_ fun (y2_ : (Option Addr × Nat × Nat)) => (K [(1, .pointer p1), (5, .slice l5p l5n l5c), (6, .int .i64 k6), (7, .int .i64 i7), (16, .bool ((decide (i7 < (y2_.2.1 : Int)))))]))) := by kernel_rfl
@[go_sem] theorem c40_r5 (p1 : Option Addr) (l5p : Option Addr) (l5n l5c : Nat) (k6 : Int) (i7 : Int) (K : Env → W) : RP c40 5 [(1, .pointer p1), (5, .slice l5p l5n l5c), (6, .int .i64 k6), (7, .int .i64 i7)] K =
    (K [(1, .pointer p1), (5, .slice l5p l5n l5c), (6, .int .i64 k6), (7, .int .i64 ((IntKind.wrap .i64 (i7 + (1 : Int)))))]) := by kernel_rfl
@[go_sem] theorem c40_r6 (p1 : Option Addr) (l5p : Option Addr) (l5n l5c : Nat) (k6 : Int) (i7 : Int) (K : Env → W) : RP c40 6 [(1, .pointer p1), (5, .slice l5p l5n l5c), (6, .int .i64 k6), (7, .int .i64 i7)] K =
    (nn p1 fun y1_ => (ld eSl y1_ fun (y2_ : (Option Addr × Nat × Nat)) => (rq (0 ≤ i7 ∧ i7 < (y2_.2.1 : Int)) (nn y2_.1 fun y3_ => (ld eB ((((Addr.add y3_ ((i7).toNat * 3))).add 2)) fun (y4_ : Bool) => (K [(1, .pointer p1), (5, .slice l5p l5n l5c), (6, .int .i64 k6), (7, .int .i64 i7), (27, .bool ((!y4_)))])))))) := by kernel_rfl
@[go_sem] theorem c40_r7 (p1 : Option Addr) (l5p : Option Addr) (l5n l5c : Nat) (k6 : Int) (i7 : Int) (K : Env → W) : RP c40 7 [(1, .pointer p1), (5, .slice l5p l5n l5c), (6, .int .i64 k6), (7, .int .i64 i7)] K =
    (cnd ((decide ((l5n : Int) ≤ k6))) (K [(1, .pointer p1), (5, .slice l5p l5n l5c), (6, .int .i64 k6), (7, .int .i64 i7), (39, .bool true)]) (rq (0 ≤ k6 ∧ k6 < (l5n : Int)) (nn l5p fun y1_ => (ld eI ((Addr.add y1_ ((k6).toNat * 1))) fun (y2_ : Int) => (K [(1, .pointer p1), (5, .slice l5p l5n l5c), (6, .int .i64 k6), (7, .int .i64 i7), (39, .bool ((y2_ != i7)))]))))) := by kernel_rfl
@[go_sem] theorem c40_r8 (K : Env → W) : RP c40 8 [] K =
    (K [(4, .bool false)]) := by kernel_rfl
@[go_sem] theorem c40_r9 (p1 : Option Addr) (l5p : Option Addr) (l5n l5c : Nat) (k6 : Int) (i7 : Int) (K : Env → W) : RP c40 9 [(1, .pointer p1), (5, .slice l5p l5n l5c), (6, .int .i64 k6), (7, .int .i64 i7)] K =
    (K [(1, .pointer p1), (5, .slice l5p l5n l5c), (6, .int .i64 ((IntKind.wrap .i64 (k6 + (1 : Int))))), (7, .int .i64 i7)]) := by kernel_rfl
@[go_sem] theorem c40_r10 (l5p : Option Addr) (l5n l5c : Nat) (k6 : Int) (K : Env → W) : RP c40 10 [(5, .slice l5p l5n l5c), (6, .int .i64 k6)] K =
    (K [(4, .bool ((k6 == (l5n : Int))))]) := by kernel_rfl
@[go_sem] theorem c40_o : c40.lo 1000000 = [4] := rfl
@[go_sem] theorem c40_e (t4 : Bool) (k : Value → W) : RTp c40 [(4, .bool t4)] k = (k (.bool t4)) := by kernel_rfl
theorem c40_ok : (c40.P.follows .mixedOrders && okc c40 c40.body) = true := by kernel_rfl
theorem c40_fn {e : Enc} {args : Array Value} {G : e.α → W} {L : List HP} {ρ : Env} (hρ : envA 0 args.toList = ρ) (hs : Nat.ble args.size 46 = true) (h : E L (D c40 (.seq (.reg 0) (.seq (.reg 1) (.seq (.reg 2) (.seq (.seq (.reg 3) (.block 0 (.loop (.seq (.seq (.reg 4) (.cond (.tmp 16) (.skip) (.exit 0))) (.seq (.block 1 (.seq (.seq (.reg 6) (.cond (.tmp 27) (.exit 1) (.skip))) (.seq (.seq (.reg 7) (.cond (.tmp 39) (.seq (.reg 8) (.ret)) (.skip))) (.reg 9)))) (.reg 5)))))) (.seq (.reg 10) (.ret)))))) (fnQ c40 e G) ρ)) : E L (cal e Try.prog 40 args G) :=
  d_fn (c := c40) Try.func40 (by kernel_rfl) (by kernel_rfl) (by kernel_rfl) c40_ok (by kernel_rfl) (by kernel_rfl) hρ hs h
-- loop (first region 4): live slots 1:p1 5:l5 6:k6 7:i7, of which it writes [6, 7]
/-! gharry.gharrylaw03.first -/
noncomputable def c65 : Cfg := { P := Try.prog, n := 11, T := TT, body := (Try.f65.body).getD .skip, res := Try.f65.results.toList, li := lk [] [(0, [0]), (1, [0]), (2, [3])], lo := lk [] [(0, [0]), (1, [3]), (2, [2]), (1000000, [2])], ord := lk (false, []) [] }
@[go_sem] theorem c65_i0 : c65.li 0 = [0] := rfl
@[go_sem] theorem c65_i1 : c65.li 1 = [0] := rfl
@[go_sem] theorem c65_i2 : c65.li 2 = [3] := rfl
@[go_sem] theorem c65_r0 (d0 : Option Addr) (K : Env → W) : RP c65 0 [(0, .pointer d0)] K =
    (K [(0, .pointer d0)]) := by kernel_rfl
@[go_sem] theorem c65_r1 (d0 : Option Addr) (K : Env → W) : RP c65 1 [(0, .pointer d0)] K =
    (cal (eT2 eS eI) Try.prog 31 #[.pointer d0, .int .i64 ((0 : Int))] fun (y1_ : ((List UInt8) × Int)) => (K [(3, str y1_.1)])) := by kernel_rfl
@[go_sem] theorem c65_r2 (s3 : List UInt8) (K : Env → W) : RP c65 2 [(3, str s3)] K =
    (K [(2, str s3)]) := by kernel_rfl
@[go_sem] theorem c65_o : c65.lo 1000000 = [2] := rfl
@[go_sem] theorem c65_e (t2 : List UInt8) (k : Value → W) : RTp c65 [(2, str t2)] k = (k (str t2)) := by kernel_rfl
theorem c65_ok : (c65.P.follows .mixedOrders && okc c65 c65.body) = true := by kernel_rfl
theorem c65_fn {e : Enc} {args : Array Value} {G : e.α → W} {L : List HP} {ρ : Env} (hρ : envA 0 args.toList = ρ) (hs : Nat.ble args.size 11 = true) (h : E L (D c65 (.seq (.reg 0) (.seq (.reg 1) (.seq (.reg 2) (.ret)))) (fnQ c65 e G) ρ)) : E L (cal e Try.prog 65 args G) :=
  d_fn (c := c65) Try.func65 (by kernel_rfl) (by kernel_rfl) (by kernel_rfl) c65_ok (by kernel_rfl) (by kernel_rfl) hρ hs h
/-! (*gharry.gharrylaw03.plain).write -/
noncomputable def c77 : Cfg := { P := Try.prog, n := 44, T := TT, body := (Try.f77.body).getD .skip, res := Try.f77.results.toList, li := lk [] [(0, [0, 1, 2]), (1, [0, 1, 2]), (2, []), (3, [0, 1, 2]), (4, []), (5, [0, 1, 2]), (6, []), (7, [0, 1, 2]), (8, []), (9, [0, 1, 2]), (10, [0, 1]), (11, [])], lo := lk [] [(0, [0, 1, 2]), (1, [0, 1, 2, 10]), (2, [6]), (3, [0, 1, 2, 21]), (4, [6]), (5, [0, 1, 2, 24]), (6, [6]), (7, [0, 1, 2, 27]), (8, [6]), (9, [0, 1]), (10, []), (11, [6]), (1000000, [6])], ord := lk (false, []) [(9, (true, [(0, 1), (1, 1), (2, 1), (3, 0), (4, 1), (5, 1), (6, 2), (7, 1), (8, 1), (9, 4)]))] }
@[go_sem] theorem c77_i0 : c77.li 0 = [0, 1, 2] := rfl
@[go_sem] theorem c77_i1 : c77.li 1 = [0, 1, 2] := rfl
@[go_sem] theorem c77_i2 : c77.li 2 = [] := rfl
@[go_sem] theorem c77_i3 : c77.li 3 = [0, 1, 2] := rfl
@[go_sem] theorem c77_i4 : c77.li 4 = [] := rfl
@[go_sem] theorem c77_i5 : c77.li 5 = [0, 1, 2] := rfl
@[go_sem] theorem c77_i6 : c77.li 6 = [] := rfl
@[go_sem] theorem c77_i7 : c77.li 7 = [0, 1, 2] := rfl
@[go_sem] theorem c77_i8 : c77.li 8 = [] := rfl
@[go_sem] theorem c77_i9 : c77.li 9 = [0, 1, 2] := rfl
@[go_sem] theorem c77_i10 : c77.li 10 = [0, 1] := rfl
@[go_sem] theorem c77_i11 : c77.li 11 = [] := rfl
@[go_sem] theorem c77_r0 (p0 : Option Addr) (i1 : Int) (s2 : List UInt8) (K : Env → W) : RP c77 0 [(0, .pointer p0), (1, .int .i64 i1), (2, str s2)] K =
    (K [(0, .pointer p0), (1, .int .i64 i1), (2, str s2)]) := by kernel_rfl
@[go_sem] theorem c77_r1 (p0 : Option Addr) (i1 : Int) (s2 : List UInt8) (K : Env → W) : RP c77 1 [(0, .pointer p0), (1, .int .i64 i1), (2, str s2)] K =
    (nn p0 fun y1_ => (ld eB ((y1_.add 1)) fun (y2_ : Bool) => (K [(0, .pointer p0), (1, .int .i64 i1), (2, str s2), (10, .bool y2_)]))) := by kernel_rfl
@[go_sem] theorem c77_r2 (K : Env → W) : RP c77 2 [] K =
    (K [(6, .int .i64 ((9 : Int)))]) := by kernel_rfl
@[go_sem] theorem c77_r3 (p0 : Option Addr) (i1 : Int) (s2 : List UInt8) (K : Env → W) : RP c77 3 [(0, .pointer p0), (1, .int .i64 i1), (2, str s2)] K =
    (cnd ((decide (i1 < (0 : Int)))) (K [(0, .pointer p0), (1, .int .i64 i1), (2, str s2), (21, .bool true)]) (nn p0 fun y1_ => (ld eSl y1_ fun (y2_ : (Option Addr × Nat × Nat)) => (K [(0, .pointer p0), (1, .int .i64 i1), (2, str s2), (21, .bool ((decide ((y2_.2.1 : Int) ≤ i1))))])))) := by kernel_rfl
@[go_sem] theorem c77_r4 (K : Env → W) : RP c77 4 [] K =
    (K [(6, .int .i64 ((6 : Int)))]) := by kernel_rfl
@[go_sem] theorem c77_r5 (p0 : Option Addr) (i1 : Int) (s2 : List UInt8) (K : Env → W) : RP c77 5 [(0, .pointer p0), (1, .int .i64 i1), (2, str s2)] K =
    (K [(0, .pointer p0), (1, .int .i64 i1), (2, str s2), (24, .bool ((decide ((64 : Int) < ((s2).length : Int)))))]) := by kernel_rfl
@[go_sem] theorem c77_r6 (K : Env → W) : RP c77 6 [] K =
    (K [(6, .int .i64 ((3 : Int)))]) := by kernel_rfl
@[go_sem] theorem c77_r7 (p0 : Option Addr) (i1 : Int) (s2 : List UInt8) (K : Env → W) : RP c77 7 [(0, .pointer p0), (1, .int .i64 i1), (2, str s2)] K =
    (cal eB Try.prog 91 #[.pointer p0] fun (y1_ : Bool) => (K [(0, .pointer p0), (1, .int .i64 i1), (2, str s2), (27, .bool ((!y1_)))])) := by kernel_rfl
@[go_sem] theorem c77_r8 (K : Env → W) : RP c77 8 [] K =
    (K [(6, .int .i64 ((9 : Int)))]) := by kernel_rfl
@[go_sem] theorem c77_r9 (p0 : Option Addr) (i1 : Int) (s2 : List UInt8) (K : Env → W) : RP c77 9 [(0, .pointer p0), (1, .int .i64 i1), (2, str s2)] K =
    (ph fun S0 => (nn p0 fun y1_ => (ldq S0 eSl y1_ fun (y2_ : (Option Addr × Nat × Nat)) => (cal eS Try.prog 32 #[str s2] fun (y3_ : List UInt8) => (kpn S0 fun S1 => (rq (0 ≤ i1 ∧ i1 < (y2_.2.1 : Int)) (nn y2_.1 fun y4_ => (st ((((Addr.add y4_ ((i1).toNat * 3))).add 1)) (str y3_) (K [(0, .pointer p0), (1, .int .i64 i1)]))))))))) := by kernel_rfl
@[go_sem] theorem c77_r10 (p0 : Option Addr) (i1 : Int) (K : Env → W) : RP c77 10 [(0, .pointer p0), (1, .int .i64 i1)] K =
    (nn p0 fun y1_ => (ld eSl y1_ fun (y2_ : (Option Addr × Nat × Nat)) => (rq (0 ≤ i1 ∧ i1 < (y2_.2.1 : Int)) (nn y2_.1 fun y3_ => (st ((((Addr.add y3_ ((i1).toNat * 3))).add 2)) (.bool true) (K [])))))) := by kernel_rfl
@[go_sem] theorem c77_r11 (K : Env → W) : RP c77 11 [] K =
    (K [(6, .int .i64 ((0 : Int)))]) := by kernel_rfl
@[go_sem] theorem c77_o : c77.lo 1000000 = [6] := rfl
@[go_sem] theorem c77_e (t6 : Int) (k : Value → W) : RTp c77 [(6, .int .i64 t6)] k = (k (.int .i64 t6)) := by kernel_rfl
theorem c77_ok : (c77.P.follows .mixedOrders && okc c77 c77.body) = true := by kernel_rfl
theorem c77_fn {e : Enc} {args : Array Value} {G : e.α → W} {L : List HP} {ρ : Env} (hρ : envA 0 args.toList = ρ) (hs : Nat.ble args.size 44 = true) (h : E L (D c77 (.seq (.reg 0) (.seq (.seq (.reg 1) (.cond (.tmp 10) (.seq (.reg 2) (.ret)) (.skip))) (.seq (.seq (.reg 3) (.cond (.tmp 21) (.seq (.reg 4) (.ret)) (.skip))) (.seq (.seq (.reg 5) (.cond (.tmp 24) (.seq (.reg 6) (.ret)) (.skip))) (.seq (.seq (.reg 7) (.cond (.tmp 27) (.seq (.reg 8) (.ret)) (.skip))) (.seq (.reg 9) (.seq (.reg 10) (.seq (.reg 11) (.ret))))))))) (fnQ c77 e G) ρ)) : E L (cal e Try.prog 77 args G) :=
  d_fn (c := c77) Try.func77 (by kernel_rfl) (by kernel_rfl) (by kernel_rfl) c77_ok (by kernel_rfl) (by kernel_rfl) hρ hs h
/-! (*gharry.gharrylaw03.plain).sync -/
noncomputable def c78 : Cfg := { P := Try.prog, n := 44, T := TT, body := (Try.f78.body).getD .skip, res := Try.f78.results.toList, li := lk [] [(0, [0]), (1, [0]), (2, []), (3, [0]), (4, [0, 3]), (5, [0, 3]), (6, [0, 3]), (7, [0, 3]), (8, [])], lo := lk [] [(0, [0]), (1, [0, 12]), (2, [2]), (3, [0, 3]), (4, [0, 3, 19]), (5, [0, 3]), (6, [0, 3]), (7, [0, 3]), (8, [2]), (1000000, [2])], ord := lk (false, []) [(6, (true, [(0, 1), (1, 1), (2, 1), (3, 0), (4, 1), (5, 1), (6, 1), (7, 1), (8, 0), (9, 1), (10, 1), (11, 1), (12, 0), (13, 1), (14, 1), (15, 4)]))] }
@[go_sem] theorem c78_i0 : c78.li 0 = [0] := rfl
@[go_sem] theorem c78_i1 : c78.li 1 = [0] := rfl
@[go_sem] theorem c78_i2 : c78.li 2 = [] := rfl
@[go_sem] theorem c78_i3 : c78.li 3 = [0] := rfl
@[go_sem] theorem c78_i4 : c78.li 4 = [0, 3] := rfl
@[go_sem] theorem c78_i5 : c78.li 5 = [0, 3] := rfl
@[go_sem] theorem c78_i6 : c78.li 6 = [0, 3] := rfl
@[go_sem] theorem c78_i7 : c78.li 7 = [0, 3] := rfl
@[go_sem] theorem c78_i8 : c78.li 8 = [] := rfl
@[go_sem] theorem c78_r0 (p0 : Option Addr) (K : Env → W) : RP c78 0 [(0, .pointer p0)] K =
    (K [(0, .pointer p0)]) := by kernel_rfl
@[go_sem] theorem c78_r1 (p0 : Option Addr) (K : Env → W) : RP c78 1 [(0, .pointer p0)] K =
    (nn p0 fun y1_ => (ld eB ((y1_.add 1)) fun (y2_ : Bool) => (cnd y2_ (K [(0, .pointer p0), (12, .bool true)]) (cal eB Try.prog 91 #[.pointer p0] fun (y3_ : Bool) => (K [(0, .pointer p0), (12, .bool ((!y3_)))]))))) := by kernel_rfl
@[go_sem] theorem c78_r2 (K : Env → W) : RP c78 2 [] K =
    (K [(2, .int .i64 ((9 : Int)))]) := by kernel_rfl
@[go_sem] theorem c78_r3 (p0 : Option Addr) (K : Env → W) : RP c78 3 [(0, .pointer p0)] K =
    (K [(0, .pointer p0), (3, .int .i64 ((0 : Int)))]) := by kernel_rfl
@[go_sem] theorem c78_r4 (p0 : Option Addr) (i3 : Int) (K : Env → W) : RP c78 4 [(0, .pointer p0), (3, .int .i64 i3)] K =
    (nn p0 fun y1_ => (ld eSl y1_ fun (y2_ : (Option Addr × Nat × Nat)) => (K [(0, .pointer p0), (3, .int .i64 i3), (19, .bool ((decide (i3 < (y2_.2.1 : Int)))))]))) := by kernel_rfl
@[go_sem] theorem c78_r5 (p0 : Option Addr) (i3 : Int) (K : Env → W) : RP c78 5 [(0, .pointer p0), (3, .int .i64 i3)] K =
    (K [(0, .pointer p0), (3, .int .i64 ((IntKind.wrap .i64 (i3 + (1 : Int)))))]) := by kernel_rfl
@[go_sem] theorem c78_r6 (p0 : Option Addr) (i3 : Int) (K : Env → W) : RP c78 6 [(0, .pointer p0), (3, .int .i64 i3)] K =
    (ph fun S0 => (nn p0 fun y1_ => (ldq S0 eSl y1_ fun (y2_ : (Option Addr × Nat × Nat)) => (nn p0 fun y3_ => (ldq S0 eSl y3_ fun (y4_ : (Option Addr × Nat × Nat)) => (rq (0 ≤ i3 ∧ i3 < (y4_.2.1 : Int)) (nn y4_.1 fun y5_ => (ldq S0 eS ((((Addr.add y5_ ((i3).toNat * 3))).add 1)) fun (y6_ : List UInt8) => (rq (0 ≤ i3 ∧ i3 < (y2_.2.1 : Int)) (nn y2_.1 fun y7_ => (st ((Addr.add y7_ ((i3).toNat * 3))) (str y6_) (K [(0, .pointer p0), (3, .int .i64 i3)])))))))))))) := by kernel_rfl
@[go_sem] theorem c78_r7 (p0 : Option Addr) (i3 : Int) (K : Env → W) : RP c78 7 [(0, .pointer p0), (3, .int .i64 i3)] K =
    (nn p0 fun y1_ => (ld eSl y1_ fun (y2_ : (Option Addr × Nat × Nat)) => (rq (0 ≤ i3 ∧ i3 < (y2_.2.1 : Int)) (nn y2_.1 fun y3_ => (st ((((Addr.add y3_ ((i3).toNat * 3))).add 2)) (.bool false) (K [(0, .pointer p0), (3, .int .i64 i3)])))))) := by kernel_rfl
@[go_sem] theorem c78_r8 (K : Env → W) : RP c78 8 [] K =
    (K [(2, .int .i64 ((0 : Int)))]) := by kernel_rfl
@[go_sem] theorem c78_o : c78.lo 1000000 = [2] := rfl
@[go_sem] theorem c78_e (t2 : Int) (k : Value → W) : RTp c78 [(2, .int .i64 t2)] k = (k (.int .i64 t2)) := by kernel_rfl
theorem c78_ok : (c78.P.follows .mixedOrders && okc c78 c78.body) = true := by kernel_rfl
theorem c78_fn {e : Enc} {args : Array Value} {G : e.α → W} {L : List HP} {ρ : Env} (hρ : envA 0 args.toList = ρ) (hs : Nat.ble args.size 44 = true) (h : E L (D c78 (.seq (.reg 0) (.seq (.seq (.reg 1) (.cond (.tmp 12) (.seq (.reg 2) (.ret)) (.skip))) (.seq (.seq (.reg 3) (.block 0 (.loop (.seq (.seq (.reg 4) (.cond (.tmp 19) (.skip) (.exit 0))) (.seq (.block 1 (.seq (.reg 6) (.reg 7))) (.reg 5)))))) (.seq (.reg 8) (.ret))))) (fnQ c78 e G) ρ)) : E L (cal e Try.prog 78 args G) :=
  d_fn (c := c78) Try.func78 (by kernel_rfl) (by kernel_rfl) (by kernel_rfl) c78_ok (by kernel_rfl) (by kernel_rfl) hρ hs h
-- loop (first region 4): live slots 0:p0 3:i3, of which it writes [3]
/-! (*gharry.gharrylaw03.plain).off -/
noncomputable def c79 : Cfg := { P := Try.prog, n := 91, T := TT, body := (Try.f79.body).getD .skip, res := Try.f79.results.toList, li := lk [] [(0, [0, 1]), (1, [0, 1, 4]), (2, [0, 1, 4, 5]), (3, [0, 1, 4, 5]), (4, [0, 1, 4, 5]), (5, [0, 1, 4, 5]), (6, [0, 1, 4, 5, 6]), (7, [0, 1, 4, 5, 6, 7]), (8, [0, 1, 4, 5, 6, 7]), (9, [0, 1, 4, 5, 6, 7]), (10, [0, 1, 4, 5, 6]), (11, [0, 1, 4, 5]), (12, [0, 1, 4, 5]), (13, [0, 1, 4, 5]), (14, [0, 1, 4, 5]), (15, [0]), (16, [0]), (17, [0])], lo := lk [] [(0, [0, 1, 4]), (1, [0, 1, 4, 5]), (2, [0, 1, 4, 5, 14]), (3, [0, 1, 4, 5]), (4, [0, 1, 4, 5, 25]), (5, [0, 1, 4, 5, 6]), (6, [0, 1, 4, 5, 6, 7]), (7, [0, 1, 4, 5, 6, 7, 30]), (8, [0, 1, 4, 5, 6, 7]), (9, [0, 1, 4, 5, 6, 7]), (10, [0, 1, 4, 5, 37]), (11, [0, 1, 4, 5]), (12, [0, 1, 4, 5]), (13, [0, 1, 4, 5]), (14, [0, 1, 4, 5]), (15, [0]), (16, [0]), (17, []), (1000000, [])], ord := lk (false, []) [(11, (true, [(0, 1), (1, 1), (2, 1), (3, 0), (4, 1), (5, 1), (6, 1), (7, 1), (8, 0), (9, 1), (10, 1), (11, 1), (12, 0), (13, 1), (14, 1), (15, 4)])), (12, (true, [(0, 1), (1, 1), (2, 1), (3, 0), (4, 1), (5, 1), (6, 1), (7, 1), (8, 0), (9, 1), (10, 1), (11, 1), (12, 0), (13, 1), (14, 1), (15, 4)]))] }
@[go_sem] theorem c79_i0 : c79.li 0 = [0, 1] := rfl
@[go_sem] theorem c79_i1 : c79.li 1 = [0, 1, 4] := rfl
@[go_sem] theorem c79_i2 : c79.li 2 = [0, 1, 4, 5] := rfl
@[go_sem] theorem c79_i3 : c79.li 3 = [0, 1, 4, 5] := rfl
@[go_sem] theorem c79_i4 : c79.li 4 = [0, 1, 4, 5] := rfl
@[go_sem] theorem c79_i5 : c79.li 5 = [0, 1, 4, 5] := rfl
@[go_sem] theorem c79_i6 : c79.li 6 = [0, 1, 4, 5, 6] := rfl
@[go_sem] theorem c79_i7 : c79.li 7 = [0, 1, 4, 5, 6, 7] := rfl
@[go_sem] theorem c79_i8 : c79.li 8 = [0, 1, 4, 5, 6, 7] := rfl
@[go_sem] theorem c79_i9 : c79.li 9 = [0, 1, 4, 5, 6, 7] := rfl
@[go_sem] theorem c79_i10 : c79.li 10 = [0, 1, 4, 5, 6] := rfl
@[go_sem] theorem c79_i11 : c79.li 11 = [0, 1, 4, 5] := rfl
@[go_sem] theorem c79_i12 : c79.li 12 = [0, 1, 4, 5] := rfl
@[go_sem] theorem c79_i13 : c79.li 13 = [0, 1, 4, 5] := rfl
@[go_sem] theorem c79_i14 : c79.li 14 = [0, 1, 4, 5] := rfl
@[go_sem] theorem c79_i15 : c79.li 15 = [0] := rfl
@[go_sem] theorem c79_i16 : c79.li 16 = [0] := rfl
@[go_sem] theorem c79_i17 : c79.li 17 = [0] := rfl
@[go_sem] theorem c79_r0 (p0 : Option Addr) (keep1 : Int) (K : Env → W) : RP c79 0 [(0, .pointer p0), (1, .int .u64 keep1)] K =
    (K [(0, .pointer p0), (1, .int .u64 keep1), (4, .int .i64 ((0 : Int)))]) := by kernel_rfl
@[go_sem] theorem c79_r1 (p0 : Option Addr) (keep1 : Int) (k4 : Int) (K : Env → W) : RP c79 1 [(0, .pointer p0), (1, .int .u64 keep1), (4, .int .i64 k4)] K =
    (K [(0, .pointer p0), (1, .int .u64 keep1), (4, .int .i64 k4), (5, .int .i64 ((0 : Int)))]) := by kernel_rfl
@[go_sem] theorem c79_r2 (p0 : Option Addr) (keep1 : Int) (k4 : Int) (i5 : Int) (K : Env → W) : RP c79 2 [(0, .pointer p0), (1, .int .u64 keep1), (4, .int .i64 k4), (5, .int .i64 i5)] K =
    (nn p0 fun y1_ => (ld eSl y1_ fun (y2_ : (Option Addr × Nat × Nat)) => (K [(0, .pointer p0), (1, .int .u64 keep1), (4, .int .i64 k4), (5, .int .i64 i5), (14, .bool ((decide (i5 < (y2_.2.1 : Int)))))]))) := by kernel_rfl
@[go_sem] theorem c79_r3 (p0 : Option Addr) (keep1 : Int) (k4 : Int) (i5 : Int) (K : Env → W) : RP c79 3 [(0, .pointer p0), (1, .int .u64 keep1), (4, .int .i64 k4), (5, .int .i64 i5)] K =
    (K [(0, .pointer p0), (1, .int .u64 keep1), (4, .int .i64 k4), (5, .int .i64 ((IntKind.wrap .i64 (i5 + (1 : Int)))))]) := by kernel_rfl
@[go_sem] theorem c79_r4 (p0 : Option Addr) (keep1 : Int) (k4 : Int) (i5 : Int) (K : Env → W) : RP c79 4 [(0, .pointer p0), (1, .int .u64 keep1), (4, .int .i64 k4), (5, .int .i64 i5)] K =
    (nn p0 fun y1_ => (ld eSl y1_ fun (y2_ : (Option Addr × Nat × Nat)) => (rq (0 ≤ i5 ∧ i5 < (y2_.2.1 : Int)) (nn y2_.1 fun y3_ => (ld eB ((((Addr.add y3_ ((i5).toNat * 3))).add 2)) fun (y4_ : Bool) => (K [(0, .pointer p0), (1, .int .u64 keep1), (4, .int .i64 k4), (5, .int .i64 i5), (25, .bool ((!y4_)))])))))) := by kernel_rfl
@[go_sem] theorem c79_r5 (p0 : Option Addr) (keep1 : Int) (k4 : Int) (i5 : Int) (K : Env → W) : RP c79 5 [(0, .pointer p0), (1, .int .u64 keep1), (4, .int .i64 k4), (5, .int .i64 i5)] K =
    (K [(0, .pointer p0), (1, .int .u64 keep1), (4, .int .i64 k4), (5, .int .i64 i5), (6, .int .u64 keep1)]) := by kernel_rfl
@[go_sem] theorem c79_r6 (p0 : Option Addr) (keep1 : Int) (k4 : Int) (i5 : Int) (bits6 : Int) (K : Env → W) : RP c79 6 [(0, .pointer p0), (1, .int .u64 keep1), (4, .int .i64 k4), (5, .int .i64 i5), (6, .int .u64 bits6)] K =
    (K [(0, .pointer p0), (1, .int .u64 keep1), (4, .int .i64 k4), (5, .int .i64 i5), (6, .int .u64 bits6), (7, .int .i64 ((0 : Int)))]) := by kernel_rfl
@[go_sem] theorem c79_r7 (p0 : Option Addr) (keep1 : Int) (k4 : Int) (i5 : Int) (bits6 : Int) (j7 : Int) (K : Env → W) : RP c79 7 [(0, .pointer p0), (1, .int .u64 keep1), (4, .int .i64 k4), (5, .int .i64 i5), (6, .int .u64 bits6), (7, .int .i64 j7)] K =
    (rq ((64 : Int) ≠ 0) (K [(0, .pointer p0), (1, .int .u64 keep1), (4, .int .i64 k4), (5, .int .i64 i5), (6, .int .u64 bits6), (7, .int .i64 j7), (30, .bool ((decide (j7 < ((k4).tmod ((64 : Int)))))))])) := by kernel_rfl
@[go_sem] theorem c79_r8 (p0 : Option Addr) (keep1 : Int) (k4 : Int) (i5 : Int) (bits6 : Int) (j7 : Int) (K : Env → W) : RP c79 8 [(0, .pointer p0), (1, .int .u64 keep1), (4, .int .i64 k4), (5, .int .i64 i5), (6, .int .u64 bits6), (7, .int .i64 j7)] K =
    (K [(0, .pointer p0), (1, .int .u64 keep1), (4, .int .i64 k4), (5, .int .i64 i5), (6, .int .u64 bits6), (7, .int .i64 ((IntKind.wrap .i64 (j7 + (1 : Int)))))]) := by kernel_rfl
@[go_sem] theorem c79_r9 (p0 : Option Addr) (keep1 : Int) (k4 : Int) (i5 : Int) (bits6 : Int) (j7 : Int) (K : Env → W) : RP c79 9 [(0, .pointer p0), (1, .int .u64 keep1), (4, .int .i64 k4), (5, .int .i64 i5), (6, .int .u64 bits6), (7, .int .i64 j7)] K =
    (rq ((2 : Int) ≠ 0) (K [(0, .pointer p0), (1, .int .u64 keep1), (4, .int .i64 k4), (5, .int .i64 i5), (6, .int .u64 ((IntKind.wrap .u64 ((bits6).tdiv ((2 : Int)))))), (7, .int .i64 j7)])) := by kernel_rfl
@[go_sem] theorem c79_r10 (p0 : Option Addr) (keep1 : Int) (k4 : Int) (i5 : Int) (bits6 : Int) (K : Env → W) : RP c79 10 [(0, .pointer p0), (1, .int .u64 keep1), (4, .int .i64 k4), (5, .int .i64 i5), (6, .int .u64 bits6)] K =
    (rq ((2 : Int) ≠ 0) (K [(0, .pointer p0), (1, .int .u64 keep1), (4, .int .i64 k4), (5, .int .i64 i5), (37, .bool ((((bits6).tmod ((2 : Int))) == (1 : Int))))])) := by kernel_rfl
@[go_sem] theorem c79_r11 (p0 : Option Addr) (keep1 : Int) (k4 : Int) (i5 : Int) (K : Env → W) : RP c79 11 [(0, .pointer p0), (1, .int .u64 keep1), (4, .int .i64 k4), (5, .int .i64 i5)] K =
    (ph fun S0 => (nn p0 fun y1_ => (ldq S0 eSl y1_ fun (y2_ : (Option Addr × Nat × Nat)) => (nn p0 fun y3_ => (ldq S0 eSl y3_ fun (y4_ : (Option Addr × Nat × Nat)) => (rq (0 ≤ i5 ∧ i5 < (y4_.2.1 : Int)) (nn y4_.1 fun y5_ => (ldq S0 eS ((((Addr.add y5_ ((i5).toNat * 3))).add 1)) fun (y6_ : List UInt8) => (rq (0 ≤ i5 ∧ i5 < (y2_.2.1 : Int)) (nn y2_.1 fun y7_ => (st ((Addr.add y7_ ((i5).toNat * 3))) (str y6_) (K [(0, .pointer p0), (1, .int .u64 keep1), (4, .int .i64 k4), (5, .int .i64 i5)])))))))))))) := by kernel_rfl
@[go_sem] theorem c79_r12 (p0 : Option Addr) (keep1 : Int) (k4 : Int) (i5 : Int) (K : Env → W) : RP c79 12 [(0, .pointer p0), (1, .int .u64 keep1), (4, .int .i64 k4), (5, .int .i64 i5)] K =
    (ph fun S0 => (nn p0 fun y1_ => (ldq S0 eSl y1_ fun (y2_ : (Option Addr × Nat × Nat)) => (nn p0 fun y3_ => (ldq S0 eSl y3_ fun (y4_ : (Option Addr × Nat × Nat)) => (rq (0 ≤ i5 ∧ i5 < (y4_.2.1 : Int)) (nn y4_.1 fun y5_ => (ldq S0 eS ((Addr.add y5_ ((i5).toNat * 3))) fun (y6_ : List UInt8) => (rq (0 ≤ i5 ∧ i5 < (y2_.2.1 : Int)) (nn y2_.1 fun y7_ => (st ((((Addr.add y7_ ((i5).toNat * 3))).add 1)) (str y6_) (K [(0, .pointer p0), (1, .int .u64 keep1), (4, .int .i64 k4), (5, .int .i64 i5)])))))))))))) := by kernel_rfl
@[go_sem] theorem c79_r13 (p0 : Option Addr) (keep1 : Int) (k4 : Int) (i5 : Int) (K : Env → W) : RP c79 13 [(0, .pointer p0), (1, .int .u64 keep1), (4, .int .i64 k4), (5, .int .i64 i5)] K =
    (nn p0 fun y1_ => (ld eSl y1_ fun (y2_ : (Option Addr × Nat × Nat)) => (rq (0 ≤ i5 ∧ i5 < (y2_.2.1 : Int)) (nn y2_.1 fun y3_ => (st ((((Addr.add y3_ ((i5).toNat * 3))).add 2)) (.bool false) (K [(0, .pointer p0), (1, .int .u64 keep1), (4, .int .i64 k4), (5, .int .i64 i5)])))))) := by kernel_rfl
@[go_sem] theorem c79_r14 (p0 : Option Addr) (keep1 : Int) (k4 : Int) (i5 : Int) (K : Env → W) : RP c79 14 [(0, .pointer p0), (1, .int .u64 keep1), (4, .int .i64 k4), (5, .int .i64 i5)] K =
    (K [(0, .pointer p0), (1, .int .u64 keep1), (4, .int .i64 ((IntKind.wrap .i64 (k4 + (1 : Int))))), (5, .int .i64 i5)]) := by kernel_rfl
@[go_sem] theorem c79_r15 (p0 : Option Addr) (K : Env → W) : RP c79 15 [(0, .pointer p0)] K =
    (nn p0 fun y1_ => (st ((y1_.add 1)) (.bool true) (K [(0, .pointer p0)]))) := by kernel_rfl
@[go_sem] theorem c79_r16 (p0 : Option Addr) (K : Env → W) : RP c79 16 [(0, .pointer p0)] K =
    (nn p0 fun y1_ => (st ((y1_.add 2)) (.bool false) (K [(0, .pointer p0)]))) := by kernel_rfl
@[go_sem] theorem c79_r17 (p0 : Option Addr) (K : Env → W) : RP c79 17 [(0, .pointer p0)] K =
    (nn p0 fun y1_ => (ld eI ((y1_.add 6)) fun (y2_ : Int) => (nn p0 fun y3_ => (st ((y3_.add 6)) (.int .i64 ((IntKind.wrap .i64 (y2_ + (1 : Int))))) (K []))))) := by kernel_rfl
@[go_sem] theorem c79_o : c79.lo 1000000 = [] := rfl
@[go_sem] theorem c79_e (k : Value → W) : RTp c79 [] k = (k (.tuple #[])) := by kernel_rfl
theorem c79_ok : (c79.P.follows .mixedOrders && okc c79 c79.body) = true := by kernel_rfl
theorem c79_fn {e : Enc} {args : Array Value} {G : e.α → W} {L : List HP} {ρ : Env} (hρ : envA 0 args.toList = ρ) (hs : Nat.ble args.size 91 = true) (h : E L (D c79 (.seq (.reg 0) (.seq (.seq (.reg 1) (.block 0 (.loop (.seq (.seq (.reg 2) (.cond (.tmp 14) (.skip) (.exit 0))) (.seq (.block 1 (.seq (.seq (.reg 4) (.cond (.tmp 25) (.exit 1) (.skip))) (.seq (.reg 5) (.seq (.seq (.reg 6) (.block 2 (.loop (.seq (.seq (.reg 7) (.cond (.tmp 30) (.skip) (.exit 2))) (.seq (.block 3 (.reg 9)) (.reg 8)))))) (.seq (.seq (.reg 10) (.cond (.tmp 37) (.reg 11) (.skip))) (.seq (.reg 12) (.seq (.reg 13) (.reg 14)))))))) (.reg 3)))))) (.seq (.reg 15) (.seq (.reg 16) (.reg 17))))) (fnQ c79 e G) ρ)) : E L (cal e Try.prog 79 args G) :=
  d_fn (c := c79) Try.func79 (by kernel_rfl) (by kernel_rfl) (by kernel_rfl) c79_ok (by kernel_rfl) (by kernel_rfl) hρ hs h
-- loop (first region 7): live slots 0:p0 4:k4 5:i5 6:bits6 7:j7, of which it writes [6, 7]
-- loop (first region 7): live slots 0:p0 1:keep1 4:k4 5:i5 6:bits6 7:j7, of which it writes [6, 7]
-- loop (first region 2): live slots 0:p0 1:keep1 4:k4 5:i5, of which it writes [4, 5]
/-! (*gharry.gharrylaw03.plain).act -/
noncomputable def c91 : Cfg := { P := Try.prog, n := 40, T := TT, body := (Try.f91.body).getD .skip, res := Try.f91.results.toList, li := lk [] [(0, [0]), (1, [0]), (2, [0]), (3, []), (4, [0]), (5, [0]), (6, [0]), (7, [])], lo := lk [] [(0, [0]), (1, [0, 13]), (2, []), (3, [2]), (4, [0, 23]), (5, [0]), (6, []), (7, [2]), (1000000, [2])], ord := lk (false, []) [] }
@[go_sem] theorem c91_i0 : c91.li 0 = [0] := rfl
@[go_sem] theorem c91_i1 : c91.li 1 = [0] := rfl
@[go_sem] theorem c91_i2 : c91.li 2 = [0] := rfl
@[go_sem] theorem c91_i3 : c91.li 3 = [] := rfl
@[go_sem] theorem c91_i4 : c91.li 4 = [0] := rfl
@[go_sem] theorem c91_i5 : c91.li 5 = [0] := rfl
@[go_sem] theorem c91_i6 : c91.li 6 = [0] := rfl
@[go_sem] theorem c91_i7 : c91.li 7 = [] := rfl
@[go_sem] theorem c91_r0 (p0 : Option Addr) (K : Env → W) : RP c91 0 [(0, .pointer p0)] K =
    (K [(0, .pointer p0)]) := by kernel_rfl
@[go_sem] theorem c91_r1 (p0 : Option Addr) (K : Env → W) : RP c91 1 [(0, .pointer p0)] K =
    (nn p0 fun y1_ => (ld eB ((y1_.add 2)) fun (y2_ : Bool) => (cnd y2_ (nn p0 fun y3_ => (ld eI ((y3_.add 3)) fun (y4_ : Int) => (K [(0, .pointer p0), (13, .bool ((y4_ == (0 : Int))))]))) (K [(0, .pointer p0), (13, .bool false)])))) := by kernel_rfl
@[go_sem] theorem c91_r2 (p0 : Option Addr) (K : Env → W) : RP c91 2 [(0, .pointer p0)] K =
    (nn p0 fun y1_ => (ld eU64 ((y1_.add 4)) fun (y2_ : Int) => (cal eN Try.prog 79 #[.pointer p0, .int .u64 y2_] fun (y3_ : Unit) => (K [])))) := by kernel_rfl
@[go_sem] theorem c91_r3 (K : Env → W) : RP c91 3 [] K =
    (K [(2, .bool false)]) := by kernel_rfl
@[go_sem] theorem c91_r4 (p0 : Option Addr) (K : Env → W) : RP c91 4 [(0, .pointer p0)] K =
    (nn p0 fun y1_ => (ld eB ((y1_.add 2)) fun (y2_ : Bool) => (K [(0, .pointer p0), (23, .bool y2_)]))) := by kernel_rfl
@[go_sem] theorem c91_r5 (p0 : Option Addr) (K : Env → W) : RP c91 5 [(0, .pointer p0)] K =
    (nn p0 fun y1_ => (ld eI ((y1_.add 3)) fun (y2_ : Int) => (nn p0 fun y3_ => (st ((y3_.add 3)) (.int .i64 ((IntKind.wrap .i64 (y2_ - (1 : Int))))) (K [(0, .pointer p0)]))))) := by kernel_rfl
@[go_sem] theorem c91_r6 (p0 : Option Addr) (K : Env → W) : RP c91 6 [(0, .pointer p0)] K =
    (nn p0 fun y1_ => (ld eI ((y1_.add 5)) fun (y2_ : Int) => (nn p0 fun y3_ => (st ((y3_.add 5)) (.int .i64 ((IntKind.wrap .i64 (y2_ + (1 : Int))))) (K []))))) := by kernel_rfl
@[go_sem] theorem c91_r7 (K : Env → W) : RP c91 7 [] K =
    (K [(2, .bool true)]) := by kernel_rfl
@[go_sem] theorem c91_o : c91.lo 1000000 = [2] := rfl
@[go_sem] theorem c91_e (t2 : Bool) (k : Value → W) : RTp c91 [(2, .bool t2)] k = (k (.bool t2)) := by kernel_rfl
theorem c91_ok : (c91.P.follows .mixedOrders && okc c91 c91.body) = true := by kernel_rfl
theorem c91_fn {e : Enc} {args : Array Value} {G : e.α → W} {L : List HP} {ρ : Env} (hρ : envA 0 args.toList = ρ) (hs : Nat.ble args.size 40 = true) (h : E L (D c91 (.seq (.reg 0) (.seq (.seq (.reg 1) (.cond (.tmp 13) (.seq (.reg 2) (.seq (.reg 3) (.ret))) (.skip))) (.seq (.seq (.reg 4) (.cond (.tmp 23) (.reg 5) (.skip))) (.seq (.reg 6) (.seq (.reg 7) (.ret)))))) (fnQ c91 e G) ρ)) : E L (cal e Try.prog 91 args G) :=
  d_fn (c := c91) Try.func91 (by kernel_rfl) (by kernel_rfl) (by kernel_rfl) c91_ok (by kernel_rfl) (by kernel_rfl) hρ hs h
end Go.Sp
