/- What each region of the Go functions does. Written by my own generator. -/
import Derived.Test.YtpadmllpdkknnaaT
namespace Go.Sp
open Go
set_option maxRecDepth 100000
set_option linter.unusedVariables false
open Go.Proofs
/-! gharry.gharrylaw09.BaseLoads -/
noncomputable def c5 : Cfg := { P := Try.prog, n := 71, T := TT, body := (Try.f5.body).getD .skip, res := Try.f5.results.toList, li := lk [] [(0, [0]), (1, [0]), (2, [0, 3, 4]), (3, []), (4, [0, 3]), (5, []), (6, [3]), (7, [3, 5]), (8, [5, 7, 8]), (9, []), (10, [5, 7, 8]), (11, [7, 8]), (12, [5, 7, 8]), (13, [5, 8, 9, 10])], lo := lk [] [(0, [0]), (1, [0, 3, 4]), (2, [0, 3, 20]), (3, [2]), (4, [3, 24]), (5, [2]), (6, [3, 5]), (7, [5, 7, 8]), (8, [5, 7, 8, 38]), (9, [2]), (10, [5, 7, 8, 41]), (11, [2]), (12, [5, 8, 9, 10]), (13, [2]), (1000000, [2])], ord := lk (false, []) [] }
@[go_sem] theorem c5_i0 : c5.li 0 = [0] := rfl
@[go_sem] theorem c5_i1 : c5.li 1 = [0] := rfl
@[go_sem] theorem c5_i2 : c5.li 2 = [0, 3, 4] := rfl
@[go_sem] theorem c5_i3 : c5.li 3 = [] := rfl
@[go_sem] theorem c5_i4 : c5.li 4 = [0, 3] := rfl
@[go_sem] theorem c5_i5 : c5.li 5 = [] := rfl
@[go_sem] theorem c5_i6 : c5.li 6 = [3] := rfl
@[go_sem] theorem c5_i7 : c5.li 7 = [3, 5] := rfl
@[go_sem] theorem c5_i8 : c5.li 8 = [5, 7, 8] := rfl
@[go_sem] theorem c5_i9 : c5.li 9 = [] := rfl
@[go_sem] theorem c5_i10 : c5.li 10 = [5, 7, 8] := rfl
@[go_sem] theorem c5_i11 : c5.li 11 = [7, 8] := rfl
@[go_sem] theorem c5_i12 : c5.li 12 = [5, 7, 8] := rfl
@[go_sem] theorem c5_i13 : c5.li 13 = [5, 8, 9, 10] := rfl
@[go_sem] theorem c5_r0 (s0 : List UInt8) (K : Env → W) : RP c5 0 [(0, str s0)] K =
    (K [(0, str s0)]) := by kernel_rfl
@[go_sem] theorem c5_r1 (s0 : List UInt8) (K : Env → W) : RP c5 1 [(0, str s0)] K =
    (cal (eT2 eP eI) Try.prog 25 #[.int .i64 ((1 : Int))] fun (y1_ : ((Option Addr) × Int)) => (K [(0, str s0), (3, .pointer y1_.1), (4, .int .i64 y1_.2)])) := by kernel_rfl
@[go_sem] theorem c5_r2 (s0 : List UInt8) (d3 : Option Addr) (e4 : Int) (K : Env → W) : RP c5 2 [(0, str s0), (3, .pointer d3), (4, .int .i64 e4)] K =
    (cnd ((e4 != (0 : Int))) (K [(0, str s0), (3, .pointer d3), (20, .bool true)]) (K [(0, str s0), (3, .pointer d3), (20, .bool ((d3).isNone))])) := by kernel_rfl
@[go_sem] theorem c5_r3 (K : Env → W) : RP c5 3 [] K =
    (K [(2, .bool false)]) := by kernel_rfl
@[go_sem] theorem c5_r4 (s0 : List UInt8) (d3 : Option Addr) (K : Env → W) : RP c5 4 [(0, str s0), (3, .pointer d3)] K =
    (cal eI Try.prog 27 #[.pointer d3, .int .i64 ((0 : Int)), str s0] fun (y1_ : Int) => (K [(3, .pointer d3), (24, .bool ((y1_ != (0 : Int))))])) := by kernel_rfl
@[go_sem] theorem c5_r5 (K : Env → W) : RP c5 5 [] K =
    (cal eB Try.prog 33 #[] fun (y1_ : Bool) => (K [(2, .bool y1_)])) := by kernel_rfl
@[go_sem] theorem c5_r6 (d3 : Option Addr) (K : Env → W) : RP c5 6 [(3, .pointer d3)] K =
    (cal (eT2 eS eI) Try.prog 31 #[.pointer d3, .int .i64 ((0 : Int))] fun (y1_ : ((List UInt8) × Int)) => (K [(3, .pointer d3), (5, str y1_.1)])) := by kernel_rfl
@[go_sem] theorem c5_r7 (d3 : Option Addr) (t5 : List UInt8) (K : Env → W) : RP c5 7 [(3, .pointer d3), (5, str t5)] K =
    (cal (eT2 e_base_Base eI) Try.prog 34 #[.pointer d3] fun (y1_ : (base_Base × Int)) => (nwc #[.int .i64 ((0 : Int)), .int .i64 ((0 : Int)), .int .i64 ((0 : Int)), .int .i64 ((0 : Int)), .int .i64 ((0 : Int)), .int .i64 ((0 : Int)), .int .i64 ((0 : Int))] 39 fun y2_ => (stl [.int .i64 y1_.1.Node, .int .i64 y1_.1.Boot, .int .i64 y1_.1.Gen, .int .i64 y1_.1.Check, .int .i64 y1_.1.Redo, .int .i64 y1_.1.Seen, .int .i64 y1_.1.Joined] y2_ 0 (K [(5, str t5), (7, .pointer (some y2_)), (8, .int .i64 y1_.2)])))) := by kernel_rfl
@[go_sem] theorem c5_r8 (t5 : List UInt8) (b7 : Addr) (f8 : Int) (K : Env → W) : RP c5 8 [(5, str t5), (7, .pointer (some b7)), (8, .int .i64 f8)] K =
    (K [(5, str t5), (7, .pointer (some b7)), (8, .int .i64 f8), (38, .bool ((((t5).length : Int) != (64 : Int))))]) := by kernel_rfl
@[go_sem] theorem c5_r9 (K : Env → W) : RP c5 9 [] K =
    (K [(2, .bool false)]) := by kernel_rfl
@[go_sem] theorem c5_r10 (t5 : List UInt8) (b7 : Addr) (f8 : Int) (K : Env → W) : RP c5 10 [(5, str t5), (7, .pointer (some b7)), (8, .int .i64 f8)] K =
    (rq (0 ≤ (0 : Int) ∧ 0 ≤ (9 : Int) ∧ (9 : Int) ≤ ((t5).length : Int)) (K [(5, str t5), (7, .pointer (some b7)), (8, .int .i64 f8), (41, .bool ((!((ss t5 0 ((9 : Int))) == ([0, 7, 103, 104, 97, 114, 114, 121, 49] : List UInt8)))))])) := by kernel_rfl
@[go_sem] theorem c5_r11 (b7 : Addr) (f8 : Int) (K : Env → W) : RP c5 11 [(7, .pointer (some b7)), (8, .int .i64 f8)] K =
    (ldn e_base_Base 7 b7 fun (y1_ : base_Base) => (val eB Try.prog (oEq .eql 39 (.tmp 42) (.tmp 43) (v_base_Base y1_) (v_base_Base ((⟨(0 : Int), (0 : Int), (0 : Int), (0 : Int), (0 : Int), (0 : Int), (0 : Int)⟩ : base_Base)))) fun (y2_ : Bool) => (cnd y2_ (cnd ((f8 == (8 : Int))) (cal eB Try.prog 33 #[] fun (y3_ : Bool) => (K [(2, .bool y3_)])) (K [(2, .bool false)])) (K [(2, .bool false)])))) := by kernel_rfl
@[go_sem] theorem c5_r12 (t5 : List UInt8) (b7 : Addr) (f8 : Int) (K : Env → W) : RP c5 12 [(5, str t5), (7, .pointer (some b7)), (8, .int .i64 f8)] K =
    (ldn e_base_Base 7 b7 fun (y1_ : base_Base) => (cal (eT2 eS eB) Try.prog 35 #[v_base_Base y1_] fun (y2_ : ((List UInt8) × Bool)) => (K [(5, str t5), (8, .int .i64 f8), (9, str y2_.1), (10, .bool y2_.2)]))) := by kernel_rfl
@[go_sem] theorem c5_r13 (t5 : List UInt8) (f8 : Int) (u9 : List UInt8) (fits10 : Bool) (K : Env → W) : RP c5 13 [(5, str t5), (8, .int .i64 f8), (9, str u9), (10, .bool fits10)] K =
    (cnd ((f8 == (0 : Int))) (cnd fits10 (rq (0 ≤ (0 : Int) ∧ 0 ≤ (36 : Int) ∧ (36 : Int) ≤ ((t5).length : Int)) (cnd (((ss t5 0 ((36 : Int))) == u9)) (cal eB Try.prog 33 #[] fun (y1_ : Bool) => (K [(2, .bool y1_)])) (K [(2, .bool false)]))) (K [(2, .bool false)])) (K [(2, .bool false)])) := by kernel_rfl
@[go_sem] theorem c5_o : c5.lo 1000000 = [2] := rfl
@[go_sem] theorem c5_e (t2 : Bool) (k : Value → W) : RTp c5 [(2, .bool t2)] k = (k (.bool t2)) := by kernel_rfl
theorem c5_ok : (c5.P.follows .mixedOrders && okc c5 c5.body) = true := by kernel_rfl
theorem c5_fn {e : Enc} {args : Array Value} {G : e.α → W} {L : List HP} {ρ : Env} (hρ : envA 0 args.toList = ρ) (hs : Nat.ble args.size 71 = true) (h : E L (D c5 (.seq (.reg 0) (.seq (.reg 1) (.seq (.seq (.reg 2) (.cond (.tmp 20) (.seq (.reg 3) (.ret)) (.skip))) (.seq (.seq (.reg 4) (.cond (.tmp 24) (.seq (.reg 5) (.ret)) (.skip))) (.seq (.reg 6) (.seq (.reg 7) (.seq (.seq (.reg 8) (.cond (.tmp 38) (.seq (.reg 9) (.ret)) (.skip))) (.seq (.seq (.reg 10) (.cond (.tmp 41) (.seq (.reg 11) (.ret)) (.skip))) (.seq (.reg 12) (.seq (.reg 13) (.ret))))))))))) (fnQ c5 e G) ρ)) : E L (cal e Try.prog 5 args G) :=
  d_fn (c := c5) Try.func5 (by kernel_rfl) (by kernel_rfl) (by kernel_rfl) c5_ok (by kernel_rfl) (by kernel_rfl) hρ hs h
/-! gharry.gharrylaw09.BaseSaves -/
noncomputable def c8 : Cfg := { P := Try.prog, n := 99, T := TT, body := (Try.f8.body).getD .skip, res := Try.f8.results.toList, li := lk [] [(0, [0]), (1, [1]), (2, [1, 3, 4]), (3, []), (4, [1, 3]), (5, [1, 3, 5]), (6, [1, 3, 5, 6, 7]), (7, [1, 3, 5, 6, 7, 8, 9]), (8, [3, 5, 8, 9]), (9, [1, 3, 5, 6, 8, 9]), (10, [1, 3, 5, 6, 8, 9, 10, 11])], lo := lk [] [(0, [1]), (1, [1, 3, 4]), (2, [1, 3, 21]), (3, [2]), (4, [1, 3, 5]), (5, [1, 3, 5, 6, 7]), (6, [1, 3, 5, 6, 7, 8, 9]), (7, [1, 3, 5, 6, 8, 9, 36]), (8, [2]), (9, [1, 3, 5, 6, 8, 9, 10, 11]), (10, [2]), (1000000, [2])], ord := lk (false, []) [] }
@[go_sem] theorem c8_i0 : c8.li 0 = [0] := rfl
@[go_sem] theorem c8_i1 : c8.li 1 = [1] := rfl
@[go_sem] theorem c8_i2 : c8.li 2 = [1, 3, 4] := rfl
@[go_sem] theorem c8_i3 : c8.li 3 = [] := rfl
@[go_sem] theorem c8_i4 : c8.li 4 = [1, 3] := rfl
@[go_sem] theorem c8_i5 : c8.li 5 = [1, 3, 5] := rfl
@[go_sem] theorem c8_i6 : c8.li 6 = [1, 3, 5, 6, 7] := rfl
@[go_sem] theorem c8_i7 : c8.li 7 = [1, 3, 5, 6, 7, 8, 9] := rfl
@[go_sem] theorem c8_i8 : c8.li 8 = [3, 5, 8, 9] := rfl
@[go_sem] theorem c8_i9 : c8.li 9 = [1, 3, 5, 6, 8, 9] := rfl
@[go_sem] theorem c8_i10 : c8.li 10 = [1, 3, 5, 6, 8, 9, 10, 11] := rfl
@[go_sem] theorem c8_r0 (b0 : base_Base) (K : Env → W) : RP c8 0 [(0, v_base_Base b0)] K =
    (nwc #[.int .i64 b0.Node, .int .i64 b0.Boot, .int .i64 b0.Gen, .int .i64 b0.Check, .int .i64 b0.Redo, .int .i64 b0.Seen, .int .i64 b0.Joined] 39 fun y1_ => (K [(1, .pointer (some y1_))])) := by kernel_rfl
@[go_sem] theorem c8_r1 (b1 : Addr) (K : Env → W) : RP c8 1 [(1, .pointer (some b1))] K =
    (cal (eT2 eP eI) Try.prog 25 #[.int .i64 ((2 : Int))] fun (y1_ : ((Option Addr) × Int)) => (K [(1, .pointer (some b1)), (3, .pointer y1_.1), (4, .int .i64 y1_.2)])) := by kernel_rfl
@[go_sem] theorem c8_r2 (b1 : Addr) (d3 : Option Addr) (e4 : Int) (K : Env → W) : RP c8 2 [(1, .pointer (some b1)), (3, .pointer d3), (4, .int .i64 e4)] K =
    (cnd ((e4 != (0 : Int))) (K [(1, .pointer (some b1)), (3, .pointer d3), (21, .bool true)]) (K [(1, .pointer (some b1)), (3, .pointer d3), (21, .bool ((d3).isNone))])) := by kernel_rfl
@[go_sem] theorem c8_r3 (K : Env → W) : RP c8 3 [] K =
    (K [(2, .bool false)]) := by kernel_rfl
@[go_sem] theorem c8_r4 (b1 : Addr) (d3 : Option Addr) (K : Env → W) : RP c8 4 [(1, .pointer (some b1)), (3, .pointer d3)] K =
    (ldn e_base_Base 7 b1 fun (y1_ : base_Base) => (cal eI Try.prog 44 #[.pointer d3, v_base_Base y1_] fun (y2_ : Int) => (K [(1, .pointer (some b1)), (3, .pointer d3), (5, .int .i64 y2_)]))) := by kernel_rfl
@[go_sem] theorem c8_r5 (b1 : Addr) (d3 : Option Addr) (f5 : Int) (K : Env → W) : RP c8 5 [(1, .pointer (some b1)), (3, .pointer d3), (5, .int .i64 f5)] K =
    (ldn e_base_Base 7 b1 fun (y1_ : base_Base) => (cal (eT2 eS eB) Try.prog 35 #[v_base_Base y1_] fun (y2_ : ((List UInt8) × Bool)) => (K [(1, .pointer (some b1)), (3, .pointer d3), (5, .int .i64 f5), (6, str y2_.1), (7, .bool y2_.2)]))) := by kernel_rfl
@[go_sem] theorem c8_r6 (b1 : Addr) (d3 : Option Addr) (f5 : Int) (s6 : List UInt8) (fits7 : Bool) (K : Env → W) : RP c8 6 [(1, .pointer (some b1)), (3, .pointer d3), (5, .int .i64 f5), (6, str s6), (7, .bool fits7)] K =
    (cal (eT2 e_base_Base eI) Try.prog 34 #[.pointer d3] fun (y1_ : (base_Base × Int)) => (nwc #[.int .i64 ((0 : Int)), .int .i64 ((0 : Int)), .int .i64 ((0 : Int)), .int .i64 ((0 : Int)), .int .i64 ((0 : Int)), .int .i64 ((0 : Int)), .int .i64 ((0 : Int))] 39 fun y2_ => (stl [.int .i64 y1_.1.Node, .int .i64 y1_.1.Boot, .int .i64 y1_.1.Gen, .int .i64 y1_.1.Check, .int .i64 y1_.1.Redo, .int .i64 y1_.1.Seen, .int .i64 y1_.1.Joined] y2_ 0 (K [(1, .pointer (some b1)), (3, .pointer d3), (5, .int .i64 f5), (6, str s6), (7, .bool fits7), (8, .pointer (some y2_)), (9, .int .i64 y1_.2)])))) := by kernel_rfl
@[go_sem] theorem c8_r7 (b1 : Addr) (d3 : Option Addr) (f5 : Int) (s6 : List UInt8) (fits7 : Bool) (x8 : Addr) (g9 : Int) (K : Env → W) : RP c8 7 [(1, .pointer (some b1)), (3, .pointer d3), (5, .int .i64 f5), (6, str s6), (7, .bool fits7), (8, .pointer (some x8)), (9, .int .i64 g9)] K =
    (K [(1, .pointer (some b1)), (3, .pointer d3), (5, .int .i64 f5), (6, str s6), (8, .pointer (some x8)), (9, .int .i64 g9), (36, .bool ((!fits7)))]) := by kernel_rfl
@[go_sem] theorem c8_r8 (d3 : Option Addr) (f5 : Int) (x8 : Addr) (g9 : Int) (K : Env → W) : RP c8 8 [(3, .pointer d3), (5, .int .i64 f5), (8, .pointer (some x8)), (9, .int .i64 g9)] K =
    (cnd ((f5 == (6 : Int))) (ldn e_base_Base 7 x8 fun (y1_ : base_Base) => (val eB Try.prog (oEq .eql 39 (.tmp 40) (.tmp 41) (v_base_Base y1_) (v_base_Base ((⟨(0 : Int), (0 : Int), (0 : Int), (0 : Int), (0 : Int), (0 : Int), (0 : Int)⟩ : base_Base)))) fun (y2_ : Bool) => (cnd y2_ (cnd ((g9 == (8 : Int))) (cal eSl Try.prog 43 #[.pointer d3] fun (y3_ : (Option Addr × Nat × Nat)) => (cnd (((y3_.2.1 : Int) == (0 : Int))) (cal eB Try.prog 33 #[] fun (y4_ : Bool) => (K [(2, .bool y4_)])) (K [(2, .bool false)]))) (K [(2, .bool false)])) (K [(2, .bool false)])))) (K [(2, .bool false)])) := by kernel_rfl
@[go_sem] theorem c8_r9 (b1 : Addr) (d3 : Option Addr) (f5 : Int) (s6 : List UInt8) (x8 : Addr) (g9 : Int) (K : Env → W) : RP c8 9 [(1, .pointer (some b1)), (3, .pointer d3), (5, .int .i64 f5), (6, str s6), (8, .pointer (some x8)), (9, .int .i64 g9)] K =
    (cal (eT2 eS eI) Try.prog 31 #[.pointer d3, .int .i64 ((0 : Int))] fun (y1_ : ((List UInt8) × Int)) => (K [(1, .pointer (some b1)), (3, .pointer d3), (5, .int .i64 f5), (6, str s6), (8, .pointer (some x8)), (9, .int .i64 g9), (10, str y1_.1), (11, .int .i64 y1_.2)])) := by kernel_rfl
@[go_sem] theorem c8_r10 (b1 : Addr) (d3 : Option Addr) (f5 : Int) (s6 : List UInt8) (x8 : Addr) (g9 : Int) (t10 : List UInt8) (h11 : Int) (K : Env → W) : RP c8 10 [(1, .pointer (some b1)), (3, .pointer d3), (5, .int .i64 f5), (6, str s6), (8, .pointer (some x8)), (9, .int .i64 g9), (10, str t10), (11, .int .i64 h11)] K =
    (cnd ((f5 == (0 : Int))) (cnd ((h11 == (0 : Int))) (cnd ((((t10).length : Int) == (64 : Int))) (rq (0 ≤ (0 : Int) ∧ 0 ≤ ((s6).length : Int) ∧ ((s6).length : Int) ≤ ((t10).length : Int)) (cnd (((ss t10 0 (((s6).length : Int))) == s6)) (cal eSl Try.prog 43 #[.pointer d3] fun (y1_ : (Option Addr × Nat × Nat)) => (cnd (((y1_.2.1 : Int) == (0 : Int))) (ldn e_base_Base 7 x8 fun (y2_ : base_Base) => (ldn e_base_Base 7 b1 fun (y3_ : base_Base) => (val eB Try.prog (oEq .eql 39 (.tmp 88) (.tmp 89) (v_base_Base y2_) (v_base_Base y3_)) fun (y4_ : Bool) => (cnd y4_ (cnd ((g9 == (0 : Int))) (cal eB Try.prog 33 #[] fun (y5_ : Bool) => (K [(2, .bool y5_)])) (K [(2, .bool false)])) (K [(2, .bool false)]))))) (K [(2, .bool false)]))) (K [(2, .bool false)]))) (K [(2, .bool false)])) (K [(2, .bool false)])) (K [(2, .bool false)])) := by kernel_rfl
@[go_sem] theorem c8_o : c8.lo 1000000 = [2] := rfl
@[go_sem] theorem c8_e (t2 : Bool) (k : Value → W) : RTp c8 [(2, .bool t2)] k = (k (.bool t2)) := by kernel_rfl
theorem c8_ok : (c8.P.follows .mixedOrders && okc c8 c8.body) = true := by kernel_rfl
theorem c8_fn {e : Enc} {args : Array Value} {G : e.α → W} {L : List HP} {ρ : Env} (hρ : envA 0 args.toList = ρ) (hs : Nat.ble args.size 99 = true) (h : E L (D c8 (.seq (.reg 0) (.seq (.reg 1) (.seq (.seq (.reg 2) (.cond (.tmp 21) (.seq (.reg 3) (.ret)) (.skip))) (.seq (.reg 4) (.seq (.reg 5) (.seq (.reg 6) (.seq (.seq (.reg 7) (.cond (.tmp 36) (.seq (.reg 8) (.ret)) (.skip))) (.seq (.reg 9) (.seq (.reg 10) (.ret)))))))))) (fnQ c8 e G) ρ)) : E L (cal e Try.prog 8 args G) :=
  d_fn (c := c8) Try.func8 (by kernel_rfl) (by kernel_rfl) (by kernel_rfl) c8_ok (by kernel_rfl) (by kernel_rfl) hρ hs h
/-! gharry.gharrylaw09.BaseEither -/
noncomputable def c13 : Cfg := { P := Try.prog, n := 94, T := TT, body := (Try.f13.body).getD .skip, res := Try.f13.results.toList, li := lk [] [(0, [0, 1, 2, 3]), (1, [2, 3, 4, 5]), (2, [2, 3, 4, 5, 10]), (3, [2, 3, 4, 5, 10, 12]), (4, [2, 3, 4, 5, 10, 12, 13, 14]), (5, []), (6, [2, 3, 4, 5, 10, 12, 13]), (7, []), (8, [2, 3, 4, 5, 13]), (9, []), (10, [4, 5, 13]), (11, [4, 5, 15, 16])], lo := lk [] [(0, [2, 3, 4, 5]), (1, [2, 3, 4, 5, 10]), (2, [2, 3, 4, 5, 10, 12]), (3, [2, 3, 4, 5, 10, 12, 13, 14]), (4, [2, 3, 4, 5, 10, 12, 13, 36]), (5, [8]), (6, [2, 3, 4, 5, 13, 50]), (7, [8]), (8, [4, 5, 13, 73]), (9, [8]), (10, [4, 5, 15, 16]), (11, [8]), (1000000, [8])], ord := lk (false, []) [] }
@[go_sem] theorem c13_i0 : c13.li 0 = [0, 1, 2, 3] := rfl
@[go_sem] theorem c13_i1 : c13.li 1 = [2, 3, 4, 5] := rfl
@[go_sem] theorem c13_i2 : c13.li 2 = [2, 3, 4, 5, 10] := rfl
@[go_sem] theorem c13_i3 : c13.li 3 = [2, 3, 4, 5, 10, 12] := rfl
@[go_sem] theorem c13_i4 : c13.li 4 = [2, 3, 4, 5, 10, 12, 13, 14] := rfl
@[go_sem] theorem c13_i5 : c13.li 5 = [] := rfl
@[go_sem] theorem c13_i6 : c13.li 6 = [2, 3, 4, 5, 10, 12, 13] := rfl
@[go_sem] theorem c13_i7 : c13.li 7 = [] := rfl
@[go_sem] theorem c13_i8 : c13.li 8 = [2, 3, 4, 5, 13] := rfl
@[go_sem] theorem c13_i9 : c13.li 9 = [] := rfl
@[go_sem] theorem c13_i10 : c13.li 10 = [4, 5, 13] := rfl
@[go_sem] theorem c13_i11 : c13.li 11 = [4, 5, 15, 16] := rfl
@[go_sem] theorem c13_r0 (a0 : base_Base) (b1 : base_Base) (acts2 : Int) (keep3 : Int) (K : Env → W) : RP c13 0 [(0, v_base_Base a0), (1, v_base_Base b1), (2, .int .i64 acts2), (3, .int .u64 keep3)] K =
    (nwc #[.int .i64 a0.Node, .int .i64 a0.Boot, .int .i64 a0.Gen, .int .i64 a0.Check, .int .i64 a0.Redo, .int .i64 a0.Seen, .int .i64 a0.Joined] 39 fun y1_ => (nwc #[.int .i64 b1.Node, .int .i64 b1.Boot, .int .i64 b1.Gen, .int .i64 b1.Check, .int .i64 b1.Redo, .int .i64 b1.Seen, .int .i64 b1.Joined] 39 fun y2_ => (K [(2, .int .i64 acts2), (3, .int .u64 keep3), (4, .pointer (some y1_)), (5, .pointer (some y2_))]))) := by kernel_rfl
@[go_sem] theorem c13_r1 (acts2 : Int) (keep3 : Int) (a4 : Addr) (b5 : Addr) (K : Env → W) : RP c13 1 [(2, .int .i64 acts2), (3, .int .u64 keep3), (4, .pointer (some a4)), (5, .pointer (some b5))] K =
    (ldn e_base_Base 7 a4 fun (y1_ : base_Base) => (cal (eT2 eS eB) Try.prog 35 #[v_base_Base y1_] fun (y2_ : ((List UInt8) × Bool)) => (K [(2, .int .i64 acts2), (3, .int .u64 keep3), (4, .pointer (some a4)), (5, .pointer (some b5)), (10, .bool y2_.2)]))) := by kernel_rfl
@[go_sem] theorem c13_r2 (acts2 : Int) (keep3 : Int) (a4 : Addr) (b5 : Addr) (x10 : Bool) (K : Env → W) : RP c13 2 [(2, .int .i64 acts2), (3, .int .u64 keep3), (4, .pointer (some a4)), (5, .pointer (some b5)), (10, .bool x10)] K =
    (ldn e_base_Base 7 b5 fun (y1_ : base_Base) => (cal (eT2 eS eB) Try.prog 35 #[v_base_Base y1_] fun (y2_ : ((List UInt8) × Bool)) => (K [(2, .int .i64 acts2), (3, .int .u64 keep3), (4, .pointer (some a4)), (5, .pointer (some b5)), (10, .bool x10), (12, .bool y2_.2)]))) := by kernel_rfl
@[go_sem] theorem c13_r3 (acts2 : Int) (keep3 : Int) (a4 : Addr) (b5 : Addr) (x10 : Bool) (y12 : Bool) (K : Env → W) : RP c13 3 [(2, .int .i64 acts2), (3, .int .u64 keep3), (4, .pointer (some a4)), (5, .pointer (some b5)), (10, .bool x10), (12, .bool y12)] K =
    (cal (eT2 eP eI) Try.prog 25 #[.int .i64 ((1 : Int))] fun (y1_ : ((Option Addr) × Int)) => (K [(2, .int .i64 acts2), (3, .int .u64 keep3), (4, .pointer (some a4)), (5, .pointer (some b5)), (10, .bool x10), (12, .bool y12), (13, .pointer y1_.1), (14, .int .i64 y1_.2)])) := by kernel_rfl
@[go_sem] theorem c13_r4 (acts2 : Int) (keep3 : Int) (a4 : Addr) (b5 : Addr) (x10 : Bool) (y12 : Bool) (d13 : Option Addr) (e14 : Int) (K : Env → W) : RP c13 4 [(2, .int .i64 acts2), (3, .int .u64 keep3), (4, .pointer (some a4)), (5, .pointer (some b5)), (10, .bool x10), (12, .bool y12), (13, .pointer d13), (14, .int .i64 e14)] K =
    (cnd ((e14 != (0 : Int))) (K [(2, .int .i64 acts2), (3, .int .u64 keep3), (4, .pointer (some a4)), (5, .pointer (some b5)), (10, .bool x10), (12, .bool y12), (13, .pointer d13), (36, .bool true)]) (K [(2, .int .i64 acts2), (3, .int .u64 keep3), (4, .pointer (some a4)), (5, .pointer (some b5)), (10, .bool x10), (12, .bool y12), (13, .pointer d13), (36, .bool ((d13).isNone))])) := by kernel_rfl
@[go_sem] theorem c13_r5 (K : Env → W) : RP c13 5 [] K =
    (K [(8, .bool false)]) := by kernel_rfl
@[go_sem] theorem c13_r6 (acts2 : Int) (keep3 : Int) (a4 : Addr) (b5 : Addr) (x10 : Bool) (y12 : Bool) (d13 : Option Addr) (K : Env → W) : RP c13 6 [(2, .int .i64 acts2), (3, .int .u64 keep3), (4, .pointer (some a4)), (5, .pointer (some b5)), (10, .bool x10), (12, .bool y12), (13, .pointer d13)] K =
    (cnd ((!x10)) (K [(2, .int .i64 acts2), (3, .int .u64 keep3), (4, .pointer (some a4)), (5, .pointer (some b5)), (13, .pointer d13), (50, .bool true)]) (cnd ((!y12)) (K [(2, .int .i64 acts2), (3, .int .u64 keep3), (4, .pointer (some a4)), (5, .pointer (some b5)), (13, .pointer d13), (50, .bool true)]) (cnd ((decide (acts2 < (0 : Int)))) (K [(2, .int .i64 acts2), (3, .int .u64 keep3), (4, .pointer (some a4)), (5, .pointer (some b5)), (13, .pointer d13), (50, .bool true)]) (K [(2, .int .i64 acts2), (3, .int .u64 keep3), (4, .pointer (some a4)), (5, .pointer (some b5)), (13, .pointer d13), (50, .bool ((decide ((1 : Int) < acts2))))])))) := by kernel_rfl
@[go_sem] theorem c13_r7 (K : Env → W) : RP c13 7 [] K =
    (cal eB Try.prog 33 #[] fun (y1_ : Bool) => (K [(8, .bool y1_)])) := by kernel_rfl
@[go_sem] theorem c13_r8 (acts2 : Int) (keep3 : Int) (a4 : Addr) (b5 : Addr) (d13 : Option Addr) (K : Env → W) : RP c13 8 [(2, .int .i64 acts2), (3, .int .u64 keep3), (4, .pointer (some a4)), (5, .pointer (some b5)), (13, .pointer d13)] K =
    (ldn e_base_Base 7 a4 fun (y1_ : base_Base) => (cal eI Try.prog 44 #[.pointer d13, v_base_Base y1_] fun (y2_ : Int) => (cnd ((y2_ != (0 : Int))) (K [(4, .pointer (some a4)), (5, .pointer (some b5)), (13, .pointer d13), (73, .bool true)]) (cal eI Try.prog 42 #[.pointer d13, .int .i64 acts2, .int .u64 keep3] fun (y3_ : Int) => (cnd ((y3_ != (0 : Int))) (K [(4, .pointer (some a4)), (5, .pointer (some b5)), (13, .pointer d13), (73, .bool true)]) (ldn e_base_Base 7 b5 fun (y4_ : base_Base) => (cal eI Try.prog 44 #[.pointer d13, v_base_Base y4_] fun (y5_ : Int) => (cnd ((y5_ != (9 : Int))) (K [(4, .pointer (some a4)), (5, .pointer (some b5)), (13, .pointer d13), (73, .bool true)]) (cal eI Try.prog 30 #[.pointer d13] fun (y6_ : Int) => (K [(4, .pointer (some a4)), (5, .pointer (some b5)), (13, .pointer d13), (73, .bool ((y6_ != (0 : Int))))])))))))))) := by kernel_rfl
@[go_sem] theorem c13_r9 (K : Env → W) : RP c13 9 [] K =
    (K [(8, .bool false)]) := by kernel_rfl
@[go_sem] theorem c13_r10 (a4 : Addr) (b5 : Addr) (d13 : Option Addr) (K : Env → W) : RP c13 10 [(4, .pointer (some a4)), (5, .pointer (some b5)), (13, .pointer d13)] K =
    (cal (eT2 e_base_Base eI) Try.prog 34 #[.pointer d13] fun (y1_ : (base_Base × Int)) => (nwc #[.int .i64 ((0 : Int)), .int .i64 ((0 : Int)), .int .i64 ((0 : Int)), .int .i64 ((0 : Int)), .int .i64 ((0 : Int)), .int .i64 ((0 : Int)), .int .i64 ((0 : Int))] 39 fun y2_ => (stl [.int .i64 y1_.1.Node, .int .i64 y1_.1.Boot, .int .i64 y1_.1.Gen, .int .i64 y1_.1.Check, .int .i64 y1_.1.Redo, .int .i64 y1_.1.Seen, .int .i64 y1_.1.Joined] y2_ 0 (K [(4, .pointer (some a4)), (5, .pointer (some b5)), (15, .pointer (some y2_)), (16, .int .i64 y1_.2)])))) := by kernel_rfl
@[go_sem] theorem c13_r11 (a4 : Addr) (b5 : Addr) (c15 : Addr) (f16 : Int) (K : Env → W) : RP c13 11 [(4, .pointer (some a4)), (5, .pointer (some b5)), (15, .pointer (some c15)), (16, .int .i64 f16)] K =
    (cnd ((f16 == (0 : Int))) (ldn e_base_Base 7 c15 fun (y1_ : base_Base) => (ldn e_base_Base 7 a4 fun (y2_ : base_Base) => (val eB Try.prog (oEq .eql 39 (.tmp 82) (.tmp 83) (v_base_Base y1_) (v_base_Base y2_)) fun (y3_ : Bool) => (cnd y3_ (cal eB Try.prog 33 #[] fun (y4_ : Bool) => (K [(8, .bool y4_)])) (ldn e_base_Base 7 c15 fun (y5_ : base_Base) => (ldn e_base_Base 7 b5 fun (y6_ : base_Base) => (val eB Try.prog (oEq .eql 39 (.tmp 86) (.tmp 87) (v_base_Base y5_) (v_base_Base y6_)) fun (y7_ : Bool) => (cnd y7_ (cal eB Try.prog 33 #[] fun (y8_ : Bool) => (K [(8, .bool y8_)])) (K [(8, .bool false)]))))))))) (K [(8, .bool false)])) := by kernel_rfl
@[go_sem] theorem c13_o : c13.lo 1000000 = [8] := rfl
@[go_sem] theorem c13_e (t8 : Bool) (k : Value → W) : RTp c13 [(8, .bool t8)] k = (k (.bool t8)) := by kernel_rfl
theorem c13_ok : (c13.P.follows .mixedOrders && okc c13 c13.body) = true := by kernel_rfl
theorem c13_fn {e : Enc} {args : Array Value} {G : e.α → W} {L : List HP} {ρ : Env} (hρ : envA 0 args.toList = ρ) (hs : Nat.ble args.size 94 = true) (h : E L (D c13 (.seq (.reg 0) (.seq (.reg 1) (.seq (.reg 2) (.seq (.reg 3) (.seq (.seq (.reg 4) (.cond (.tmp 36) (.seq (.reg 5) (.ret)) (.skip))) (.seq (.seq (.reg 6) (.cond (.tmp 50) (.seq (.reg 7) (.ret)) (.skip))) (.seq (.seq (.reg 8) (.cond (.tmp 73) (.seq (.reg 9) (.ret)) (.skip))) (.seq (.reg 10) (.seq (.reg 11) (.ret)))))))))) (fnQ c13 e G) ρ)) : E L (cal e Try.prog 13 args G) :=
  d_fn (c := c13) Try.func13 (by kernel_rfl) (by kernel_rfl) (by kernel_rfl) c13_ok (by kernel_rfl) (by kernel_rfl) hρ hs h
/-! gharry.gharrylaw09.BaseStarts -/
noncomputable def c19 : Cfg := { P := Try.prog, n := 154, T := TT, body := (Try.f19.body).getD .skip, res := Try.f19.results.toList, li := lk [] [(0, [0, 1, 2]), (1, [1, 2, 3]), (2, [1, 2, 3]), (3, [1, 2, 3]), (4, [1, 2, 3, 8]), (5, [1, 2, 3, 8, 9, 10]), (6, []), (7, [1, 2, 3, 8, 9]), (8, [1, 2, 3, 8, 9, 12]), (9, [12]), (10, [1, 2, 3, 9]), (11, []), (12, [1, 2, 3, 9]), (13, [1, 2, 3, 9, 13]), (14, [1, 2, 3, 9, 13, 14]), (15, [1, 2, 3, 9, 13, 14]), (16, [1, 2, 3, 9, 13, 14]), (17, [1, 2, 3, 9, 13, 14, 15]), (18, []), (19, [1, 2, 3, 9, 13, 14, 15]), (20, [1, 2, 3, 9, 13, 14, 15, 16, 17]), (21, [1, 2, 3, 9, 13, 14, 16, 17]), (22, []), (23, [1, 2, 3, 9, 13, 14]), (24, [1, 2, 3, 9, 13, 14, 18, 19]), (25, []), (26, [1, 2, 3, 9, 14, 18]), (27, [1, 2, 3, 9, 13, 14, 16, 17]), (28, [1, 2, 3, 9, 13, 14, 16, 17, 20]), (29, [1, 2, 3, 9, 14, 16, 17, 20]), (30, []), (31, [1, 2, 3, 9, 14, 16]), (32, [])], lo := lk [] [(0, [1, 2, 3]), (1, [1, 2, 3, 28]), (2, [1, 2, 3]), (3, [1, 2, 3, 8]), (4, [1, 2, 3, 8, 9, 10]), (5, [1, 2, 3, 8, 9, 44]), (6, [6]), (7, [1, 2, 3, 8, 9, 12]), (8, [1, 2, 3, 9, 12, 55]), (9, [6]), (10, [1, 2, 3, 9, 64]), (11, [6]), (12, [1, 2, 3, 9, 13]), (13, [1, 2, 3, 9, 13, 14]), (14, [1, 2, 3, 9, 13, 14, 74]), (15, [1, 2, 3, 9, 13, 14]), (16, [1, 2, 3, 9, 13, 14, 15]), (17, [1, 2, 3, 9, 13, 14, 15, 99]), (18, [6]), (19, [1, 2, 3, 9, 13, 14, 15, 16, 17]), (20, [1, 2, 3, 9, 13, 14, 16, 17, 105]), (21, [1, 2, 3, 9, 13, 14, 117]), (22, [6]), (23, [1, 2, 3, 9, 13, 14, 18, 19]), (24, [1, 2, 3, 9, 14, 18, 137]), (25, [6]), (26, [1, 2, 3, 9, 13, 14]), (27, [1, 2, 3, 9, 13, 14, 16, 17, 20]), (28, [1, 2, 3, 9, 14, 16, 17, 20]), (29, [1, 2, 3, 9, 14, 16, 150]), (30, [6]), (31, [1, 2, 3, 9, 13, 14]), (32, [6]), (1000000, [6])], ord := lk (false, []) [] }
@[go_sem] theorem c19_i0 : c19.li 0 = [0, 1, 2] := rfl
@[go_sem] theorem c19_i1 : c19.li 1 = [1, 2, 3] := rfl
@[go_sem] theorem c19_i2 : c19.li 2 = [1, 2, 3] := rfl
@[go_sem] theorem c19_i3 : c19.li 3 = [1, 2, 3] := rfl
@[go_sem] theorem c19_i4 : c19.li 4 = [1, 2, 3, 8] := rfl
@[go_sem] theorem c19_i5 : c19.li 5 = [1, 2, 3, 8, 9, 10] := rfl
@[go_sem] theorem c19_i6 : c19.li 6 = [] := rfl
@[go_sem] theorem c19_i7 : c19.li 7 = [1, 2, 3, 8, 9] := rfl
@[go_sem] theorem c19_i8 : c19.li 8 = [1, 2, 3, 8, 9, 12] := rfl
@[go_sem] theorem c19_i9 : c19.li 9 = [12] := rfl
@[go_sem] theorem c19_i10 : c19.li 10 = [1, 2, 3, 9] := rfl
@[go_sem] theorem c19_i11 : c19.li 11 = [] := rfl
@[go_sem] theorem c19_i12 : c19.li 12 = [1, 2, 3, 9] := rfl
@[go_sem] theorem c19_i13 : c19.li 13 = [1, 2, 3, 9, 13] := rfl
@[go_sem] theorem c19_i14 : c19.li 14 = [1, 2, 3, 9, 13, 14] := rfl
@[go_sem] theorem c19_i15 : c19.li 15 = [1, 2, 3, 9, 13, 14] := rfl
@[go_sem] theorem c19_i16 : c19.li 16 = [1, 2, 3, 9, 13, 14] := rfl
@[go_sem] theorem c19_i17 : c19.li 17 = [1, 2, 3, 9, 13, 14, 15] := rfl
@[go_sem] theorem c19_i18 : c19.li 18 = [] := rfl
@[go_sem] theorem c19_i19 : c19.li 19 = [1, 2, 3, 9, 13, 14, 15] := rfl
@[go_sem] theorem c19_i20 : c19.li 20 = [1, 2, 3, 9, 13, 14, 15, 16, 17] := rfl
@[go_sem] theorem c19_i21 : c19.li 21 = [1, 2, 3, 9, 13, 14, 16, 17] := rfl
@[go_sem] theorem c19_i22 : c19.li 22 = [] := rfl
@[go_sem] theorem c19_i23 : c19.li 23 = [1, 2, 3, 9, 13, 14] := rfl
@[go_sem] theorem c19_i24 : c19.li 24 = [1, 2, 3, 9, 13, 14, 18, 19] := rfl
@[go_sem] theorem c19_i25 : c19.li 25 = [] := rfl
@[go_sem] theorem c19_i26 : c19.li 26 = [1, 2, 3, 9, 14, 18] := rfl
@[go_sem] theorem c19_i27 : c19.li 27 = [1, 2, 3, 9, 13, 14, 16, 17] := rfl
@[go_sem] theorem c19_i28 : c19.li 28 = [1, 2, 3, 9, 13, 14, 16, 17, 20] := rfl
@[go_sem] theorem c19_i29 : c19.li 29 = [1, 2, 3, 9, 14, 16, 17, 20] := rfl
@[go_sem] theorem c19_i30 : c19.li 30 = [] := rfl
@[go_sem] theorem c19_i31 : c19.li 31 = [1, 2, 3, 9, 14, 16] := rfl
@[go_sem] theorem c19_i32 : c19.li 32 = [] := rfl
@[go_sem] theorem c19_r0 (b0 : base_Base) (acts1p : Option Addr) (acts1n acts1c : Nat) (keep2 : Int) (K : Env → W) : RP c19 0 [(0, v_base_Base b0), (1, .slice acts1p acts1n acts1c), (2, .int .u64 keep2)] K =
    (nwc #[.int .i64 b0.Node, .int .i64 b0.Boot, .int .i64 b0.Gen, .int .i64 b0.Check, .int .i64 b0.Redo, .int .i64 b0.Seen, .int .i64 b0.Joined] 39 fun y1_ => (K [(1, .slice acts1p acts1n acts1c), (2, .int .u64 keep2), (3, .pointer (some y1_))])) := by kernel_rfl
@[go_sem] theorem c19_r1 (acts1p : Option Addr) (acts1n acts1c : Nat) (keep2 : Int) (b3 : Addr) (K : Env → W) : RP c19 1 [(1, .slice acts1p acts1n acts1c), (2, .int .u64 keep2), (3, .pointer (some b3))] K =
    (ld eI ((b3.add 1)) fun (y1_ : Int) => (cnd ((decide (y1_ < (0 : Int)))) (K [(1, .slice acts1p acts1n acts1c), (2, .int .u64 keep2), (3, .pointer (some b3)), (28, .bool true)]) (ld eI ((b3.add 1)) fun (y2_ : Int) => (K [(1, .slice acts1p acts1n acts1c), (2, .int .u64 keep2), (3, .pointer (some b3)), (28, .bool ((decide ((1000 : Int) < y2_))))])))) := by kernel_rfl
@[go_sem] theorem c19_r2 (acts1p : Option Addr) (acts1n acts1c : Nat) (keep2 : Int) (b3 : Addr) (K : Env → W) : RP c19 2 [(1, .slice acts1p acts1n acts1c), (2, .int .u64 keep2), (3, .pointer (some b3))] K =
    (st ((b3.add 1)) (.int .i64 ((5 : Int))) (K [(1, .slice acts1p acts1n acts1c), (2, .int .u64 keep2), (3, .pointer (some b3))])) := by kernel_rfl
@[go_sem] theorem c19_r3 (acts1p : Option Addr) (acts1n acts1c : Nat) (keep2 : Int) (b3 : Addr) (K : Env → W) : RP c19 3 [(1, .slice acts1p acts1n acts1c), (2, .int .u64 keep2), (3, .pointer (some b3))] K =
    (ldn e_base_Base 7 b3 fun (y1_ : base_Base) => (cal (eT2 eS eB) Try.prog 35 #[v_base_Base y1_] fun (y2_ : ((List UInt8) × Bool)) => (K [(1, .slice acts1p acts1n acts1c), (2, .int .u64 keep2), (3, .pointer (some b3)), (8, .bool y2_.2)]))) := by kernel_rfl
@[go_sem] theorem c19_r4 (acts1p : Option Addr) (acts1n acts1c : Nat) (keep2 : Int) (b3 : Addr) (fits8 : Bool) (K : Env → W) : RP c19 4 [(1, .slice acts1p acts1n acts1c), (2, .int .u64 keep2), (3, .pointer (some b3)), (8, .bool fits8)] K =
    (cal (eT2 eP eI) Try.prog 25 #[.int .i64 ((1 : Int))] fun (y1_ : ((Option Addr) × Int)) => (K [(1, .slice acts1p acts1n acts1c), (2, .int .u64 keep2), (3, .pointer (some b3)), (8, .bool fits8), (9, .pointer y1_.1), (10, .int .i64 y1_.2)])) := by kernel_rfl
@[go_sem] theorem c19_r5 (acts1p : Option Addr) (acts1n acts1c : Nat) (keep2 : Int) (b3 : Addr) (fits8 : Bool) (d9 : Option Addr) (e10 : Int) (K : Env → W) : RP c19 5 [(1, .slice acts1p acts1n acts1c), (2, .int .u64 keep2), (3, .pointer (some b3)), (8, .bool fits8), (9, .pointer d9), (10, .int .i64 e10)] K =
    (cnd ((e10 != (0 : Int))) (K [(1, .slice acts1p acts1n acts1c), (2, .int .u64 keep2), (3, .pointer (some b3)), (8, .bool fits8), (9, .pointer d9), (44, .bool true)]) (K [(1, .slice acts1p acts1n acts1c), (2, .int .u64 keep2), (3, .pointer (some b3)), (8, .bool fits8), (9, .pointer d9), (44, .bool ((d9).isNone))])) := by kernel_rfl
@[go_sem] theorem c19_r6 (K : Env → W) : RP c19 6 [] K =
    (K [(6, .bool false)]) := by kernel_rfl
@[go_sem] theorem c19_r7 (acts1p : Option Addr) (acts1n acts1c : Nat) (keep2 : Int) (b3 : Addr) (fits8 : Bool) (d9 : Option Addr) (K : Env → W) : RP c19 7 [(1, .slice acts1p acts1n acts1c), (2, .int .u64 keep2), (3, .pointer (some b3)), (8, .bool fits8), (9, .pointer d9)] K =
    (cal (eT2 e_base_Base eI) Try.prog 59 #[.pointer d9] fun (y1_ : (base_Base × Int)) => (nwc #[.int .i64 ((0 : Int)), .int .i64 ((0 : Int)), .int .i64 ((0 : Int)), .int .i64 ((0 : Int)), .int .i64 ((0 : Int)), .int .i64 ((0 : Int)), .int .i64 ((0 : Int))] 39 fun y2_ => (stl [.int .i64 y1_.1.Node, .int .i64 y1_.1.Boot, .int .i64 y1_.1.Gen, .int .i64 y1_.1.Check, .int .i64 y1_.1.Redo, .int .i64 y1_.1.Seen, .int .i64 y1_.1.Joined] y2_ 0 (K [(1, .slice acts1p acts1n acts1c), (2, .int .u64 keep2), (3, .pointer (some b3)), (8, .bool fits8), (9, .pointer d9), (12, .int .i64 y1_.2)])))) := by kernel_rfl
@[go_sem] theorem c19_r8 (acts1p : Option Addr) (acts1n acts1c : Nat) (keep2 : Int) (b3 : Addr) (fits8 : Bool) (d9 : Option Addr) (f12 : Int) (K : Env → W) : RP c19 8 [(1, .slice acts1p acts1n acts1c), (2, .int .u64 keep2), (3, .pointer (some b3)), (8, .bool fits8), (9, .pointer d9), (12, .int .i64 f12)] K =
    (cnd ((!fits8)) (K [(1, .slice acts1p acts1n acts1c), (2, .int .u64 keep2), (3, .pointer (some b3)), (9, .pointer d9), (12, .int .i64 f12), (55, .bool true)]) (K [(1, .slice acts1p acts1n acts1c), (2, .int .u64 keep2), (3, .pointer (some b3)), (9, .pointer d9), (12, .int .i64 f12), (55, .bool ((f12 != (8 : Int))))])) := by kernel_rfl
@[go_sem] theorem c19_r9 (f12 : Int) (K : Env → W) : RP c19 9 [(12, .int .i64 f12)] K =
    (cnd ((f12 == (8 : Int))) (cal eB Try.prog 33 #[] fun (y1_ : Bool) => (K [(6, .bool y1_)])) (K [(6, .bool false)])) := by kernel_rfl
@[go_sem] theorem c19_r10 (acts1p : Option Addr) (acts1n acts1c : Nat) (keep2 : Int) (b3 : Addr) (d9 : Option Addr) (K : Env → W) : RP c19 10 [(1, .slice acts1p acts1n acts1c), (2, .int .u64 keep2), (3, .pointer (some b3)), (9, .pointer d9)] K =
    (ldn e_base_Base 7 b3 fun (y1_ : base_Base) => (cal eI Try.prog 44 #[.pointer d9, v_base_Base y1_] fun (y2_ : Int) => (K [(1, .slice acts1p acts1n acts1c), (2, .int .u64 keep2), (3, .pointer (some b3)), (9, .pointer d9), (64, .bool ((y2_ != (0 : Int))))]))) := by kernel_rfl
@[go_sem] theorem c19_r11 (K : Env → W) : RP c19 11 [] K =
    (K [(6, .bool false)]) := by kernel_rfl
@[go_sem] theorem c19_r12 (acts1p : Option Addr) (acts1n acts1c : Nat) (keep2 : Int) (b3 : Addr) (d9 : Option Addr) (K : Env → W) : RP c19 12 [(1, .slice acts1p acts1n acts1c), (2, .int .u64 keep2), (3, .pointer (some b3)), (9, .pointer d9)] K =
    (ld eI ((b3.add 1)) fun (y1_ : Int) => (K [(1, .slice acts1p acts1n acts1c), (2, .int .u64 keep2), (3, .pointer (some b3)), (9, .pointer d9), (13, .int .i64 y1_)])) := by kernel_rfl
@[go_sem] theorem c19_r13 (acts1p : Option Addr) (acts1n acts1c : Nat) (keep2 : Int) (b3 : Addr) (d9 : Option Addr) (last13 : Int) (K : Env → W) : RP c19 13 [(1, .slice acts1p acts1n acts1c), (2, .int .u64 keep2), (3, .pointer (some b3)), (9, .pointer d9), (13, .int .i64 last13)] K =
    (K [(1, .slice acts1p acts1n acts1c), (2, .int .u64 keep2), (3, .pointer (some b3)), (9, .pointer d9), (13, .int .i64 last13), (14, .int .i64 ((0 : Int)))]) := by kernel_rfl
@[go_sem] theorem c19_r14 (acts1p : Option Addr) (acts1n acts1c : Nat) (keep2 : Int) (b3 : Addr) (d9 : Option Addr) (last13 : Int) (i14 : Int) (K : Env → W) : RP c19 14 [(1, .slice acts1p acts1n acts1c), (2, .int .u64 keep2), (3, .pointer (some b3)), (9, .pointer d9), (13, .int .i64 last13), (14, .int .i64 i14)] K =
    (cnd ((decide (i14 < (acts1n : Int)))) (K [(1, .slice acts1p acts1n acts1c), (2, .int .u64 keep2), (3, .pointer (some b3)), (9, .pointer d9), (13, .int .i64 last13), (14, .int .i64 i14), (74, .bool ((decide (i14 < (20 : Int)))))]) (K [(1, .slice acts1p acts1n acts1c), (2, .int .u64 keep2), (3, .pointer (some b3)), (9, .pointer d9), (13, .int .i64 last13), (14, .int .i64 i14), (74, .bool false)])) := by kernel_rfl
@[go_sem] theorem c19_r15 (acts1p : Option Addr) (acts1n acts1c : Nat) (keep2 : Int) (b3 : Addr) (d9 : Option Addr) (last13 : Int) (i14 : Int) (K : Env → W) : RP c19 15 [(1, .slice acts1p acts1n acts1c), (2, .int .u64 keep2), (3, .pointer (some b3)), (9, .pointer d9), (13, .int .i64 last13), (14, .int .i64 i14)] K =
    (K [(1, .slice acts1p acts1n acts1c), (2, .int .u64 keep2), (3, .pointer (some b3)), (9, .pointer d9), (13, .int .i64 last13), (14, .int .i64 ((IntKind.wrap .i64 (i14 + (1 : Int)))))]) := by kernel_rfl
@[go_sem] theorem c19_r16 (acts1p : Option Addr) (acts1n acts1c : Nat) (keep2 : Int) (b3 : Addr) (d9 : Option Addr) (last13 : Int) (i14 : Int) (K : Env → W) : RP c19 16 [(1, .slice acts1p acts1n acts1c), (2, .int .u64 keep2), (3, .pointer (some b3)), (9, .pointer d9), (13, .int .i64 last13), (14, .int .i64 i14)] K =
    (rq (0 ≤ i14 ∧ i14 < (acts1n : Int)) (nn acts1p fun y1_ => (ld eI ((Addr.add y1_ ((i14).toNat * 1))) fun (y2_ : Int) => (cnd ((decide ((0 : Int) ≤ y2_))) (rq (0 ≤ i14 ∧ i14 < (acts1n : Int)) (nn acts1p fun y3_ => (ld eI ((Addr.add y3_ ((i14).toNat * 1))) fun (y4_ : Int) => (K [(1, .slice acts1p acts1n acts1c), (2, .int .u64 keep2), (3, .pointer (some b3)), (9, .pointer d9), (13, .int .i64 last13), (14, .int .i64 i14), (15, .bool ((decide (y4_ < (2 : Int)))))])))) (K [(1, .slice acts1p acts1n acts1c), (2, .int .u64 keep2), (3, .pointer (some b3)), (9, .pointer d9), (13, .int .i64 last13), (14, .int .i64 i14), (15, .bool false)]))))) := by kernel_rfl
@[go_sem] theorem c19_r17 (acts1p : Option Addr) (acts1n acts1c : Nat) (keep2 : Int) (b3 : Addr) (d9 : Option Addr) (last13 : Int) (i14 : Int) (armed15 : Bool) (K : Env → W) : RP c19 17 [(1, .slice acts1p acts1n acts1c), (2, .int .u64 keep2), (3, .pointer (some b3)), (9, .pointer d9), (13, .int .i64 last13), (14, .int .i64 i14), (15, .bool armed15)] K =
    (cnd armed15 (rq (0 ≤ i14 ∧ i14 < (acts1n : Int)) (nn acts1p fun y1_ => (ld eI ((Addr.add y1_ ((i14).toNat * 1))) fun (y2_ : Int) => (cal eI Try.prog 42 #[.pointer d9, .int .i64 y2_, .int .u64 keep2] fun (y3_ : Int) => (K [(1, .slice acts1p acts1n acts1c), (2, .int .u64 keep2), (3, .pointer (some b3)), (9, .pointer d9), (13, .int .i64 last13), (14, .int .i64 i14), (15, .bool armed15), (99, .bool ((y3_ != (0 : Int))))]))))) (K [(1, .slice acts1p acts1n acts1c), (2, .int .u64 keep2), (3, .pointer (some b3)), (9, .pointer d9), (13, .int .i64 last13), (14, .int .i64 i14), (15, .bool armed15), (99, .bool false)])) := by kernel_rfl
@[go_sem] theorem c19_r18 (K : Env → W) : RP c19 18 [] K =
    (K [(6, .bool false)]) := by kernel_rfl
@[go_sem] theorem c19_r19 (acts1p : Option Addr) (acts1n acts1c : Nat) (keep2 : Int) (b3 : Addr) (d9 : Option Addr) (last13 : Int) (i14 : Int) (armed15 : Bool) (K : Env → W) : RP c19 19 [(1, .slice acts1p acts1n acts1c), (2, .int .u64 keep2), (3, .pointer (some b3)), (9, .pointer d9), (13, .int .i64 last13), (14, .int .i64 i14), (15, .bool armed15)] K =
    (cal (eT2 e_base_Base eI) Try.prog 59 #[.pointer d9] fun (y1_ : (base_Base × Int)) => (nwc #[.int .i64 ((0 : Int)), .int .i64 ((0 : Int)), .int .i64 ((0 : Int)), .int .i64 ((0 : Int)), .int .i64 ((0 : Int)), .int .i64 ((0 : Int)), .int .i64 ((0 : Int))] 39 fun y2_ => (stl [.int .i64 y1_.1.Node, .int .i64 y1_.1.Boot, .int .i64 y1_.1.Gen, .int .i64 y1_.1.Check, .int .i64 y1_.1.Redo, .int .i64 y1_.1.Seen, .int .i64 y1_.1.Joined] y2_ 0 (K [(1, .slice acts1p acts1n acts1c), (2, .int .u64 keep2), (3, .pointer (some b3)), (9, .pointer d9), (13, .int .i64 last13), (14, .int .i64 i14), (15, .bool armed15), (16, .pointer (some y2_)), (17, .int .i64 y1_.2)])))) := by kernel_rfl
@[go_sem] theorem c19_r20 (acts1p : Option Addr) (acts1n acts1c : Nat) (keep2 : Int) (b3 : Addr) (d9 : Option Addr) (last13 : Int) (i14 : Int) (armed15 : Bool) (x16 : Addr) (g17 : Int) (K : Env → W) : RP c19 20 [(1, .slice acts1p acts1n acts1c), (2, .int .u64 keep2), (3, .pointer (some b3)), (9, .pointer d9), (13, .int .i64 last13), (14, .int .i64 i14), (15, .bool armed15), (16, .pointer (some x16)), (17, .int .i64 g17)] K =
    (K [(1, .slice acts1p acts1n acts1c), (2, .int .u64 keep2), (3, .pointer (some b3)), (9, .pointer d9), (13, .int .i64 last13), (14, .int .i64 i14), (16, .pointer (some x16)), (17, .int .i64 g17), (105, .bool armed15)]) := by kernel_rfl
@[go_sem] theorem c19_r21 (acts1p : Option Addr) (acts1n acts1c : Nat) (keep2 : Int) (b3 : Addr) (d9 : Option Addr) (last13 : Int) (i14 : Int) (x16 : Addr) (g17 : Int) (K : Env → W) : RP c19 21 [(1, .slice acts1p acts1n acts1c), (2, .int .u64 keep2), (3, .pointer (some b3)), (9, .pointer d9), (13, .int .i64 last13), (14, .int .i64 i14), (16, .pointer (some x16)), (17, .int .i64 g17)] K =
    (cnd ((g17 != (9 : Int))) (K [(1, .slice acts1p acts1n acts1c), (2, .int .u64 keep2), (3, .pointer (some b3)), (9, .pointer d9), (13, .int .i64 last13), (14, .int .i64 i14), (117, .bool true)]) (ldn e_base_Base 7 x16 fun (y1_ : base_Base) => (val eB Try.prog (oEq .neq 39 (.tmp 109) (.tmp 110) (v_base_Base y1_) (v_base_Base ((⟨(0 : Int), (0 : Int), (0 : Int), (0 : Int), (0 : Int), (0 : Int), (0 : Int)⟩ : base_Base)))) fun (y2_ : Bool) => (cnd y2_ (K [(1, .slice acts1p acts1n acts1c), (2, .int .u64 keep2), (3, .pointer (some b3)), (9, .pointer d9), (13, .int .i64 last13), (14, .int .i64 i14), (117, .bool true)]) (cal eI Try.prog 30 #[.pointer d9] fun (y3_ : Int) => (K [(1, .slice acts1p acts1n acts1c), (2, .int .u64 keep2), (3, .pointer (some b3)), (9, .pointer d9), (13, .int .i64 last13), (14, .int .i64 i14), (117, .bool ((y3_ != (0 : Int))))])))))) := by kernel_rfl
@[go_sem] theorem c19_r22 (K : Env → W) : RP c19 22 [] K =
    (K [(6, .bool false)]) := by kernel_rfl
@[go_sem] theorem c19_r23 (acts1p : Option Addr) (acts1n acts1c : Nat) (keep2 : Int) (b3 : Addr) (d9 : Option Addr) (last13 : Int) (i14 : Int) (K : Env → W) : RP c19 23 [(1, .slice acts1p acts1n acts1c), (2, .int .u64 keep2), (3, .pointer (some b3)), (9, .pointer d9), (13, .int .i64 last13), (14, .int .i64 i14)] K =
    (cal (eT2 e_base_Base eI) Try.prog 34 #[.pointer d9] fun (y1_ : (base_Base × Int)) => (nwc #[.int .i64 ((0 : Int)), .int .i64 ((0 : Int)), .int .i64 ((0 : Int)), .int .i64 ((0 : Int)), .int .i64 ((0 : Int)), .int .i64 ((0 : Int)), .int .i64 ((0 : Int))] 39 fun y2_ => (stl [.int .i64 y1_.1.Node, .int .i64 y1_.1.Boot, .int .i64 y1_.1.Gen, .int .i64 y1_.1.Check, .int .i64 y1_.1.Redo, .int .i64 y1_.1.Seen, .int .i64 y1_.1.Joined] y2_ 0 (K [(1, .slice acts1p acts1n acts1c), (2, .int .u64 keep2), (3, .pointer (some b3)), (9, .pointer d9), (13, .int .i64 last13), (14, .int .i64 i14), (18, .pointer (some y2_)), (19, .int .i64 y1_.2)])))) := by kernel_rfl
@[go_sem] theorem c19_r24 (acts1p : Option Addr) (acts1n acts1c : Nat) (keep2 : Int) (b3 : Addr) (d9 : Option Addr) (last13 : Int) (i14 : Int) (y18 : Addr) (h19 : Int) (K : Env → W) : RP c19 24 [(1, .slice acts1p acts1n acts1c), (2, .int .u64 keep2), (3, .pointer (some b3)), (9, .pointer d9), (13, .int .i64 last13), (14, .int .i64 i14), (18, .pointer (some y18)), (19, .int .i64 h19)] K =
    (cnd ((h19 != (0 : Int))) (K [(1, .slice acts1p acts1n acts1c), (2, .int .u64 keep2), (3, .pointer (some b3)), (9, .pointer d9), (14, .int .i64 i14), (18, .pointer (some y18)), (137, .bool true)]) (ld eI ((y18.add 1)) fun (y1_ : Int) => (cnd ((decide (y1_ < last13))) (K [(1, .slice acts1p acts1n acts1c), (2, .int .u64 keep2), (3, .pointer (some b3)), (9, .pointer d9), (14, .int .i64 i14), (18, .pointer (some y18)), (137, .bool true)]) (ld eI ((y18.add 1)) fun (y2_ : Int) => (K [(1, .slice acts1p acts1n acts1c), (2, .int .u64 keep2), (3, .pointer (some b3)), (9, .pointer d9), (14, .int .i64 i14), (18, .pointer (some y18)), (137, .bool ((decide ((IntKind.wrap .i64 (last13 + (1 : Int))) < y2_))))]))))) := by kernel_rfl
@[go_sem] theorem c19_r25 (K : Env → W) : RP c19 25 [] K =
    (K [(6, .bool false)]) := by kernel_rfl
@[go_sem] theorem c19_r26 (acts1p : Option Addr) (acts1n acts1c : Nat) (keep2 : Int) (b3 : Addr) (d9 : Option Addr) (i14 : Int) (y18 : Addr) (K : Env → W) : RP c19 26 [(1, .slice acts1p acts1n acts1c), (2, .int .u64 keep2), (3, .pointer (some b3)), (9, .pointer d9), (14, .int .i64 i14), (18, .pointer (some y18))] K =
    (ld eI ((y18.add 1)) fun (y1_ : Int) => (K [(1, .slice acts1p acts1n acts1c), (2, .int .u64 keep2), (3, .pointer (some b3)), (9, .pointer d9), (13, .int .i64 y1_), (14, .int .i64 i14)])) := by kernel_rfl
@[go_sem] theorem c19_r27 (acts1p : Option Addr) (acts1n acts1c : Nat) (keep2 : Int) (b3 : Addr) (d9 : Option Addr) (last13 : Int) (i14 : Int) (x16 : Addr) (g17 : Int) (K : Env → W) : RP c19 27 [(1, .slice acts1p acts1n acts1c), (2, .int .u64 keep2), (3, .pointer (some b3)), (9, .pointer d9), (13, .int .i64 last13), (14, .int .i64 i14), (16, .pointer (some x16)), (17, .int .i64 g17)] K =
    (ldn e_base_Base 7 b3 fun (y1_ : base_Base) => (nwc #[.int .i64 ((0 : Int)), .int .i64 ((0 : Int)), .int .i64 ((0 : Int)), .int .i64 ((0 : Int)), .int .i64 ((0 : Int)), .int .i64 ((0 : Int)), .int .i64 ((0 : Int))] 39 fun y2_ => (stl [.int .i64 y1_.Node, .int .i64 y1_.Boot, .int .i64 y1_.Gen, .int .i64 y1_.Check, .int .i64 y1_.Redo, .int .i64 y1_.Seen, .int .i64 y1_.Joined] y2_ 0 (K [(1, .slice acts1p acts1n acts1c), (2, .int .u64 keep2), (3, .pointer (some b3)), (9, .pointer d9), (13, .int .i64 last13), (14, .int .i64 i14), (16, .pointer (some x16)), (17, .int .i64 g17), (20, .pointer (some y2_))])))) := by kernel_rfl
@[go_sem] theorem c19_r28 (acts1p : Option Addr) (acts1n acts1c : Nat) (keep2 : Int) (b3 : Addr) (d9 : Option Addr) (last13 : Int) (i14 : Int) (x16 : Addr) (g17 : Int) (want20 : Addr) (K : Env → W) : RP c19 28 [(1, .slice acts1p acts1n acts1c), (2, .int .u64 keep2), (3, .pointer (some b3)), (9, .pointer d9), (13, .int .i64 last13), (14, .int .i64 i14), (16, .pointer (some x16)), (17, .int .i64 g17), (20, .pointer (some want20))] K =
    (st ((want20.add 1)) (.int .i64 ((IntKind.wrap .i64 (last13 + (1 : Int))))) (K [(1, .slice acts1p acts1n acts1c), (2, .int .u64 keep2), (3, .pointer (some b3)), (9, .pointer d9), (14, .int .i64 i14), (16, .pointer (some x16)), (17, .int .i64 g17), (20, .pointer (some want20))])) := by kernel_rfl
@[go_sem] theorem c19_r29 (acts1p : Option Addr) (acts1n acts1c : Nat) (keep2 : Int) (b3 : Addr) (d9 : Option Addr) (i14 : Int) (x16 : Addr) (g17 : Int) (want20 : Addr) (K : Env → W) : RP c19 29 [(1, .slice acts1p acts1n acts1c), (2, .int .u64 keep2), (3, .pointer (some b3)), (9, .pointer d9), (14, .int .i64 i14), (16, .pointer (some x16)), (17, .int .i64 g17), (20, .pointer (some want20))] K =
    (cnd ((g17 != (0 : Int))) (K [(1, .slice acts1p acts1n acts1c), (2, .int .u64 keep2), (3, .pointer (some b3)), (9, .pointer d9), (14, .int .i64 i14), (16, .pointer (some x16)), (150, .bool true)]) (ldn e_base_Base 7 x16 fun (y1_ : base_Base) => (ldn e_base_Base 7 want20 fun (y2_ : base_Base) => (val eB Try.prog (oEq .neq 39 (.tmp 147) (.tmp 148) (v_base_Base y1_) (v_base_Base y2_)) fun (y3_ : Bool) => (K [(1, .slice acts1p acts1n acts1c), (2, .int .u64 keep2), (3, .pointer (some b3)), (9, .pointer d9), (14, .int .i64 i14), (16, .pointer (some x16)), (150, .bool y3_)]))))) := by kernel_rfl
@[go_sem] theorem c19_r30 (K : Env → W) : RP c19 30 [] K =
    (K [(6, .bool false)]) := by kernel_rfl
@[go_sem] theorem c19_r31 (acts1p : Option Addr) (acts1n acts1c : Nat) (keep2 : Int) (b3 : Addr) (d9 : Option Addr) (i14 : Int) (x16 : Addr) (K : Env → W) : RP c19 31 [(1, .slice acts1p acts1n acts1c), (2, .int .u64 keep2), (3, .pointer (some b3)), (9, .pointer d9), (14, .int .i64 i14), (16, .pointer (some x16))] K =
    (ld eI ((x16.add 1)) fun (y1_ : Int) => (K [(1, .slice acts1p acts1n acts1c), (2, .int .u64 keep2), (3, .pointer (some b3)), (9, .pointer d9), (13, .int .i64 y1_), (14, .int .i64 i14)])) := by kernel_rfl
@[go_sem] theorem c19_r32 (K : Env → W) : RP c19 32 [] K =
    (cal eB Try.prog 33 #[] fun (y1_ : Bool) => (K [(6, .bool y1_)])) := by kernel_rfl
@[go_sem] theorem c19_o : c19.lo 1000000 = [6] := rfl
@[go_sem] theorem c19_e (t6 : Bool) (k : Value → W) : RTp c19 [(6, .bool t6)] k = (k (.bool t6)) := by kernel_rfl
theorem c19_ok : (c19.P.follows .mixedOrders && okc c19 c19.body) = true := by kernel_rfl
theorem c19_fn {e : Enc} {args : Array Value} {G : e.α → W} {L : List HP} {ρ : Env} (hρ : envA 0 args.toList = ρ) (hs : Nat.ble args.size 154 = true) (h : E L (D c19 (.seq (.reg 0) (.seq (.seq (.reg 1) (.cond (.tmp 28) (.reg 2) (.skip))) (.seq (.reg 3) (.seq (.reg 4) (.seq (.seq (.reg 5) (.cond (.tmp 44) (.seq (.reg 6) (.ret)) (.skip))) (.seq (.reg 7) (.seq (.seq (.reg 8) (.cond (.tmp 55) (.seq (.reg 9) (.ret)) (.skip))) (.seq (.seq (.reg 10) (.cond (.tmp 64) (.seq (.reg 11) (.ret)) (.skip))) (.seq (.reg 12) (.seq (.seq (.reg 13) (.block 0 (.loop (.seq (.seq (.reg 14) (.cond (.tmp 74) (.skip) (.exit 0))) (.seq (.block 1 (.seq (.reg 16) (.seq (.seq (.reg 17) (.cond (.tmp 99) (.seq (.reg 18) (.ret)) (.skip))) (.seq (.reg 19) (.seq (.seq (.reg 20) (.cond (.tmp 105) (.seq (.seq (.reg 21) (.cond (.tmp 117) (.seq (.reg 22) (.ret)) (.skip))) (.seq (.reg 23) (.seq (.seq (.reg 24) (.cond (.tmp 137) (.seq (.reg 25) (.ret)) (.skip))) (.seq (.reg 26) (.exit 1))))) (.skip))) (.seq (.reg 27) (.seq (.reg 28) (.seq (.seq (.reg 29) (.cond (.tmp 150) (.seq (.reg 30) (.ret)) (.skip))) (.reg 31))))))))) (.reg 15)))))) (.seq (.reg 32) (.ret)))))))))))) (fnQ c19 e G) ρ)) : E L (cal e Try.prog 19 args G) :=
  d_fn (c := c19) Try.func19 (by kernel_rfl) (by kernel_rfl) (by kernel_rfl) c19_ok (by kernel_rfl) (by kernel_rfl) hρ hs h
-- loop (first region 14): live slots 1:acts1 2:keep2 3:b3 9:d9 13:last13 14:i14, of which it writes [13, 14]
/-! gharry.gharrylaw09.awake -/
noncomputable def c33 : Cfg := { P := Try.prog, n := 19, T := TT, body := (Try.f33.body).getD .skip, res := Try.f33.results.toList, li := lk [] [(0, []), (1, []), (2, [1, 2, 3])], lo := lk [] [(0, []), (1, [1, 2, 3]), (2, [0]), (1000000, [0])], ord := lk (false, []) [] }
@[go_sem] theorem c33_i0 : c33.li 0 = [] := rfl
@[go_sem] theorem c33_i1 : c33.li 1 = [] := rfl
@[go_sem] theorem c33_i2 : c33.li 2 = [1, 2, 3] := rfl
@[go_sem] theorem c33_r0 (K : Env → W) : RP c33 0 [] K =
    (K []) := by kernel_rfl
@[go_sem] theorem c33_r1 (K : Env → W) : RP c33 1 [] K =
    (cal (eT3 eI eI eI) Try.prog 71 #[.int .i64 ((41 : Int))] fun (y1_ : (Int × Int × Int)) => (K [(1, .int .i64 y1_.1), (2, .int .i64 y1_.2.1), (3, .int .i64 y1_.2.2)])) := by kernel_rfl
@[go_sem] theorem c33_r2 (a1 : Int) (b2 : Int) (c3 : Int) (K : Env → W) : RP c33 2 [(1, .int .i64 a1), (2, .int .i64 b2), (3, .int .i64 c3)] K =
    (cnd ((a1 == (20 : Int))) (cnd ((b2 == (21 : Int))) (K [(0, .bool ((c3 == (5 : Int))))]) (K [(0, .bool false)])) (K [(0, .bool false)])) := by kernel_rfl
@[go_sem] theorem c33_o : c33.lo 1000000 = [0] := rfl
@[go_sem] theorem c33_e (t0 : Bool) (k : Value → W) : RTp c33 [(0, .bool t0)] k = (k (.bool t0)) := by kernel_rfl
theorem c33_ok : (c33.P.follows .mixedOrders && okc c33 c33.body) = true := by kernel_rfl
theorem c33_fn {e : Enc} {args : Array Value} {G : e.α → W} {L : List HP} {ρ : Env} (hρ : envA 0 args.toList = ρ) (hs : Nat.ble args.size 19 = true) (h : E L (D c33 (.seq (.reg 0) (.seq (.reg 1) (.seq (.reg 2) (.ret)))) (fnQ c33 e G) ρ)) : E L (cal e Try.prog 33 args G) :=
  d_fn (c := c33) Try.func33 (by kernel_rfl) (by kernel_rfl) (by kernel_rfl) c33_ok (by kernel_rfl) (by kernel_rfl) hρ hs h
/-! gharry.gharrylaw09.bytes -/
noncomputable def c35 : Cfg := { P := Try.prog, n := 67, T := TT, body := (Try.f35.body).getD .skip, res := Try.f35.results.toList, li := lk [] [(0, [0]), (1, [1]), (2, [1, 4]), (3, [4, 5]), (4, [4, 5, 6]), (5, [4, 5, 6, 7]), (6, [4, 5, 6, 7, 8]), (7, [4, 5, 6, 7, 8]), (8, [4, 5, 6, 7, 8]), (9, [4, 5, 6, 7, 8, 9, 10]), (10, [4, 5, 6, 7, 8, 10]), (11, [4, 7])], lo := lk [] [(0, [1]), (1, [1, 4]), (2, [4, 5]), (3, [4, 5, 6]), (4, [4, 5, 6, 7]), (5, [4, 5, 6, 7, 8]), (6, [4, 5, 6, 7, 8, 36]), (7, [4, 5, 6, 7, 8]), (8, [4, 5, 6, 7, 8, 9, 10]), (9, [4, 5, 6, 7, 8, 10]), (10, [4, 5, 6, 7, 8]), (11, [2, 3]), (1000000, [2, 3])], ord := lk (false, []) [(8, (true, [(0, 1), (1, 1), (2, 1), (3, 0), (4, 1), (5, 1), (6, 1), (7, 0), (8, 4), (9, 1), (10, 1), (11, 1), (12, 1), (13, 1)]))] }
@[go_sem] theorem c35_i0 : c35.li 0 = [0] := rfl
@[go_sem] theorem c35_i1 : c35.li 1 = [1] := rfl
@[go_sem] theorem c35_i2 : c35.li 2 = [1, 4] := rfl
@[go_sem] theorem c35_i3 : c35.li 3 = [4, 5] := rfl
@[go_sem] theorem c35_i4 : c35.li 4 = [4, 5, 6] := rfl
@[go_sem] theorem c35_i5 : c35.li 5 = [4, 5, 6, 7] := rfl
@[go_sem] theorem c35_i6 : c35.li 6 = [4, 5, 6, 7, 8] := rfl
@[go_sem] theorem c35_i7 : c35.li 7 = [4, 5, 6, 7, 8] := rfl
@[go_sem] theorem c35_i8 : c35.li 8 = [4, 5, 6, 7, 8] := rfl
@[go_sem] theorem c35_i9 : c35.li 9 = [4, 5, 6, 7, 8, 9, 10] := rfl
@[go_sem] theorem c35_i10 : c35.li 10 = [4, 5, 6, 7, 8, 10] := rfl
@[go_sem] theorem c35_i11 : c35.li 11 = [4, 7] := rfl
@[go_sem] theorem c35_r0 (b0 : base_Base) (K : Env → W) : RP c35 0 [(0, v_base_Base b0)] K =
    (nwc #[.int .i64 b0.Node, .int .i64 b0.Boot, .int .i64 b0.Gen, .int .i64 b0.Check, .int .i64 b0.Redo, .int .i64 b0.Seen, .int .i64 b0.Joined] 39 fun y1_ => (K [(1, .pointer (some y1_))])) := by kernel_rfl
@[go_sem] theorem c35_r1 (b1 : Addr) (K : Env → W) : RP c35 1 [(1, .pointer (some b1))] K =
    (K [(1, .pointer (some b1)), (4, str (([0, 7, 103, 104, 97, 114, 114, 121, 49] : List UInt8)))]) := by kernel_rfl
@[go_sem] theorem c35_r2 (b1 : Addr) (s4 : List UInt8) (K : Env → W) : RP c35 2 [(1, .pointer (some b1)), (4, str s4)] K =
    (ld eI b1 fun (y1_ : Int) => (ld eI ((b1.add 1)) fun (y2_ : Int) => (ld eI ((b1.add 2)) fun (y3_ : Int) => (ld eI ((b1.add 3)) fun (y4_ : Int) => (ld eI ((b1.add 4)) fun (y5_ : Int) => (ld eI ((b1.add 5)) fun (y6_ : Int) => (ld eI ((b1.add 6)) fun (y7_ : Int) => (nwc #[.int .i64 y1_, .int .i64 y2_, .int .i64 y3_, .int .i64 y4_, .int .i64 y5_, .int .i64 y6_, .int .i64 y7_] 3 fun y8_ => (K [(4, str s4), (5, .slice ((some y8_)) 7 7)]))))))))) := by kernel_rfl
@[go_sem] theorem c35_r3 (s4 : List UInt8) (numbers5p : Option Addr) (numbers5n numbers5c : Nat) (K : Env → W) : RP c35 3 [(4, str s4), (5, .slice numbers5p numbers5n numbers5c)] K =
    (nwc #[.int .i64 ((1 : Int)), .int .i64 ((4 : Int)), .int .i64 ((2 : Int)), .int .i64 ((6 : Int)), .int .i64 ((6 : Int)), .int .i64 ((4 : Int)), .int .i64 ((4 : Int))] 3 fun y1_ => (K [(4, str s4), (5, .slice numbers5p numbers5n numbers5c), (6, .slice ((some y1_)) 7 7)])) := by kernel_rfl
@[go_sem] theorem c35_r4 (s4 : List UInt8) (numbers5p : Option Addr) (numbers5n numbers5c : Nat) (widths6p : Option Addr) (widths6n widths6c : Nat) (K : Env → W) : RP c35 4 [(4, str s4), (5, .slice numbers5p numbers5n numbers5c), (6, .slice widths6p widths6n widths6c)] K =
    (K [(4, str s4), (5, .slice numbers5p numbers5n numbers5c), (6, .slice widths6p widths6n widths6c), (7, .bool true)]) := by kernel_rfl
@[go_sem] theorem c35_r5 (s4 : List UInt8) (numbers5p : Option Addr) (numbers5n numbers5c : Nat) (widths6p : Option Addr) (widths6n widths6c : Nat) (fits7 : Bool) (K : Env → W) : RP c35 5 [(4, str s4), (5, .slice numbers5p numbers5n numbers5c), (6, .slice widths6p widths6n widths6c), (7, .bool fits7)] K =
    (K [(4, str s4), (5, .slice numbers5p numbers5n numbers5c), (6, .slice widths6p widths6n widths6c), (7, .bool fits7), (8, .int .i64 ((0 : Int)))]) := by kernel_rfl
@[go_sem] theorem c35_r6 (s4 : List UInt8) (numbers5p : Option Addr) (numbers5n numbers5c : Nat) (widths6p : Option Addr) (widths6n widths6c : Nat) (fits7 : Bool) (i8 : Int) (K : Env → W) : RP c35 6 [(4, str s4), (5, .slice numbers5p numbers5n numbers5c), (6, .slice widths6p widths6n widths6c), (7, .bool fits7), (8, .int .i64 i8)] K =
    (cnd ((decide (i8 < (numbers5n : Int)))) (K [(4, str s4), (5, .slice numbers5p numbers5n numbers5c), (6, .slice widths6p widths6n widths6c), (7, .bool fits7), (8, .int .i64 i8), (36, .bool ((decide (i8 < (widths6n : Int)))))]) (K [(4, str s4), (5, .slice numbers5p numbers5n numbers5c), (6, .slice widths6p widths6n widths6c), (7, .bool fits7), (8, .int .i64 i8), (36, .bool false)])) := by kernel_rfl
@[go_sem] theorem c35_r7 (s4 : List UInt8) (numbers5p : Option Addr) (numbers5n numbers5c : Nat) (widths6p : Option Addr) (widths6n widths6c : Nat) (fits7 : Bool) (i8 : Int) (K : Env → W) : RP c35 7 [(4, str s4), (5, .slice numbers5p numbers5n numbers5c), (6, .slice widths6p widths6n widths6c), (7, .bool fits7), (8, .int .i64 i8)] K =
    (K [(4, str s4), (5, .slice numbers5p numbers5n numbers5c), (6, .slice widths6p widths6n widths6c), (7, .bool fits7), (8, .int .i64 ((IntKind.wrap .i64 (i8 + (1 : Int)))))]) := by kernel_rfl
@[go_sem] theorem c35_r8 (s4 : List UInt8) (numbers5p : Option Addr) (numbers5n numbers5c : Nat) (widths6p : Option Addr) (widths6n widths6c : Nat) (fits7 : Bool) (i8 : Int) (K : Env → W) : RP c35 8 [(4, str s4), (5, .slice numbers5p numbers5n numbers5c), (6, .slice widths6p widths6n widths6c), (7, .bool fits7), (8, .int .i64 i8)] K =
    (ph fun S0 => (rq (0 ≤ i8 ∧ i8 < (numbers5n : Int)) (nn numbers5p fun y1_ => (ldq S0 eI ((Addr.add y1_ ((i8).toNat * 1))) fun (y2_ : Int) => (rq (0 ≤ i8 ∧ i8 < (widths6n : Int)) (nn widths6p fun y3_ => (ldq S0 eI ((Addr.add y3_ ((i8).toNat * 1))) fun (y4_ : Int) => (cal (eT2 eS eB) Try.prog 76 #[.int .i64 y2_, .int .i64 y4_] fun (y5_ : ((List UInt8) × Bool)) => (K [(4, str s4), (5, .slice numbers5p numbers5n numbers5c), (6, .slice widths6p widths6n widths6c), (7, .bool fits7), (8, .int .i64 i8), (9, str y5_.1), (10, .bool y5_.2)]))))))))) := by kernel_rfl
@[go_sem] theorem c35_r9 (s4 : List UInt8) (numbers5p : Option Addr) (numbers5n numbers5c : Nat) (widths6p : Option Addr) (widths6n widths6c : Nat) (fits7 : Bool) (i8 : Int) (t9 : List UInt8) (ok10 : Bool) (K : Env → W) : RP c35 9 [(4, str s4), (5, .slice numbers5p numbers5n numbers5c), (6, .slice widths6p widths6n widths6c), (7, .bool fits7), (8, .int .i64 i8), (9, str t9), (10, .bool ok10)] K =
    (rq (((s4).length : Int) + ((t9).length : Int) ≤ 9223372036854775807) (K [(4, str ((s4 ++ t9))), (5, .slice numbers5p numbers5n numbers5c), (6, .slice widths6p widths6n widths6c), (7, .bool fits7), (8, .int .i64 i8), (10, .bool ok10)])) := by kernel_rfl
@[go_sem] theorem c35_r10 (s4 : List UInt8) (numbers5p : Option Addr) (numbers5n numbers5c : Nat) (widths6p : Option Addr) (widths6n widths6c : Nat) (fits7 : Bool) (i8 : Int) (ok10 : Bool) (K : Env → W) : RP c35 10 [(4, str s4), (5, .slice numbers5p numbers5n numbers5c), (6, .slice widths6p widths6n widths6c), (7, .bool fits7), (8, .int .i64 i8), (10, .bool ok10)] K =
    (cnd fits7 (cnd ok10 (rq (0 ≤ i8 ∧ i8 < (numbers5n : Int)) (nn numbers5p fun y1_ => (ld eI ((Addr.add y1_ ((i8).toNat * 1))) fun (y2_ : Int) => (K [(4, str s4), (5, .slice numbers5p numbers5n numbers5c), (6, .slice widths6p widths6n widths6c), (7, .bool ((decide ((0 : Int) ≤ y2_)))), (8, .int .i64 i8)])))) (K [(4, str s4), (5, .slice numbers5p numbers5n numbers5c), (6, .slice widths6p widths6n widths6c), (7, .bool false), (8, .int .i64 i8)])) (K [(4, str s4), (5, .slice numbers5p numbers5n numbers5c), (6, .slice widths6p widths6n widths6c), (7, .bool false), (8, .int .i64 i8)])) := by kernel_rfl
@[go_sem] theorem c35_r11 (s4 : List UInt8) (fits7 : Bool) (K : Env → W) : RP c35 11 [(4, str s4), (7, .bool fits7)] K =
    (K [(2, str s4), (3, .bool fits7)]) := by kernel_rfl
@[go_sem] theorem c35_o : c35.lo 1000000 = [2, 3] := rfl
@[go_sem] theorem c35_e (t2 : List UInt8) (t3 : Bool) (k : Value → W) : RTp c35 [(2, str t2), (3, .bool t3)] k = (k (.tuple #[str t2, .bool t3])) := by kernel_rfl
theorem c35_ok : (c35.P.follows .mixedOrders && okc c35 c35.body) = true := by kernel_rfl
theorem c35_fn {e : Enc} {args : Array Value} {G : e.α → W} {L : List HP} {ρ : Env} (hρ : envA 0 args.toList = ρ) (hs : Nat.ble args.size 67 = true) (h : E L (D c35 (.seq (.reg 0) (.seq (.reg 1) (.seq (.reg 2) (.seq (.reg 3) (.seq (.reg 4) (.seq (.seq (.reg 5) (.block 0 (.loop (.seq (.seq (.reg 6) (.cond (.tmp 36) (.skip) (.exit 0))) (.seq (.block 1 (.seq (.reg 8) (.seq (.reg 9) (.reg 10)))) (.reg 7)))))) (.seq (.reg 11) (.ret)))))))) (fnQ c35 e G) ρ)) : E L (cal e Try.prog 35 args G) :=
  d_fn (c := c35) Try.func35 (by kernel_rfl) (by kernel_rfl) (by kernel_rfl) c35_ok (by kernel_rfl) (by kernel_rfl) hρ hs h
-- loop (first region 6): live slots 4:s4 5:numbers5 6:widths6 7:fits7 8:i8, of which it writes [4, 7, 8]
/-! gharry.gharrylaw09.number -/
noncomputable def c76 : Cfg := { P := Try.prog, n := 25, T := TT, body := (Try.f76.body).getD .skip, res := Try.f76.results.toList, li := lk [] [(0, [0, 1]), (1, [0, 1]), (2, [0, 1, 6]), (3, [0, 1, 6, 7]), (4, [0, 1, 6, 7]), (5, [0, 1, 6, 7]), (6, [0, 1, 6, 7]), (7, [0, 6])], lo := lk [] [(0, [0, 1]), (1, [0, 1, 6]), (2, [0, 1, 6, 7]), (3, [0, 1, 6, 7, 10]), (4, [0, 1, 6, 7]), (5, [0, 1, 6, 7]), (6, [0, 1, 6, 7]), (7, [4, 5]), (1000000, [4, 5])], ord := lk (false, []) [] }
@[go_sem] theorem c76_i0 : c76.li 0 = [0, 1] := rfl
@[go_sem] theorem c76_i1 : c76.li 1 = [0, 1] := rfl
@[go_sem] theorem c76_i2 : c76.li 2 = [0, 1, 6] := rfl
@[go_sem] theorem c76_i3 : c76.li 3 = [0, 1, 6, 7] := rfl
@[go_sem] theorem c76_i4 : c76.li 4 = [0, 1, 6, 7] := rfl
@[go_sem] theorem c76_i5 : c76.li 5 = [0, 1, 6, 7] := rfl
@[go_sem] theorem c76_i6 : c76.li 6 = [0, 1, 6, 7] := rfl
@[go_sem] theorem c76_i7 : c76.li 7 = [0, 6] := rfl
@[go_sem] theorem c76_r0 (n0 : Int) (width1 : Int) (K : Env → W) : RP c76 0 [(0, .int .i64 n0), (1, .int .i64 width1)] K =
    (K [(0, .int .i64 n0), (1, .int .i64 width1)]) := by kernel_rfl
@[go_sem] theorem c76_r1 (n0 : Int) (width1 : Int) (K : Env → W) : RP c76 1 [(0, .int .i64 n0), (1, .int .i64 width1)] K =
    (K [(0, .int .i64 n0), (1, .int .i64 width1), (6, str (([] : List UInt8)))]) := by kernel_rfl
@[go_sem] theorem c76_r2 (n0 : Int) (width1 : Int) (s6 : List UInt8) (K : Env → W) : RP c76 2 [(0, .int .i64 n0), (1, .int .i64 width1), (6, str s6)] K =
    (K [(0, .int .i64 n0), (1, .int .i64 width1), (6, str s6), (7, .int .i64 ((0 : Int)))]) := by kernel_rfl
@[go_sem] theorem c76_r3 (n0 : Int) (width1 : Int) (s6 : List UInt8) (i7 : Int) (K : Env → W) : RP c76 3 [(0, .int .i64 n0), (1, .int .i64 width1), (6, str s6), (7, .int .i64 i7)] K =
    (K [(0, .int .i64 n0), (1, .int .i64 width1), (6, str s6), (7, .int .i64 i7), (10, .bool ((decide (i7 < width1))))]) := by kernel_rfl
@[go_sem] theorem c76_r4 (n0 : Int) (width1 : Int) (s6 : List UInt8) (i7 : Int) (K : Env → W) : RP c76 4 [(0, .int .i64 n0), (1, .int .i64 width1), (6, str s6), (7, .int .i64 i7)] K =
    (K [(0, .int .i64 n0), (1, .int .i64 width1), (6, str s6), (7, .int .i64 ((IntKind.wrap .i64 (i7 + (1 : Int)))))]) := by kernel_rfl
@[go_sem] theorem c76_r5 (n0 : Int) (width1 : Int) (s6 : List UInt8) (i7 : Int) (K : Env → W) : RP c76 5 [(0, .int .i64 n0), (1, .int .i64 width1), (6, str s6), (7, .int .i64 i7)] K =
    (nwc #[.int .u8 ((IntKind.wrap .u8 ((bits .and .i64 n0 ((255 : Int))))))] 5 fun y1_ => (val eS Try.prog (oConv 125 9 (.slice ((some y1_)) 1 1)) fun (y2_ : List UInt8) => (rq (((y2_).length : Int) + ((s6).length : Int) ≤ 9223372036854775807) (K [(0, .int .i64 n0), (1, .int .i64 width1), (6, str ((y2_ ++ s6))), (7, .int .i64 i7)])))) := by kernel_rfl
@[go_sem] theorem c76_r6 (n0 : Int) (width1 : Int) (s6 : List UInt8) (i7 : Int) (K : Env → W) : RP c76 6 [(0, .int .i64 n0), (1, .int .i64 width1), (6, str s6), (7, .int .i64 i7)] K =
    (rq (0 ≤ (8 : Int)) (K [(0, .int .i64 (((n0).fdiv (2 ^ (min ((8 : Int)).toNat 64))))), (1, .int .i64 width1), (6, str s6), (7, .int .i64 i7)])) := by kernel_rfl
@[go_sem] theorem c76_r7 (n0 : Int) (s6 : List UInt8) (K : Env → W) : RP c76 7 [(0, .int .i64 n0), (6, str s6)] K =
    (K [(4, str s6), (5, .bool ((n0 == (0 : Int))))]) := by kernel_rfl
@[go_sem] theorem c76_o : c76.lo 1000000 = [4, 5] := rfl
@[go_sem] theorem c76_e (t4 : List UInt8) (t5 : Bool) (k : Value → W) : RTp c76 [(4, str t4), (5, .bool t5)] k = (k (.tuple #[str t4, .bool t5])) := by kernel_rfl
theorem c76_ok : (c76.P.follows .mixedOrders && okc c76 c76.body) = true := by kernel_rfl
theorem c76_fn {e : Enc} {args : Array Value} {G : e.α → W} {L : List HP} {ρ : Env} (hρ : envA 0 args.toList = ρ) (hs : Nat.ble args.size 25 = true) (h : E L (D c76 (.seq (.reg 0) (.seq (.reg 1) (.seq (.seq (.reg 2) (.block 0 (.loop (.seq (.seq (.reg 3) (.cond (.tmp 10) (.skip) (.exit 0))) (.seq (.block 1 (.seq (.reg 5) (.reg 6))) (.reg 4)))))) (.seq (.reg 7) (.ret))))) (fnQ c76 e G) ρ)) : E L (cal e Try.prog 76 args G) :=
  d_fn (c := c76) Try.func76 (by kernel_rfl) (by kernel_rfl) (by kernel_rfl) c76_ok (by kernel_rfl) (by kernel_rfl) hρ hs h
-- loop (first region 3): live slots 0:n0 1:width1 6:s6 7:i7, of which it writes [0, 6, 7]
end Go.Sp
