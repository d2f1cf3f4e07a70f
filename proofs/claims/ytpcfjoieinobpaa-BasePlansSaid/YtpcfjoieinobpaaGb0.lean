/- What each region of the Go functions does. Written by my own generator. -/
import Derived.Test.YtpcfjoieinobpaaT
namespace Go.Sp
open Go
set_option maxRecDepth 100000
set_option linter.unusedVariables false
open Go.Proofs
/-! gharry.gharrylaw09.BasePlans -/
noncomputable def c3 : Cfg := { P := Try.prog, n := 56, T := TT, body := (Try.f3.body).getD .skip, res := Try.f3.results.toList, li := lk [] [(0, [0]), (1, [0]), (2, [0, 3, 4, 5]), (3, [3, 4, 5]), (4, [0, 3, 4, 5]), (5, [0, 3, 4, 5, 6]), (6, [3, 4, 5, 6, 7]), (7, [3, 4, 5, 6]), (8, [3, 4, 5, 6, 7])], lo := lk [] [(0, [0]), (1, [0, 3, 4, 5]), (2, [0, 3, 4, 5, 15]), (3, [2]), (4, [0, 3, 4, 5, 6]), (5, [3, 4, 5, 6, 7]), (6, [3, 4, 5, 6, 7, 38]), (7, [3, 4, 5, 6, 7]), (8, [2]), (1000000, [2])], ord := lk (false, []) [] }
@[go_sem] theorem c3_i0 : c3.li 0 = [0] := rfl
@[go_sem] theorem c3_i1 : c3.li 1 = [0] := rfl
@[go_sem] theorem c3_i2 : c3.li 2 = [0, 3, 4, 5] := rfl
@[go_sem] theorem c3_i3 : c3.li 3 = [3, 4, 5] := rfl
@[go_sem] theorem c3_i4 : c3.li 4 = [0, 3, 4, 5] := rfl
@[go_sem] theorem c3_i5 : c3.li 5 = [0, 3, 4, 5, 6] := rfl
@[go_sem] theorem c3_i6 : c3.li 6 = [3, 4, 5, 6, 7] := rfl
@[go_sem] theorem c3_i7 : c3.li 7 = [3, 4, 5, 6] := rfl
@[go_sem] theorem c3_i8 : c3.li 8 = [3, 4, 5, 6, 7] := rfl
@[go_sem] theorem c3_r0 (sectors0 : Int) (K : Env → W) : RP c3 0 [(0, .int .i64 sectors0)] K =
    (K [(0, .int .i64 sectors0)]) := by kernel_rfl
@[go_sem] theorem c3_r1 (sectors0 : Int) (K : Env → W) : RP c3 1 [(0, .int .i64 sectors0)] K =
    (cal (eT3 eI eI eI) Try.prog 15 #[.int .i64 sectors0] fun (y1_ : (Int × Int × Int)) => (K [(0, .int .i64 sectors0), (3, .int .i64 y1_.1), (4, .int .i64 y1_.2.1), (5, .int .i64 y1_.2.2)])) := by kernel_rfl
@[go_sem] theorem c3_r2 (sectors0 : Int) (a3 : Int) (b4 : Int) (c5 : Int) (K : Env → W) : RP c3 2 [(0, .int .i64 sectors0), (3, .int .i64 a3), (4, .int .i64 b4), (5, .int .i64 c5)] K =
    (K [(0, .int .i64 sectors0), (3, .int .i64 a3), (4, .int .i64 b4), (5, .int .i64 c5), (15, .bool ((decide (sectors0 < (1 : Int)))))]) := by kernel_rfl
@[go_sem] theorem c3_r3 (a3 : Int) (b4 : Int) (c5 : Int) (K : Env → W) : RP c3 3 [(3, .int .i64 a3), (4, .int .i64 b4), (5, .int .i64 c5)] K =
    (cnd ((a3 == (0 : Int))) (cnd ((b4 == (0 : Int))) (cnd ((c5 == (0 : Int))) (cal eB Try.prog 16 #[] fun (y1_ : Bool) => (K [(2, .bool y1_)])) (K [(2, .bool false)])) (K [(2, .bool false)])) (K [(2, .bool false)])) := by kernel_rfl
@[go_sem] theorem c3_r4 (sectors0 : Int) (a3 : Int) (b4 : Int) (c5 : Int) (K : Env → W) : RP c3 4 [(0, .int .i64 sectors0), (3, .int .i64 a3), (4, .int .i64 b4), (5, .int .i64 c5)] K =
    (rq ((2 : Int) ≠ 0) (K [(0, .int .i64 sectors0), (3, .int .i64 a3), (4, .int .i64 b4), (5, .int .i64 c5), (6, .int .i64 ((IntKind.wrap .i64 (((IntKind.wrap .i64 (sectors0 - (1 : Int)))).tdiv ((2 : Int))))))])) := by kernel_rfl
@[go_sem] theorem c3_r5 (sectors0 : Int) (a3 : Int) (b4 : Int) (c5 : Int) (log6 : Int) (K : Env → W) : RP c3 5 [(0, .int .i64 sectors0), (3, .int .i64 a3), (4, .int .i64 b4), (5, .int .i64 c5), (6, .int .i64 log6)] K =
    (rq ((4 : Int) ≠ 0) (K [(3, .int .i64 a3), (4, .int .i64 b4), (5, .int .i64 c5), (6, .int .i64 log6), (7, .int .i64 ((IntKind.wrap .i64 (((IntKind.wrap .i64 ((IntKind.wrap .i64 (sectors0 - (1 : Int))) - log6))).tdiv ((4 : Int))))))])) := by kernel_rfl
@[go_sem] theorem c3_r6 (a3 : Int) (b4 : Int) (c5 : Int) (log6 : Int) (pages7 : Int) (K : Env → W) : RP c3 6 [(3, .int .i64 a3), (4, .int .i64 b4), (5, .int .i64 c5), (6, .int .i64 log6), (7, .int .i64 pages7)] K =
    (K [(3, .int .i64 a3), (4, .int .i64 b4), (5, .int .i64 c5), (6, .int .i64 log6), (7, .int .i64 pages7), (38, .bool ((decide ((200 : Int) < pages7))))]) := by kernel_rfl
@[go_sem] theorem c3_r7 (a3 : Int) (b4 : Int) (c5 : Int) (log6 : Int) (K : Env → W) : RP c3 7 [(3, .int .i64 a3), (4, .int .i64 b4), (5, .int .i64 c5), (6, .int .i64 log6)] K =
    (K [(3, .int .i64 a3), (4, .int .i64 b4), (5, .int .i64 c5), (6, .int .i64 log6), (7, .int .i64 ((200 : Int)))]) := by kernel_rfl
@[go_sem] theorem c3_r8 (a3 : Int) (b4 : Int) (c5 : Int) (log6 : Int) (pages7 : Int) (K : Env → W) : RP c3 8 [(3, .int .i64 a3), (4, .int .i64 b4), (5, .int .i64 c5), (6, .int .i64 log6), (7, .int .i64 pages7)] K =
    (cnd ((a3 == log6)) (cnd ((b4 == (IntKind.wrap .i64 (log6 + (1 : Int))))) (cnd ((c5 == pages7)) (cal eB Try.prog 16 #[] fun (y1_ : Bool) => (K [(2, .bool y1_)])) (K [(2, .bool false)])) (K [(2, .bool false)])) (K [(2, .bool false)])) := by kernel_rfl
@[go_sem] theorem c3_o : c3.lo 1000000 = [2] := rfl
@[go_sem] theorem c3_e (t2 : Bool) (k : Value → W) : RTp c3 [(2, .bool t2)] k = (k (.bool t2)) := by kernel_rfl
theorem c3_ok : (c3.P.follows .mixedOrders && okc c3 c3.body) = true := by kernel_rfl
theorem c3_fn {e : Enc} {args : Array Value} {G : e.α → W} {L : List HP} {ρ : Env} (hρ : envA 0 args.toList = ρ) (hs : Nat.ble args.size 56 = true) (h : E L (D c3 (.seq (.reg 0) (.seq (.reg 1) (.seq (.seq (.reg 2) (.cond (.tmp 15) (.seq (.reg 3) (.ret)) (.skip))) (.seq (.reg 4) (.seq (.reg 5) (.seq (.seq (.reg 6) (.cond (.tmp 38) (.reg 7) (.skip))) (.seq (.reg 8) (.ret)))))))) (fnQ c3 e G) ρ)) : E L (cal e Try.prog 3 args G) :=
  d_fn (c := c3) Try.func3 (by kernel_rfl) (by kernel_rfl) (by kernel_rfl) c3_ok (by kernel_rfl) (by kernel_rfl) hρ hs h
/-! gharry.base.Plan -/
noncomputable def c15 : Cfg := { P := Try.prog, n := 22, T := TT, body := (Try.f15.body).getD .skip, res := Try.f15.results.toList, li := lk [] [(0, [0]), (1, [0]), (2, []), (3, [0]), (4, [0, 5]), (5, [5, 6])], lo := lk [] [(0, [0]), (1, [0, 8]), (2, [2, 3, 4]), (3, [0, 5]), (4, [5, 6]), (5, [2, 3, 4]), (1000000, [2, 3, 4])], ord := lk (false, []) [] }
@[go_sem] theorem c15_i0 : c15.li 0 = [0] := rfl
@[go_sem] theorem c15_i1 : c15.li 1 = [0] := rfl
@[go_sem] theorem c15_i2 : c15.li 2 = [] := rfl
@[go_sem] theorem c15_i3 : c15.li 3 = [0] := rfl
@[go_sem] theorem c15_i4 : c15.li 4 = [0, 5] := rfl
@[go_sem] theorem c15_i5 : c15.li 5 = [5, 6] := rfl
@[go_sem] theorem c15_r0 (sectors0 : Int) (K : Env → W) : RP c15 0 [(0, .int .i64 sectors0)] K =
    (K [(0, .int .i64 sectors0)]) := by kernel_rfl
@[go_sem] theorem c15_r1 (sectors0 : Int) (K : Env → W) : RP c15 1 [(0, .int .i64 sectors0)] K =
    (K [(0, .int .i64 sectors0), (8, .bool ((decide (sectors0 < (1 : Int)))))]) := by kernel_rfl
@[go_sem] theorem c15_r2 (K : Env → W) : RP c15 2 [] K =
    (K [(2, .int .i64 ((0 : Int))), (3, .int .i64 ((0 : Int))), (4, .int .i64 ((0 : Int)))]) := by kernel_rfl
@[go_sem] theorem c15_r3 (sectors0 : Int) (K : Env → W) : RP c15 3 [(0, .int .i64 sectors0)] K =
    (rq ((2 : Int) ≠ 0) (K [(0, .int .i64 sectors0), (5, .int .i64 ((IntKind.wrap .i64 (((IntKind.wrap .i64 (sectors0 - (1 : Int)))).tdiv ((2 : Int))))))])) := by kernel_rfl
@[go_sem] theorem c15_r4 (sectors0 : Int) (log5 : Int) (K : Env → W) : RP c15 4 [(0, .int .i64 sectors0), (5, .int .i64 log5)] K =
    (rq ((4 : Int) ≠ 0) (K [(5, .int .i64 log5), (6, .int .i64 ((IntKind.wrap .i64 (((IntKind.wrap .i64 ((IntKind.wrap .i64 (sectors0 - (1 : Int))) - log5))).tdiv ((4 : Int))))))])) := by kernel_rfl
@[go_sem] theorem c15_r5 (log5 : Int) (pages6 : Int) (K : Env → W) : RP c15 5 [(5, .int .i64 log5), (6, .int .i64 pages6)] K =
    (K [(2, .int .i64 log5), (3, .int .i64 ((IntKind.wrap .i64 ((1 : Int) + log5)))), (4, .int .i64 ((if (200 : Int) < pages6 then (200 : Int) else pages6)))]) := by kernel_rfl
@[go_sem] theorem c15_o : c15.lo 1000000 = [2, 3, 4] := rfl
@[go_sem] theorem c15_e (t2 : Int) (t3 : Int) (t4 : Int) (k : Value → W) : RTp c15 [(2, .int .i64 t2), (3, .int .i64 t3), (4, .int .i64 t4)] k = (k (.tuple #[.int .i64 t2, .int .i64 t3, .int .i64 t4])) := by kernel_rfl
theorem c15_ok : (c15.P.follows .mixedOrders && okc c15 c15.body) = true := by kernel_rfl
theorem c15_fn {e : Enc} {args : Array Value} {G : e.α → W} {L : List HP} {ρ : Env} (hρ : envA 0 args.toList = ρ) (hs : Nat.ble args.size 22 = true) (h : E L (D c15 (.seq (.reg 0) (.seq (.seq (.reg 1) (.cond (.tmp 8) (.seq (.reg 2) (.ret)) (.skip))) (.seq (.reg 3) (.seq (.reg 4) (.seq (.reg 5) (.ret)))))) (fnQ c15 e G) ρ)) : E L (cal e Try.prog 15 args G) :=
  d_fn (c := c15) Try.func15 (by kernel_rfl) (by kernel_rfl) (by kernel_rfl) c15_ok (by kernel_rfl) (by kernel_rfl) hρ hs h
/-! gharry.gharrylaw09.awake -/
noncomputable def c16 : Cfg := { P := Try.prog, n := 19, T := TT, body := (Try.f16.body).getD .skip, res := Try.f16.results.toList, li := lk [] [(0, []), (1, []), (2, [1, 2, 3])], lo := lk [] [(0, []), (1, [1, 2, 3]), (2, [0]), (1000000, [0])], ord := lk (false, []) [] }
@[go_sem] theorem c16_i0 : c16.li 0 = [] := rfl
@[go_sem] theorem c16_i1 : c16.li 1 = [] := rfl
@[go_sem] theorem c16_i2 : c16.li 2 = [1, 2, 3] := rfl
@[go_sem] theorem c16_r0 (K : Env → W) : RP c16 0 [] K =
    (K []) := by kernel_rfl
@[go_sem] theorem c16_r1 (K : Env → W) : RP c16 1 [] K =
    (cal (eT3 eI eI eI) Try.prog 15 #[.int .i64 ((41 : Int))] fun (y1_ : (Int × Int × Int)) => (K [(1, .int .i64 y1_.1), (2, .int .i64 y1_.2.1), (3, .int .i64 y1_.2.2)])) := by kernel_rfl
@[go_sem] theorem c16_r2 (a1 : Int) (b2 : Int) (c3 : Int) (K : Env → W) : RP c16 2 [(1, .int .i64 a1), (2, .int .i64 b2), (3, .int .i64 c3)] K =
    (cnd ((a1 == (20 : Int))) (cnd ((b2 == (21 : Int))) (K [(0, .bool ((c3 == (5 : Int))))]) (K [(0, .bool false)])) (K [(0, .bool false)])) := by kernel_rfl
@[go_sem] theorem c16_o : c16.lo 1000000 = [0] := rfl
@[go_sem] theorem c16_e (t0 : Bool) (k : Value → W) : RTp c16 [(0, .bool t0)] k = (k (.bool t0)) := by kernel_rfl
theorem c16_ok : (c16.P.follows .mixedOrders && okc c16 c16.body) = true := by kernel_rfl
theorem c16_fn {e : Enc} {args : Array Value} {G : e.α → W} {L : List HP} {ρ : Env} (hρ : envA 0 args.toList = ρ) (hs : Nat.ble args.size 19 = true) (h : E L (D c16 (.seq (.reg 0) (.seq (.reg 1) (.seq (.reg 2) (.ret)))) (fnQ c16 e G) ρ)) : E L (cal e Try.prog 16 args G) :=
  d_fn (c := c16) Try.func16 (by kernel_rfl) (by kernel_rfl) (by kernel_rfl) c16_ok (by kernel_rfl) (by kernel_rfl) hρ hs h
end Go.Sp
