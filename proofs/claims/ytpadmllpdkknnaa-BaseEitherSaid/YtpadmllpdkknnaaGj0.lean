/- What each region of the Go functions does. Written by my own generator. -/
import Derived.Test.YtpadmllpdkknnaaT
namespace Go.Sp
open Go
set_option maxRecDepth 100000
set_option linter.unusedVariables false
open Go.Proofs
/-! (*gharry.pack.Writer).Text -/
noncomputable def c94 : Cfg := { P := Try.prog, n := 7, T := TT, body := (Try.f94.body).getD .skip, res := Try.f94.results.toList, li := lk [] [(0, [0, 1]), (1, [0, 3])], lo := lk [] [(0, [0, 3]), (1, []), (1000000, [])], ord := lk (false, []) [] }
@[go_sem] theorem c94_i0 : c94.li 0 = [0, 1] := rfl
@[go_sem] theorem c94_i1 : c94.li 1 = [0, 3] := rfl
@[go_sem] theorem c94_r0 (w0 : Option Addr) (t1 : List UInt8) (K : Env → W) : RP c94 0 [(0, .pointer w0), (1, str t1)] K =
    (nwc #[str t1] 9 fun y1_ => (K [(0, .pointer w0), (3, .pointer (some y1_))])) := by kernel_rfl
@[go_sem] theorem c94_r1 (w0 : Option Addr) (t3 : Addr) (K : Env → W) : RP c94 1 [(0, .pointer w0), (3, .pointer (some t3))] K =
    (cal eN Try.prog 115 #[.pointer w0, .func (.func 116) #[] #[.pointer (some t3)]] fun (y1_ : Unit) => (K [])) := by kernel_rfl
@[go_sem] theorem c94_o : c94.lo 1000000 = [] := rfl
@[go_sem] theorem c94_e (k : Value → W) : RTp c94 [] k = (k (.tuple #[])) := by kernel_rfl
theorem c94_ok : (c94.P.follows .mixedOrders && okc c94 c94.body) = true := by kernel_rfl
theorem c94_fn {e : Enc} {args : Array Value} {G : e.α → W} {L : List HP} {ρ : Env} (hρ : envA 0 args.toList = ρ) (hs : Nat.ble args.size 7 = true) (h : E L (D c94 (.seq (.reg 0) (.reg 1)) (fnQ c94 e G) ρ)) : E L (cal e Try.prog 94 args G) :=
  d_fn (c := c94) Try.func94 (by kernel_rfl) (by kernel_rfl) (by kernel_rfl) c94_ok (by kernel_rfl) (by kernel_rfl) hρ hs h
/-! (*gharry.pack.Writer).Num -/
noncomputable def c95 : Cfg := { P := Try.prog, n := 9, T := TT, body := (Try.f95.body).getD .skip, res := Try.f95.results.toList, li := lk [] [(0, [0, 1, 2]), (1, [0, 4, 5])], lo := lk [] [(0, [0, 4, 5]), (1, []), (1000000, [])], ord := lk (false, []) [] }
@[go_sem] theorem c95_i0 : c95.li 0 = [0, 1, 2] := rfl
@[go_sem] theorem c95_i1 : c95.li 1 = [0, 4, 5] := rfl
@[go_sem] theorem c95_r0 (w0 : Option Addr) (n1 : Int) (width2 : Int) (K : Env → W) : RP c95 0 [(0, .pointer w0), (1, .int .i64 n1), (2, .int .i64 width2)] K =
    (nwc #[.int .i64 n1] 3 fun y1_ => (nwc #[.int .i64 width2] 3 fun y2_ => (K [(0, .pointer w0), (4, .pointer (some y1_)), (5, .pointer (some y2_))]))) := by kernel_rfl
@[go_sem] theorem c95_r1 (w0 : Option Addr) (n4 : Addr) (width5 : Addr) (K : Env → W) : RP c95 1 [(0, .pointer w0), (4, .pointer (some n4)), (5, .pointer (some width5))] K =
    (cal eN Try.prog 115 #[.pointer w0, .func (.func 118) #[] #[.pointer (some n4), .pointer (some width5)]] fun (y1_ : Unit) => (K [])) := by kernel_rfl
@[go_sem] theorem c95_o : c95.lo 1000000 = [] := rfl
@[go_sem] theorem c95_e (k : Value → W) : RTp c95 [] k = (k (.tuple #[])) := by kernel_rfl
theorem c95_ok : (c95.P.follows .mixedOrders && okc c95 c95.body) = true := by kernel_rfl
theorem c95_fn {e : Enc} {args : Array Value} {G : e.α → W} {L : List HP} {ρ : Env} (hρ : envA 0 args.toList = ρ) (hs : Nat.ble args.size 9 = true) (h : E L (D c95 (.seq (.reg 0) (.reg 1)) (fnQ c95 e G) ρ)) : E L (cal e Try.prog 95 args G) :=
  d_fn (c := c95) Try.func95 (by kernel_rfl) (by kernel_rfl) (by kernel_rfl) c95_ok (by kernel_rfl) (by kernel_rfl) hρ hs h
/-! (*gharry.pack.Writer).All -/
noncomputable def c96 : Cfg := { P := Try.prog, n := 14, T := TT, body := (Try.f96.body).getD .skip, res := Try.f96.results.toList, li := lk [] [(0, [0]), (1, [0]), (2, []), (3, [0])], lo := lk [] [(0, [0]), (1, [0, 5]), (2, [2, 3]), (3, [2, 3]), (1000000, [2, 3])], ord := lk (false, []) [(3, (true, [(0, 1), (1, 1), (2, 1), (3, 0), (4, 1), (5, 1), (6, 1), (7, 0), (8, 1), (9, 1)]))] }
@[go_sem] theorem c96_i0 : c96.li 0 = [0] := rfl
@[go_sem] theorem c96_i1 : c96.li 1 = [0] := rfl
@[go_sem] theorem c96_i2 : c96.li 2 = [] := rfl
@[go_sem] theorem c96_i3 : c96.li 3 = [0] := rfl
@[go_sem] theorem c96_r0 (w0 : Option Addr) (K : Env → W) : RP c96 0 [(0, .pointer w0)] K =
    (K [(0, .pointer w0)]) := by kernel_rfl
@[go_sem] theorem c96_r1 (w0 : Option Addr) (K : Env → W) : RP c96 1 [(0, .pointer w0)] K =
    (K [(0, .pointer w0), (5, .bool ((w0).isNone))]) := by kernel_rfl
@[go_sem] theorem c96_r2 (K : Env → W) : RP c96 2 [] K =
    (K [(2, str (([] : List UInt8))), (3, .int .i64 ((11 : Int)))]) := by kernel_rfl
@[go_sem] theorem c96_r3 (w0 : Option Addr) (K : Env → W) : RP c96 3 [(0, .pointer w0)] K =
    (ph fun S0 => (nn w0 fun y1_ => (ldq S0 eS y1_ fun (y2_ : List UInt8) => (nn w0 fun y3_ => (ldq S0 eI ((y3_.add 1)) fun (y4_ : Int) => (K [(2, str y2_), (3, .int .i64 y4_)])))))) := by kernel_rfl
@[go_sem] theorem c96_o : c96.lo 1000000 = [2, 3] := rfl
@[go_sem] theorem c96_e (t2 : List UInt8) (t3 : Int) (k : Value → W) : RTp c96 [(2, str t2), (3, .int .i64 t3)] k = (k (.tuple #[str t2, .int .i64 t3])) := by kernel_rfl
theorem c96_ok : (c96.P.follows .mixedOrders && okc c96 c96.body) = true := by kernel_rfl
theorem c96_fn {e : Enc} {args : Array Value} {G : e.α → W} {L : List HP} {ρ : Env} (hρ : envA 0 args.toList = ρ) (hs : Nat.ble args.size 14 = true) (h : E L (D c96 (.seq (.reg 0) (.seq (.seq (.reg 1) (.cond (.tmp 5) (.seq (.reg 2) (.ret)) (.skip))) (.seq (.reg 3) (.ret)))) (fnQ c96 e G) ρ)) : E L (cal e Try.prog 96 args G) :=
  d_fn (c := c96) Try.func96 (by kernel_rfl) (by kernel_rfl) (by kernel_rfl) c96_ok (by kernel_rfl) (by kernel_rfl) hρ hs h
/-! gharry.pack.Put -/
noncomputable def c97 : Cfg := { P := Try.prog, n := 49, T := TT, body := (Try.f97.body).getD .skip, res := Try.f97.results.toList, li := lk [] [(0, [0, 1, 2]), (1, [0, 1, 2]), (2, []), (3, [0, 1, 2]), (4, []), (5, [0, 1, 2]), (6, [0, 1, 2, 8]), (7, [0, 1, 2, 8, 29, 30]), (8, [0, 1, 2, 8, 29, 30]), (9, [0, 1, 2, 8, 9, 29, 30]), (10, [0, 1, 2, 8, 29, 30]), (11, [0, 8])], lo := lk [] [(0, [0, 1, 2]), (1, [0, 1, 2, 10]), (2, [6, 7]), (3, [0, 1, 2, 17]), (4, [6, 7]), (5, [0, 1, 2, 8]), (6, [0, 1, 2, 8, 29, 30]), (7, [0, 1, 2, 8, 29, 30, 31]), (8, [0, 1, 2, 8, 9, 29, 30]), (9, [0, 1, 2, 8, 29, 30]), (10, [0, 1, 2, 8, 29, 30]), (11, [6, 7]), (1000000, [6, 7])], ord := lk (false, []) [] }
@[go_sem] theorem c97_i0 : c97.li 0 = [0, 1, 2] := rfl
@[go_sem] theorem c97_i1 : c97.li 1 = [0, 1, 2] := rfl
@[go_sem] theorem c97_i2 : c97.li 2 = [] := rfl
@[go_sem] theorem c97_i3 : c97.li 3 = [0, 1, 2] := rfl
@[go_sem] theorem c97_i4 : c97.li 4 = [] := rfl
@[go_sem] theorem c97_i5 : c97.li 5 = [0, 1, 2] := rfl
@[go_sem] theorem c97_i6 : c97.li 6 = [0, 1, 2, 8] := rfl
@[go_sem] theorem c97_i7 : c97.li 7 = [0, 1, 2, 8, 29, 30] := rfl
@[go_sem] theorem c97_i8 : c97.li 8 = [0, 1, 2, 8, 29, 30] := rfl
@[go_sem] theorem c97_i9 : c97.li 9 = [0, 1, 2, 8, 9, 29, 30] := rfl
@[go_sem] theorem c97_i10 : c97.li 10 = [0, 1, 2, 8, 29, 30] := rfl
@[go_sem] theorem c97_i11 : c97.li 11 = [0, 8] := rfl
@[go_sem] theorem c97_r0 (s0 : List UInt8) (n1 : Int) (width2 : Int) (K : Env → W) : RP c97 0 [(0, str s0), (1, .int .i64 n1), (2, .int .i64 width2)] K =
    (K [(0, str s0), (1, .int .i64 n1), (2, .int .i64 width2)]) := by kernel_rfl
@[go_sem] theorem c97_r1 (s0 : List UInt8) (n1 : Int) (width2 : Int) (K : Env → W) : RP c97 1 [(0, str s0), (1, .int .i64 n1), (2, .int .i64 width2)] K =
    (cnd ((decide (width2 < (1 : Int)))) (K [(0, str s0), (1, .int .i64 n1), (2, .int .i64 width2), (10, .bool true)]) (K [(0, str s0), (1, .int .i64 n1), (2, .int .i64 width2), (10, .bool ((decide ((6 : Int) < width2))))])) := by kernel_rfl
@[go_sem] theorem c97_r2 (K : Env → W) : RP c97 2 [] K =
    (K [(6, str (([] : List UInt8))), (7, .int .i64 ((1 : Int)))]) := by kernel_rfl
@[go_sem] theorem c97_r3 (s0 : List UInt8) (n1 : Int) (width2 : Int) (K : Env → W) : RP c97 3 [(0, str s0), (1, .int .i64 n1), (2, .int .i64 width2)] K =
    (cnd ((decide (n1 < (0 : Int)))) (K [(0, str s0), (1, .int .i64 n1), (2, .int .i64 width2), (17, .bool true)]) (cal eI Try.prog 119 #[.int .i64 width2] fun (y1_ : Int) => (K [(0, str s0), (1, .int .i64 n1), (2, .int .i64 width2), (17, .bool ((decide (y1_ ≤ n1))))]))) := by kernel_rfl
@[go_sem] theorem c97_r4 (K : Env → W) : RP c97 4 [] K =
    (K [(6, str (([] : List UInt8))), (7, .int .i64 ((6 : Int)))]) := by kernel_rfl
@[go_sem] theorem c97_r5 (s0 : List UInt8) (n1 : Int) (width2 : Int) (K : Env → W) : RP c97 5 [(0, str s0), (1, .int .i64 n1), (2, .int .i64 width2)] K =
    (val eSl Try.prog (oMake 125 (.int .i64 width2) (.int .i64 width2)) fun (y1_ : (Option Addr × Nat × Nat)) => (K [(0, str s0), (1, .int .i64 n1), (2, .int .i64 width2), (8, .slice y1_.1 y1_.2.1 y1_.2.2)])) := by kernel_rfl
@[go_sem] theorem c97_r6 (s0 : List UInt8) (n1 : Int) (width2 : Int) (b8p : Option Addr) (b8n b8c : Nat) (K : Env → W) : RP c97 6 [(0, str s0), (1, .int .i64 n1), (2, .int .i64 width2), (8, .slice b8p b8n b8c)] K =
    (K [(0, str s0), (1, .int .i64 n1), (2, .int .i64 width2), (8, .slice b8p b8n b8c), (29, .int .i64 ((b8n : Int))), (30, .int .i64 ((0 : Int)))]) := by kernel_rfl
@[go_sem] theorem c97_r7 (s0 : List UInt8) (n1 : Int) (width2 : Int) (b8p : Option Addr) (b8n b8c : Nat) (t29 : Int) (t30 : Int) (K : Env → W) : RP c97 7 [(0, str s0), (1, .int .i64 n1), (2, .int .i64 width2), (8, .slice b8p b8n b8c), (29, .int .i64 t29), (30, .int .i64 t30)] K =
    (K [(0, str s0), (1, .int .i64 n1), (2, .int .i64 width2), (8, .slice b8p b8n b8c), (29, .int .i64 t29), (30, .int .i64 t30), (31, .bool ((decide (t30 < t29))))]) := by kernel_rfl
@[go_sem] theorem c97_r8 (s0 : List UInt8) (n1 : Int) (width2 : Int) (b8p : Option Addr) (b8n b8c : Nat) (t29 : Int) (t30 : Int) (K : Env → W) : RP c97 8 [(0, str s0), (1, .int .i64 n1), (2, .int .i64 width2), (8, .slice b8p b8n b8c), (29, .int .i64 t29), (30, .int .i64 t30)] K =
    (K [(0, str s0), (1, .int .i64 n1), (2, .int .i64 width2), (8, .slice b8p b8n b8c), (9, .int .i64 t30), (29, .int .i64 t29), (30, .int .i64 t30)]) := by kernel_rfl
@[go_sem] theorem c97_r9 (s0 : List UInt8) (n1 : Int) (width2 : Int) (b8p : Option Addr) (b8n b8c : Nat) (i9 : Int) (t29 : Int) (t30 : Int) (K : Env → W) : RP c97 9 [(0, str s0), (1, .int .i64 n1), (2, .int .i64 width2), (8, .slice b8p b8n b8c), (9, .int .i64 i9), (29, .int .i64 t29), (30, .int .i64 t30)] K =
    (rq (0 ≤ (IntKind.wrap .i64 ((8 : Int) * (IntKind.wrap .i64 ((IntKind.wrap .i64 (width2 - (1 : Int))) - i9))))) (rq (0 ≤ i9 ∧ i9 < (b8n : Int)) (nn b8p fun y1_ => (st ((Addr.add y1_ ((i9).toNat * 1))) (.int .u8 ((IntKind.wrap .u8 (((n1).fdiv (2 ^ (min ((IntKind.wrap .i64 ((8 : Int) * (IntKind.wrap .i64 ((IntKind.wrap .i64 (width2 - (1 : Int))) - i9))))).toNat 64))))))) (K [(0, str s0), (1, .int .i64 n1), (2, .int .i64 width2), (8, .slice b8p b8n b8c), (29, .int .i64 t29), (30, .int .i64 t30)]))))) := by kernel_rfl
@[go_sem] theorem c97_r10 (s0 : List UInt8) (n1 : Int) (width2 : Int) (b8p : Option Addr) (b8n b8c : Nat) (t29 : Int) (t30 : Int) (K : Env → W) : RP c97 10 [(0, str s0), (1, .int .i64 n1), (2, .int .i64 width2), (8, .slice b8p b8n b8c), (29, .int .i64 t29), (30, .int .i64 t30)] K =
    (K [(0, str s0), (1, .int .i64 n1), (2, .int .i64 width2), (8, .slice b8p b8n b8c), (29, .int .i64 t29), (30, .int .i64 ((IntKind.wrap .i64 (t30 + (1 : Int)))))]) := by kernel_rfl
@[go_sem] theorem c97_r11 (s0 : List UInt8) (b8p : Option Addr) (b8n b8c : Nat) (K : Env → W) : RP c97 11 [(0, str s0), (8, .slice b8p b8n b8c)] K =
    (val eS Try.prog (oConv 125 9 (.slice b8p b8n b8c)) fun (y1_ : List UInt8) => (rq (((s0).length : Int) + ((y1_).length : Int) ≤ 9223372036854775807) (K [(6, str ((s0 ++ y1_))), (7, .int .i64 ((0 : Int)))]))) := by kernel_rfl
@[go_sem] theorem c97_o : c97.lo 1000000 = [6, 7] := rfl
@[go_sem] theorem c97_e (t6 : List UInt8) (t7 : Int) (k : Value → W) : RTp c97 [(6, str t6), (7, .int .i64 t7)] k = (k (.tuple #[str t6, .int .i64 t7])) := by kernel_rfl
theorem c97_ok : (c97.P.follows .mixedOrders && okc c97 c97.body) = true := by kernel_rfl
theorem c97_fn {e : Enc} {args : Array Value} {G : e.α → W} {L : List HP} {ρ : Env} (hρ : envA 0 args.toList = ρ) (hs : Nat.ble args.size 49 = true) (h : E L (D c97 (.seq (.reg 0) (.seq (.block 0 (.seq (.reg 1) (.cond (.tmp 10) (.seq (.reg 2) (.ret)) (.seq (.reg 3) (.cond (.tmp 17) (.seq (.reg 4) (.ret)) (.skip)))))) (.seq (.reg 5) (.seq (.seq (.reg 6) (.block 1 (.loop (.seq (.reg 7) (.seq (.cond (.tmp 31) (.skip) (.exit 1)) (.seq (.block 2 (.seq (.reg 8) (.reg 9))) (.reg 10))))))) (.seq (.reg 11) (.ret)))))) (fnQ c97 e G) ρ)) : E L (cal e Try.prog 97 args G) :=
  d_fn (c := c97) Try.func97 (by kernel_rfl) (by kernel_rfl) (by kernel_rfl) c97_ok (by kernel_rfl) (by kernel_rfl) hρ hs h
-- loop (first region 7): live slots 0:s0 1:n1 2:width2 8:b8 29:t29 30:t30, of which it writes [30]
/-! (*gharry.pack.Writer).lay -/
noncomputable def c115 : Cfg := { P := Try.prog, n := 37, T := TT, body := (Try.f115.body).getD .skip, res := Try.f115.results.toList, li := lk [] [(0, [0, 1]), (1, [0, 1]), (2, [0, 4, 5]), (3, [0, 5]), (4, [0, 4])], lo := lk [] [(0, [0, 1, 14]), (1, [0, 4, 5]), (2, [0, 4, 5, 25]), (3, []), (4, []), (1000000, [])], ord := lk (false, []) [] }
@[go_sem] theorem c115_i0 : c115.li 0 = [0, 1] := rfl
@[go_sem] theorem c115_i1 : c115.li 1 = [0, 1] := rfl
@[go_sem] theorem c115_i2 : c115.li 2 = [0, 4, 5] := rfl
@[go_sem] theorem c115_i3 : c115.li 3 = [0, 5] := rfl
@[go_sem] theorem c115_i4 : c115.li 4 = [0, 4] := rfl
@[go_sem] theorem c115_r0 (w0 : Option Addr) (how1f : Nat) (how1c : Array Value) (K : Env → W) : RP c115 0 [(0, .pointer w0), (1, .func (.func how1f) #[] how1c)] K =
    (cnd ((w0).isNone) (K [(0, .pointer w0), (1, .func (.func how1f) #[] how1c), (14, .bool true)]) (nn w0 fun y1_ => (ld eI ((y1_.add 1)) fun (y2_ : Int) => (K [(0, .pointer w0), (1, .func (.func how1f) #[] how1c), (14, .bool ((y2_ != (0 : Int))))])))) := by kernel_rfl
@[go_sem] theorem c115_r1 (w0 : Option Addr) (how1f : Nat) (how1c : Array Value) (K : Env → W) : RP c115 1 [(0, .pointer w0), (1, .func (.func how1f) #[] how1c)] K =
    (nn w0 fun y1_ => (ld eS y1_ fun (y2_ : List UInt8) => (ent Try.prog how1f (cal (eT2 eS eI) Try.prog how1f (#[str y2_] ++ how1c) fun (y3_ : ((List UInt8) × Int)) => (K [(0, .pointer w0), (4, str y3_.1), (5, .int .i64 y3_.2)]))))) := by kernel_rfl
@[go_sem] theorem c115_r2 (w0 : Option Addr) (s4 : List UInt8) (e5 : Int) (K : Env → W) : RP c115 2 [(0, .pointer w0), (4, str s4), (5, .int .i64 e5)] K =
    (K [(0, .pointer w0), (4, str s4), (5, .int .i64 e5), (25, .bool ((e5 != (0 : Int))))]) := by kernel_rfl
@[go_sem] theorem c115_r3 (w0 : Option Addr) (e5 : Int) (K : Env → W) : RP c115 3 [(0, .pointer w0), (5, .int .i64 e5)] K =
    (nn w0 fun y1_ => (st y1_ (str (([] : List UInt8))) (nn w0 fun y2_ => (st ((y2_.add 1)) (.int .i64 e5) (K []))))) := by kernel_rfl
@[go_sem] theorem c115_r4 (w0 : Option Addr) (s4 : List UInt8) (K : Env → W) : RP c115 4 [(0, .pointer w0), (4, str s4)] K =
    (nn w0 fun y1_ => (st y1_ (str s4) (K []))) := by kernel_rfl
@[go_sem] theorem c115_o : c115.lo 1000000 = [] := rfl
@[go_sem] theorem c115_e (k : Value → W) : RTp c115 [] k = (k (.tuple #[])) := by kernel_rfl
theorem c115_ok : (c115.P.follows .mixedOrders && okc c115 c115.body) = true := by kernel_rfl
theorem c115_fn {e : Enc} {args : Array Value} {G : e.α → W} {L : List HP} {ρ : Env} (hρ : envA 0 args.toList = ρ) (hs : Nat.ble args.size 37 = true) (h : E L (D c115 (.seq (.seq (.reg 0) (.cond (.tmp 14) (.ret) (.skip))) (.seq (.reg 1) (.seq (.seq (.reg 2) (.cond (.tmp 25) (.seq (.reg 3) (.ret)) (.skip))) (.reg 4)))) (fnQ c115 e G) ρ)) : E L (cal e Try.prog 115 args G) :=
  d_fn (c := c115) Try.func115 (by kernel_rfl) (by kernel_rfl) (by kernel_rfl) c115_ok (by kernel_rfl) (by kernel_rfl) hρ hs h
/-! (*gharry.pack.Writer).Text$1 -/
noncomputable def c116 : Cfg := { P := Try.prog, n := 10, T := TT, body := (Try.f116.body).getD .skip, res := Try.f116.results.toList, li := lk [] [(0, [0, 1]), (1, [0, 1])], lo := lk [] [(0, [0, 1]), (1, [3, 4]), (1000000, [3, 4])], ord := lk (false, []) [] }
@[go_sem] theorem c116_i0 : c116.li 0 = [0, 1] := rfl
@[go_sem] theorem c116_i1 : c116.li 1 = [0, 1] := rfl
@[go_sem] theorem c116_r0 (s0 : List UInt8) (t1 : Addr) (K : Env → W) : RP c116 0 [(0, str s0), (1, .pointer (some t1))] K =
    (K [(0, str s0), (1, .pointer (some t1))]) := by kernel_rfl
@[go_sem] theorem c116_r1 (s0 : List UInt8) (t1 : Addr) (K : Env → W) : RP c116 1 [(0, str s0), (1, .pointer (some t1))] K =
    (ld eS t1 fun (y1_ : List UInt8) => (cal (eT2 eS eI) Try.prog 117 #[str s0, str y1_] fun (y2_ : ((List UInt8) × Int)) => (K [(3, str y2_.1), (4, .int .i64 y2_.2)]))) := by kernel_rfl
@[go_sem] theorem c116_o : c116.lo 1000000 = [3, 4] := rfl
@[go_sem] theorem c116_e (t3 : List UInt8) (t4 : Int) (k : Value → W) : RTp c116 [(3, str t3), (4, .int .i64 t4)] k = (k (.tuple #[str t3, .int .i64 t4])) := by kernel_rfl
theorem c116_ok : (c116.P.follows .mixedOrders && okc c116 c116.body) = true := by kernel_rfl
theorem c116_fn {e : Enc} {args : Array Value} {G : e.α → W} {L : List HP} {ρ : Env} (hρ : envA 0 args.toList = ρ) (hs : Nat.ble args.size 10 = true) (h : E L (D c116 (.seq (.reg 0) (.seq (.reg 1) (.ret))) (fnQ c116 e G) ρ)) : E L (cal e Try.prog 116 args G) :=
  d_fn (c := c116) Try.func116 (by kernel_rfl) (by kernel_rfl) (by kernel_rfl) c116_ok (by kernel_rfl) (by kernel_rfl) hρ hs h
/-! gharry.pack.Text -/
noncomputable def c117 : Cfg := { P := Try.prog, n := 20, T := TT, body := (Try.f117.body).getD .skip, res := Try.f117.results.toList, li := lk [] [(0, [0, 1]), (1, [0, 1]), (2, []), (3, [0, 1]), (4, [0, 1])], lo := lk [] [(0, [0, 1]), (1, [0, 1, 9]), (2, [4, 5]), (3, [0, 1]), (4, [4, 5]), (1000000, [4, 5])], ord := lk (false, []) [] }
@[go_sem] theorem c117_i0 : c117.li 0 = [0, 1] := rfl
@[go_sem] theorem c117_i1 : c117.li 1 = [0, 1] := rfl
@[go_sem] theorem c117_i2 : c117.li 2 = [] := rfl
@[go_sem] theorem c117_i3 : c117.li 3 = [0, 1] := rfl
@[go_sem] theorem c117_i4 : c117.li 4 = [0, 1] := rfl
@[go_sem] theorem c117_r0 (s0 : List UInt8) (t1 : List UInt8) (K : Env → W) : RP c117 0 [(0, str s0), (1, str t1)] K =
    (K [(0, str s0), (1, str t1)]) := by kernel_rfl
@[go_sem] theorem c117_r1 (s0 : List UInt8) (t1 : List UInt8) (K : Env → W) : RP c117 1 [(0, str s0), (1, str t1)] K =
    (cal eI Try.prog 119 #[.int .i64 ((2 : Int))] fun (y1_ : Int) => (K [(0, str s0), (1, str t1), (9, .bool ((decide (y1_ ≤ ((t1).length : Int)))))])) := by kernel_rfl
@[go_sem] theorem c117_r2 (K : Env → W) : RP c117 2 [] K =
    (K [(4, str (([] : List UInt8))), (5, .int .i64 ((3 : Int)))]) := by kernel_rfl
@[go_sem] theorem c117_r3 (s0 : List UInt8) (t1 : List UInt8) (K : Env → W) : RP c117 3 [(0, str s0), (1, str t1)] K =
    (cal (eT2 eS eI) Try.prog 97 #[str s0, .int .i64 (((t1).length : Int)), .int .i64 ((2 : Int))] fun (y1_ : ((List UInt8) × Int)) => (K [(0, str y1_.1), (1, str t1)])) := by kernel_rfl
@[go_sem] theorem c117_r4 (s0 : List UInt8) (t1 : List UInt8) (K : Env → W) : RP c117 4 [(0, str s0), (1, str t1)] K =
    (rq (((s0).length : Int) + ((t1).length : Int) ≤ 9223372036854775807) (K [(4, str ((s0 ++ t1))), (5, .int .i64 ((0 : Int)))])) := by kernel_rfl
@[go_sem] theorem c117_o : c117.lo 1000000 = [4, 5] := rfl
@[go_sem] theorem c117_e (t4 : List UInt8) (t5 : Int) (k : Value → W) : RTp c117 [(4, str t4), (5, .int .i64 t5)] k = (k (.tuple #[str t4, .int .i64 t5])) := by kernel_rfl
theorem c117_ok : (c117.P.follows .mixedOrders && okc c117 c117.body) = true := by kernel_rfl
theorem c117_fn {e : Enc} {args : Array Value} {G : e.α → W} {L : List HP} {ρ : Env} (hρ : envA 0 args.toList = ρ) (hs : Nat.ble args.size 20 = true) (h : E L (D c117 (.seq (.reg 0) (.seq (.seq (.reg 1) (.cond (.tmp 9) (.seq (.reg 2) (.ret)) (.skip))) (.seq (.reg 3) (.seq (.reg 4) (.ret))))) (fnQ c117 e G) ρ)) : E L (cal e Try.prog 117 args G) :=
  d_fn (c := c117) Try.func117 (by kernel_rfl) (by kernel_rfl) (by kernel_rfl) c117_ok (by kernel_rfl) (by kernel_rfl) hρ hs h
/-! (*gharry.pack.Writer).Num$1 -/
noncomputable def c118 : Cfg := { P := Try.prog, n := 12, T := TT, body := (Try.f118.body).getD .skip, res := Try.f118.results.toList, li := lk [] [(0, [0, 1, 2]), (1, [0, 1, 2])], lo := lk [] [(0, [0, 1, 2]), (1, [4, 5]), (1000000, [4, 5])], ord := lk (false, []) [] }
@[go_sem] theorem c118_i0 : c118.li 0 = [0, 1, 2] := rfl
@[go_sem] theorem c118_i1 : c118.li 1 = [0, 1, 2] := rfl
@[go_sem] theorem c118_r0 (s0 : List UInt8) (t1 : Addr) (t2 : Addr) (K : Env → W) : RP c118 0 [(0, str s0), (1, .pointer (some t1)), (2, .pointer (some t2))] K =
    (K [(0, str s0), (1, .pointer (some t1)), (2, .pointer (some t2))]) := by kernel_rfl
@[go_sem] theorem c118_r1 (s0 : List UInt8) (t1 : Addr) (t2 : Addr) (K : Env → W) : RP c118 1 [(0, str s0), (1, .pointer (some t1)), (2, .pointer (some t2))] K =
    (ld eI t1 fun (y1_ : Int) => (ld eI t2 fun (y2_ : Int) => (cal (eT2 eS eI) Try.prog 97 #[str s0, .int .i64 y1_, .int .i64 y2_] fun (y3_ : ((List UInt8) × Int)) => (K [(4, str y3_.1), (5, .int .i64 y3_.2)])))) := by kernel_rfl
@[go_sem] theorem c118_o : c118.lo 1000000 = [4, 5] := rfl
@[go_sem] theorem c118_e (t4 : List UInt8) (t5 : Int) (k : Value → W) : RTp c118 [(4, str t4), (5, .int .i64 t5)] k = (k (.tuple #[str t4, .int .i64 t5])) := by kernel_rfl
theorem c118_ok : (c118.P.follows .mixedOrders && okc c118 c118.body) = true := by kernel_rfl
theorem c118_fn {e : Enc} {args : Array Value} {G : e.α → W} {L : List HP} {ρ : Env} (hρ : envA 0 args.toList = ρ) (hs : Nat.ble args.size 12 = true) (h : E L (D c118 (.seq (.reg 0) (.seq (.reg 1) (.ret))) (fnQ c118 e G) ρ)) : E L (cal e Try.prog 118 args G) :=
  d_fn (c := c118) Try.func118 (by kernel_rfl) (by kernel_rfl) (by kernel_rfl) c118_ok (by kernel_rfl) (by kernel_rfl) hρ hs h
/-! gharry.pack.limit -/
noncomputable def c119 : Cfg := { P := Try.prog, n := 6, T := TT, body := (Try.f119.body).getD .skip, res := Try.f119.results.toList, li := lk [] [(0, [0]), (1, [0])], lo := lk [] [(0, [0]), (1, [2]), (1000000, [2])], ord := lk (false, []) [] }
@[go_sem] theorem c119_i0 : c119.li 0 = [0] := rfl
@[go_sem] theorem c119_i1 : c119.li 1 = [0] := rfl
@[go_sem] theorem c119_r0 (width0 : Int) (K : Env → W) : RP c119 0 [(0, .int .i64 width0)] K =
    (K [(0, .int .i64 width0)]) := by kernel_rfl
@[go_sem] theorem c119_r1 (width0 : Int) (K : Env → W) : RP c119 1 [(0, .int .i64 width0)] K =
    (rq (0 ≤ (IntKind.wrap .i64 ((8 : Int) * width0))) (K [(2, .int .i64 ((IntKind.wrap .i64 ((1 : Int) * 2 ^ (min ((IntKind.wrap .i64 ((8 : Int) * width0))).toNat 64)))))])) := by kernel_rfl
@[go_sem] theorem c119_o : c119.lo 1000000 = [2] := rfl
@[go_sem] theorem c119_e (t2 : Int) (k : Value → W) : RTp c119 [(2, .int .i64 t2)] k = (k (.int .i64 t2)) := by kernel_rfl
theorem c119_ok : (c119.P.follows .mixedOrders && okc c119 c119.body) = true := by kernel_rfl
theorem c119_fn {e : Enc} {args : Array Value} {G : e.α → W} {L : List HP} {ρ : Env} (hρ : envA 0 args.toList = ρ) (hs : Nat.ble args.size 6 = true) (h : E L (D c119 (.seq (.reg 0) (.seq (.reg 1) (.ret))) (fnQ c119 e G) ρ)) : E L (cal e Try.prog 119 args G) :=
  d_fn (c := c119) Try.func119 (by kernel_rfl) (by kernel_rfl) (by kernel_rfl) c119_ok (by kernel_rfl) (by kernel_rfl) hρ hs h
end Go.Sp
