/- Texts of a proof, one behind the other: Gd0 D1 D2 D3 D4 D5 D6 D7 D10 D11 D12 Gw0 Gwo0. No condition. -/
import Derived.Test.YtaidhghnflnmnaaGreatM5e8a56cb
import Derived.Test.YtaidhghnflnmnaaGreatM07037a67
import Derived.Test.YtaidhghnflnmnaaGreatMdf5d80c7
/- What each region of the Go functions does. Written by my own generator. -/
namespace Go.Sp
open Go
set_option maxRecDepth 100000
set_option linter.unusedVariables false
open Go.Proofs
/-! gharry.disk.New -/
noncomputable def c16 : Cfg := { P := Tryz.prog, n := 15, T := TT, body := (Tryz.f16.body).getD .skip, res := Tryz.f16.results.toList, li := lk [] [(0, [0]), (1, [0]), (2, []), (3, [0])], lo := lk [] [(0, [0]), (1, [0, 9]), (2, [2, 3]), (3, [2, 3]), (1000000, [2, 3])], ord := lk (false, []) [] }
@[go_sem] theorem c16_i0 : c16.li 0 = [0] := rfl
@[go_sem] theorem c16_i1 : c16.li 1 = [0] := rfl
@[go_sem] theorem c16_i2 : c16.li 2 = [] := rfl
@[go_sem] theorem c16_i3 : c16.li 3 = [0] := rfl
@[go_sem] theorem c16_r0 (sectors0 : Int) (K : Env → W) : RP c16 0 [(0, .int .i64 sectors0)] K =
    (K [(0, .int .i64 sectors0)]) := by kernel_rfl
@[go_sem] theorem c16_r1 (sectors0 : Int) (K : Env → W) : RP c16 1 [(0, .int .i64 sectors0)] K =
    (cnd ((decide (sectors0 < (1 : Int)))) (K [(0, .int .i64 sectors0), (9, .bool true)]) (K [(0, .int .i64 sectors0), (9, .bool ((decide ((8192 : Int) < sectors0))))])) := by kernel_rfl
@[go_sem] theorem c16_r2 (K : Env → W) : RP c16 2 [] K =
    (K [(2, .pointer none), (3, .int .i64 (1 : Int))]) := by kernel_rfl
@[go_sem] theorem c16_r3 (sectors0 : Int) (K : Env → W) : RP c16 3 [(0, .int .i64 sectors0)] K =
    (val eSl Tryz.prog (oMake 44 (.int .i64 sectors0) (.int .i64 sectors0)) fun (y1_ : (Option Addr × Nat × Nat)) => (nwb (.map #[] 0) fun y2_ => (nwc #[.slice (((y1_.1, y1_.2.1, y1_.2.2)).1) (((y1_.1, y1_.2.1, y1_.2.2)).2.1) (((y1_.1, y1_.2.1, y1_.2.2)).2.2), .map ((some y2_)), .bool (true), .int .i64 (-1 : Int), .int .u64 (0 : Int), .int .i64 (0 : Int), .int .i64 (0 : Int)] 108 fun y3_ => (K [(2, .pointer (some y3_)), (3, .int .i64 (0 : Int))])))) := by kernel_rfl
@[go_sem] theorem c16_o : c16.lo 1000000 = [2, 3] := rfl
@[go_sem] theorem c16_e (t2 : Option Addr) (t3 : Int) (k : Value → W) : RTp c16 [(2, .pointer t2), (3, .int .i64 t3)] k = (k (.tuple #[.pointer t2, .int .i64 t3])) := by kernel_rfl
theorem c16_ok : (c16.P.follows .mixedOrders && okc c16 c16.body) = true := by kernel_rfl
theorem c16_fn {e : Enc} {args : Array Value} {G : e.α → W} {L : List HP} {ρ : Env} (hρ : envA 0 args.toList = ρ) (hs : Nat.ble args.size 15 = true) (h : E L (D c16 (.seq (.reg 0) (.seq (.seq (.reg 1) (.cond (.tmp 9) (.seq (.reg 2) (.ret)) (.skip))) (.seq (.reg 3) (.ret)))) (fnQ c16 e G) ρ)) : E L (cal e Tryz.prog 16 args G) :=
  d_fn (c := c16) Tryz.func16 (by kernel_rfl) (by kernel_rfl) (by kernel_rfl) c16_ok (by kernel_rfl) (by kernel_rfl) hρ hs h
/-! (*gharry.disk.Disk).Read -/
noncomputable def c22 : Cfg := { P := Tryz.prog, n := 34, T := TT, body := (Tryz.f22.body).getD .skip, res := Tryz.f22.results.toList, li := lk [] [(0, [0, 1]), (1, [0, 1]), (2, [0, 1, 6]), (3, [6]), (4, [0, 1]), (5, [0, 1, 7, 8]), (6, [7]), (7, [0, 1])], lo := lk [] [(0, [0, 1]), (1, [0, 1, 6]), (2, [0, 1, 6, 13]), (3, [4, 5]), (4, [0, 1, 7, 8]), (5, [0, 1, 7, 24]), (6, [4, 5]), (7, [4, 5]), (1000000, [4, 5])], ord := lk (false, []) [] }
@[go_sem] theorem c22_i0 : c22.li 0 = [0, 1] := rfl
@[go_sem] theorem c22_i1 : c22.li 1 = [0, 1] := rfl
@[go_sem] theorem c22_i2 : c22.li 2 = [0, 1, 6] := rfl
@[go_sem] theorem c22_i3 : c22.li 3 = [6] := rfl
@[go_sem] theorem c22_i4 : c22.li 4 = [0, 1] := rfl
@[go_sem] theorem c22_i5 : c22.li 5 = [0, 1, 7, 8] := rfl
@[go_sem] theorem c22_i6 : c22.li 6 = [7] := rfl
@[go_sem] theorem c22_i7 : c22.li 7 = [0, 1] := rfl
@[go_sem] theorem c22_r0 (d0 : Option Addr) (i1 : Int) (K : Env → W) : RP c22 0 [(0, .pointer d0), (1, .int .i64 i1)] K =
    (K [(0, .pointer d0), (1, .int .i64 i1)]) := by kernel_rfl
@[go_sem] theorem c22_r1 (d0 : Option Addr) (i1 : Int) (K : Env → W) : RP c22 1 [(0, .pointer d0), (1, .int .i64 i1)] K =
    (cal eI Tryz.prog 80 #[.pointer d0, .int .i64 i1] fun (y1_ : Int) => (K [(0, .pointer d0), (1, .int .i64 i1), (6, .int .i64 y1_)])) := by kernel_rfl
@[go_sem] theorem c22_r2 (d0 : Option Addr) (i1 : Int) (e6 : Int) (K : Env → W) : RP c22 2 [(0, .pointer d0), (1, .int .i64 i1), (6, .int .i64 e6)] K =
    (K [(0, .pointer d0), (1, .int .i64 i1), (6, .int .i64 e6), (13, .bool ((e6 != (0 : Int))))]) := by kernel_rfl
@[go_sem] theorem c22_r3 (e6 : Int) (K : Env → W) : RP c22 3 [(6, .int .i64 e6)] K =
    (K [(4, str (([] : List UInt8))), (5, .int .i64 e6)]) := by kernel_rfl
@[go_sem] theorem c22_r4 (d0 : Option Addr) (i1 : Int) (K : Env → W) : RP c22 4 [(0, .pointer d0), (1, .int .i64 i1)] K =
    (nn d0 fun y1_ => (ld eM ((y1_.add 1)) fun (y2_ : Option Nat) => (val (eT2 eS eB) Tryz.prog (oLookup 106 (.map y2_) (.int .i64 i1) true) fun (y3_ : ((List UInt8) × Bool)) => (K [(0, .pointer d0), (1, .int .i64 i1), (7, str y3_.1), (8, .bool y3_.2)])))) := by kernel_rfl
@[go_sem] theorem c22_r5 (d0 : Option Addr) (i1 : Int) (s7 : List UInt8) (ok8 : Bool) (K : Env → W) : RP c22 5 [(0, .pointer d0), (1, .int .i64 i1), (7, str s7), (8, .bool ok8)] K =
    (K [(0, .pointer d0), (1, .int .i64 i1), (7, str s7), (24, .bool ok8)]) := by kernel_rfl
@[go_sem] theorem c22_r6 (s7 : List UInt8) (K : Env → W) : RP c22 6 [(7, str s7)] K =
    (K [(4, str s7), (5, .int .i64 (0 : Int))]) := by kernel_rfl
@[go_sem] theorem c22_r7 (d0 : Option Addr) (i1 : Int) (K : Env → W) : RP c22 7 [(0, .pointer d0), (1, .int .i64 i1)] K =
    (nn d0 fun y1_ => (ld eSl y1_ fun (y2_ : (Option Addr × Nat × Nat)) => (rq (0 ≤ i1 ∧ i1 < (y2_.2.1 : Int)) (nn y2_.1 fun y3_ => (ld eS ((Addr.add y3_ ((i1).toNat * 1))) fun (y4_ : List UInt8) => (cal eS Tryz.prog 81 #[str y4_] fun (y5_ : List UInt8) => (K [(4, str y5_), (5, .int .i64 (0 : Int))]))))))) := by kernel_rfl
@[go_sem] theorem c22_o : c22.lo 1000000 = [4, 5] := rfl
@[go_sem] theorem c22_e (t4 : List UInt8) (t5 : Int) (k : Value → W) : RTp c22 [(4, str t4), (5, .int .i64 t5)] k = (k (.tuple #[str t4, .int .i64 t5])) := by kernel_rfl
theorem c22_ok : (c22.P.follows .mixedOrders && okc c22 c22.body) = true := by kernel_rfl
theorem c22_fn {e : Enc} {args : Array Value} {G : e.α → W} {L : List HP} {ρ : Env} (hρ : envA 0 args.toList = ρ) (hs : Nat.ble args.size 34 = true) (h : E L (D c22 (.seq (.reg 0) (.seq (.seq (.reg 1) (.seq (.reg 2) (.cond (.tmp 13) (.seq (.reg 3) (.ret)) (.skip)))) (.seq (.seq (.reg 4) (.seq (.reg 5) (.cond (.tmp 24) (.seq (.reg 6) (.ret)) (.skip)))) (.seq (.reg 7) (.ret))))) (fnQ c22 e G) ρ)) : E L (cal e Tryz.prog 22 args G) :=
  d_fn (c := c22) Tryz.func22 (by kernel_rfl) (by kernel_rfl) (by kernel_rfl) c22_ok (by kernel_rfl) (by kernel_rfl) hρ hs h
/-! (*gharry.disk.Disk).Write -/
noncomputable def c24 : Cfg := { P := Tryz.prog, n := 30, T := TT, body := (Tryz.f24.body).getD .skip, res := Tryz.f24.results.toList, li := lk [] [(0, [0, 1, 2]), (1, [0, 1, 2]), (2, [0, 1, 2, 7]), (3, [7]), (4, [0, 1, 2]), (5, []), (6, [0, 1, 2]), (7, [0, 1, 2, 8]), (8, [8]), (9, [0, 1, 2]), (10, [])], lo := lk [] [(0, [0, 1, 2]), (1, [0, 1, 2, 7]), (2, [0, 1, 2, 7, 13]), (3, [6]), (4, [0, 1, 2, 17]), (5, [6]), (6, [0, 1, 2, 8]), (7, [0, 1, 2, 8, 21]), (8, [6]), (9, []), (10, [6]), (1000000, [6])], ord := lk (false, []) [(9, (true, [(0, 1), (1, 1), (2, 1), (3, 0), (4, 1), (5, 1), (6, 2), (7, 4)]))] }
@[go_sem] theorem c24_i0 : c24.li 0 = [0, 1, 2] := rfl
@[go_sem] theorem c24_i1 : c24.li 1 = [0, 1, 2] := rfl
@[go_sem] theorem c24_i2 : c24.li 2 = [0, 1, 2, 7] := rfl
@[go_sem] theorem c24_i3 : c24.li 3 = [7] := rfl
@[go_sem] theorem c24_i4 : c24.li 4 = [0, 1, 2] := rfl
@[go_sem] theorem c24_i5 : c24.li 5 = [] := rfl
@[go_sem] theorem c24_i6 : c24.li 6 = [0, 1, 2] := rfl
@[go_sem] theorem c24_i7 : c24.li 7 = [0, 1, 2, 8] := rfl
@[go_sem] theorem c24_i8 : c24.li 8 = [8] := rfl
@[go_sem] theorem c24_i9 : c24.li 9 = [0, 1, 2] := rfl
@[go_sem] theorem c24_i10 : c24.li 10 = [] := rfl
@[go_sem] theorem c24_r0 (d0 : Option Addr) (i1 : Int) (s2 : List UInt8) (K : Env → W) : RP c24 0 [(0, .pointer d0), (1, .int .i64 i1), (2, str s2)] K =
    (K [(0, .pointer d0), (1, .int .i64 i1), (2, str s2)]) := by kernel_rfl
@[go_sem] theorem c24_r1 (d0 : Option Addr) (i1 : Int) (s2 : List UInt8) (K : Env → W) : RP c24 1 [(0, .pointer d0), (1, .int .i64 i1), (2, str s2)] K =
    (cal eI Tryz.prog 80 #[.pointer d0, .int .i64 i1] fun (y1_ : Int) => (K [(0, .pointer d0), (1, .int .i64 i1), (2, str s2), (7, .int .i64 y1_)])) := by kernel_rfl
@[go_sem] theorem c24_r2 (d0 : Option Addr) (i1 : Int) (s2 : List UInt8) (e7 : Int) (K : Env → W) : RP c24 2 [(0, .pointer d0), (1, .int .i64 i1), (2, str s2), (7, .int .i64 e7)] K =
    (K [(0, .pointer d0), (1, .int .i64 i1), (2, str s2), (7, .int .i64 e7), (13, .bool ((e7 != (0 : Int))))]) := by kernel_rfl
@[go_sem] theorem c24_r3 (e7 : Int) (K : Env → W) : RP c24 3 [(7, .int .i64 e7)] K =
    (K [(6, .int .i64 e7)]) := by kernel_rfl
@[go_sem] theorem c24_r4 (d0 : Option Addr) (i1 : Int) (s2 : List UInt8) (K : Env → W) : RP c24 4 [(0, .pointer d0), (1, .int .i64 i1), (2, str s2)] K =
    (K [(0, .pointer d0), (1, .int .i64 i1), (2, str s2), (17, .bool ((decide ((64 : Int) < ((s2).length : Int)))))]) := by kernel_rfl
@[go_sem] theorem c24_r5 (K : Env → W) : RP c24 5 [] K =
    (K [(6, .int .i64 (3 : Int))]) := by kernel_rfl
@[go_sem] theorem c24_r6 (d0 : Option Addr) (i1 : Int) (s2 : List UInt8) (K : Env → W) : RP c24 6 [(0, .pointer d0), (1, .int .i64 i1), (2, str s2)] K =
    (cal eI Tryz.prog 82 #[.pointer d0] fun (y1_ : Int) => (K [(0, .pointer d0), (1, .int .i64 i1), (2, str s2), (8, .int .i64 y1_)])) := by kernel_rfl
@[go_sem] theorem c24_r7 (d0 : Option Addr) (i1 : Int) (s2 : List UInt8) (e8 : Int) (K : Env → W) : RP c24 7 [(0, .pointer d0), (1, .int .i64 i1), (2, str s2), (8, .int .i64 e8)] K =
    (K [(0, .pointer d0), (1, .int .i64 i1), (2, str s2), (8, .int .i64 e8), (21, .bool ((e8 != (0 : Int))))]) := by kernel_rfl
@[go_sem] theorem c24_r8 (e8 : Int) (K : Env → W) : RP c24 8 [(8, .int .i64 e8)] K =
    (K [(6, .int .i64 e8)]) := by kernel_rfl
@[go_sem] theorem c24_r9 (d0 : Option Addr) (i1 : Int) (s2 : List UInt8) (K : Env → W) : RP c24 9 [(0, .pointer d0), (1, .int .i64 i1), (2, str s2)] K =
    (ph fun S0 => (nn d0 fun y1_ => (ldq S0 eM ((y1_.add 1)) fun (y2_ : Option Nat) => (cal eS Tryz.prog 81 #[str s2] fun (y3_ : List UInt8) => (kpn S0 fun S1 => (unt Tryz.prog (oMapUpdate 106 (.map y2_) (.int .i64 i1) (str y3_)) (K []))))))) := by kernel_rfl
@[go_sem] theorem c24_r10 (K : Env → W) : RP c24 10 [] K =
    (K [(6, .int .i64 (0 : Int))]) := by kernel_rfl
@[go_sem] theorem c24_o : c24.lo 1000000 = [6] := rfl
@[go_sem] theorem c24_e (t6 : Int) (k : Value → W) : RTp c24 [(6, .int .i64 t6)] k = (k (.int .i64 t6)) := by kernel_rfl
theorem c24_ok : (c24.P.follows .mixedOrders && okc c24 c24.body) = true := by kernel_rfl
theorem c24_fn {e : Enc} {args : Array Value} {G : e.α → W} {L : List HP} {ρ : Env} (hρ : envA 0 args.toList = ρ) (hs : Nat.ble args.size 30 = true) (h : E L (D c24 (.seq (.reg 0) (.seq (.seq (.reg 1) (.seq (.reg 2) (.cond (.tmp 13) (.seq (.reg 3) (.ret)) (.skip)))) (.seq (.seq (.reg 4) (.cond (.tmp 17) (.seq (.reg 5) (.ret)) (.skip))) (.seq (.seq (.reg 6) (.seq (.reg 7) (.cond (.tmp 21) (.seq (.reg 8) (.ret)) (.skip)))) (.seq (.reg 9) (.seq (.reg 10) (.ret))))))) (fnQ c24 e G) ρ)) : E L (cal e Tryz.prog 24 args G) :=
  d_fn (c := c24) Tryz.func24 (by kernel_rfl) (by kernel_rfl) (by kernel_rfl) c24_ok (by kernel_rfl) (by kernel_rfl) hρ hs h
/-! (*gharry.disk.Disk).Arm -/
/-! (*gharry.disk.Disk).Up -/
noncomputable def c61 : Cfg := { P := Tryz.prog, n := 12, T := TT, body := (Tryz.f61.body).getD .skip, res := Tryz.f61.results.toList, li := lk [] [(0, [0]), (1, [0])], lo := lk [] [(0, [0]), (1, [2]), (1000000, [2])], ord := lk (false, []) [] }
@[go_sem] theorem c61_i0 : c61.li 0 = [0] := rfl
@[go_sem] theorem c61_i1 : c61.li 1 = [0] := rfl
@[go_sem] theorem c61_r0 (d0 : Option Addr) (K : Env → W) : RP c61 0 [(0, .pointer d0)] K =
    (K [(0, .pointer d0)]) := by kernel_rfl
@[go_sem] theorem c61_r1 (d0 : Option Addr) (K : Env → W) : RP c61 1 [(0, .pointer d0)] K =
    (cal eB Tryz.prog 96 #[.pointer d0] fun (y1_ : Bool) => (cnd ((!y1_)) (nn d0 fun y2_ => (ld eB ((y2_.add 2)) fun (y3_ : Bool) => (K [(2, .bool y3_)]))) (K [(2, .bool false)]))) := by kernel_rfl
@[go_sem] theorem c61_o : c61.lo 1000000 = [2] := rfl
@[go_sem] theorem c61_e (t2 : Bool) (k : Value → W) : RTp c61 [(2, .bool t2)] k = (k (.bool t2)) := by kernel_rfl
theorem c61_ok : (c61.P.follows .mixedOrders && okc c61 c61.body) = true := by kernel_rfl
theorem c61_fn {e : Enc} {args : Array Value} {G : e.α → W} {L : List HP} {ρ : Env} (hρ : envA 0 args.toList = ρ) (hs : Nat.ble args.size 12 = true) (h : E L (D c61 (.seq (.reg 0) (.seq (.reg 1) (.ret))) (fnQ c61 e G) ρ)) : E L (cal e Tryz.prog 61 args G) :=
  d_fn (c := c61) Tryz.func61 (by kernel_rfl) (by kernel_rfl) (by kernel_rfl) c61_ok (by kernel_rfl) (by kernel_rfl) hρ hs h
/-! (*gharry.disk.Disk).Crash -/
noncomputable def c62 : Cfg := { P := Tryz.prog, n := 14, T := TT, body := (Tryz.f62.body).getD .skip, res := Tryz.f62.results.toList, li := lk [] [(0, [0, 1]), (1, [0, 1]), (2, [0, 1, 5]), (3, [5]), (4, [0, 1]), (5, [])], lo := lk [] [(0, [0, 1]), (1, [0, 1, 5]), (2, [0, 1, 5, 9]), (3, [4]), (4, []), (5, [4]), (1000000, [4])], ord := lk (false, []) [] }
@[go_sem] theorem c62_i0 : c62.li 0 = [0, 1] := rfl
@[go_sem] theorem c62_i1 : c62.li 1 = [0, 1] := rfl
@[go_sem] theorem c62_i2 : c62.li 2 = [0, 1, 5] := rfl
@[go_sem] theorem c62_i3 : c62.li 3 = [5] := rfl
@[go_sem] theorem c62_i4 : c62.li 4 = [0, 1] := rfl
@[go_sem] theorem c62_i5 : c62.li 5 = [] := rfl
@[go_sem] theorem c62_r0 (d0 : Option Addr) (keep1 : Int) (K : Env → W) : RP c62 0 [(0, .pointer d0), (1, .int .u64 keep1)] K =
    (K [(0, .pointer d0), (1, .int .u64 keep1)]) := by kernel_rfl
@[go_sem] theorem c62_r1 (d0 : Option Addr) (keep1 : Int) (K : Env → W) : RP c62 1 [(0, .pointer d0), (1, .int .u64 keep1)] K =
    (cal eI Tryz.prog 80 #[.pointer d0, .int .i64 (0 : Int)] fun (y1_ : Int) => (K [(0, .pointer d0), (1, .int .u64 keep1), (5, .int .i64 y1_)])) := by kernel_rfl
@[go_sem] theorem c62_r2 (d0 : Option Addr) (keep1 : Int) (e5 : Int) (K : Env → W) : RP c62 2 [(0, .pointer d0), (1, .int .u64 keep1), (5, .int .i64 e5)] K =
    (K [(0, .pointer d0), (1, .int .u64 keep1), (5, .int .i64 e5), (9, .bool ((e5 != (0 : Int))))]) := by kernel_rfl
@[go_sem] theorem c62_r3 (e5 : Int) (K : Env → W) : RP c62 3 [(5, .int .i64 e5)] K =
    (K [(4, .int .i64 e5)]) := by kernel_rfl
@[go_sem] theorem c62_r4 (d0 : Option Addr) (keep1 : Int) (K : Env → W) : RP c62 4 [(0, .pointer d0), (1, .int .u64 keep1)] K =
    (cal eN Tryz.prog 97 #[.pointer d0, .int .u64 keep1] fun (y1_ : Unit) => (K [])) := by kernel_rfl
@[go_sem] theorem c62_r5 (K : Env → W) : RP c62 5 [] K =
    (K [(4, .int .i64 (0 : Int))]) := by kernel_rfl
@[go_sem] theorem c62_o : c62.lo 1000000 = [4] := rfl
@[go_sem] theorem c62_e (t4 : Int) (k : Value → W) : RTp c62 [(4, .int .i64 t4)] k = (k (.int .i64 t4)) := by kernel_rfl
theorem c62_ok : (c62.P.follows .mixedOrders && okc c62 c62.body) = true := by kernel_rfl
theorem c62_fn {e : Enc} {args : Array Value} {G : e.α → W} {L : List HP} {ρ : Env} (hρ : envA 0 args.toList = ρ) (hs : Nat.ble args.size 14 = true) (h : E L (D c62 (.seq (.reg 0) (.seq (.seq (.reg 1) (.seq (.reg 2) (.cond (.tmp 9) (.seq (.reg 3) (.ret)) (.skip)))) (.seq (.reg 4) (.seq (.reg 5) (.ret))))) (fnQ c62 e G) ρ)) : E L (cal e Tryz.prog 62 args G) :=
  d_fn (c := c62) Tryz.func62 (by kernel_rfl) (by kernel_rfl) (by kernel_rfl) c62_ok (by kernel_rfl) (by kernel_rfl) hρ hs h
/-! (*gharry.disk.Disk).Calm -/
/-! (*gharry.disk.Disk).Start -/
noncomputable def c64 : Cfg := { P := Tryz.prog, n := 14, T := TT, body := (Tryz.f64.body).getD .skip, res := Tryz.f64.results.toList, li := lk [] [(0, [0]), (1, [0]), (2, []), (3, [0]), (4, []), (5, [0]), (6, [])], lo := lk [] [(0, [0]), (1, [0, 3]), (2, [2]), (3, [0, 6]), (4, [2]), (5, []), (6, [2]), (1000000, [2])], ord := lk (false, []) [] }
@[go_sem] theorem c64_i0 : c64.li 0 = [0] := rfl
@[go_sem] theorem c64_i1 : c64.li 1 = [0] := rfl
@[go_sem] theorem c64_i2 : c64.li 2 = [] := rfl
@[go_sem] theorem c64_i3 : c64.li 3 = [0] := rfl
@[go_sem] theorem c64_i4 : c64.li 4 = [] := rfl
@[go_sem] theorem c64_i5 : c64.li 5 = [0] := rfl
@[go_sem] theorem c64_i6 : c64.li 6 = [] := rfl
@[go_sem] theorem c64_r0 (d0 : Option Addr) (K : Env → W) : RP c64 0 [(0, .pointer d0)] K =
    (K [(0, .pointer d0)]) := by kernel_rfl
@[go_sem] theorem c64_r1 (d0 : Option Addr) (K : Env → W) : RP c64 1 [(0, .pointer d0)] K =
    (cal eB Tryz.prog 96 #[.pointer d0] fun (y1_ : Bool) => (K [(0, .pointer d0), (3, .bool y1_)])) := by kernel_rfl
@[go_sem] theorem c64_r2 (K : Env → W) : RP c64 2 [] K =
    (K [(2, .int .i64 (11 : Int))]) := by kernel_rfl
@[go_sem] theorem c64_r3 (d0 : Option Addr) (K : Env → W) : RP c64 3 [(0, .pointer d0)] K =
    (nn d0 fun y1_ => (ld eB ((y1_.add 2)) fun (y2_ : Bool) => (K [(0, .pointer d0), (6, .bool y2_)]))) := by kernel_rfl
@[go_sem] theorem c64_r4 (K : Env → W) : RP c64 4 [] K =
    (K [(2, .int .i64 (19 : Int))]) := by kernel_rfl
@[go_sem] theorem c64_r5 (d0 : Option Addr) (K : Env → W) : RP c64 5 [(0, .pointer d0)] K =
    (nn d0 fun y1_ => (st ((y1_.add 2)) (.bool true) (K []))) := by kernel_rfl
@[go_sem] theorem c64_r6 (K : Env → W) : RP c64 6 [] K =
    (K [(2, .int .i64 (0 : Int))]) := by kernel_rfl
@[go_sem] theorem c64_o : c64.lo 1000000 = [2] := rfl
@[go_sem] theorem c64_e (t2 : Int) (k : Value → W) : RTp c64 [(2, .int .i64 t2)] k = (k (.int .i64 t2)) := by kernel_rfl
theorem c64_ok : (c64.P.follows .mixedOrders && okc c64 c64.body) = true := by kernel_rfl
theorem c64_fn {e : Enc} {args : Array Value} {G : e.α → W} {L : List HP} {ρ : Env} (hρ : envA 0 args.toList = ρ) (hs : Nat.ble args.size 14 = true) (h : E L (D c64 (.seq (.reg 0) (.seq (.block 0 (.seq (.reg 1) (.cond (.tmp 3) (.seq (.reg 2) (.ret)) (.seq (.reg 3) (.cond (.tmp 6) (.seq (.reg 4) (.ret)) (.skip)))))) (.seq (.reg 5) (.seq (.reg 6) (.ret))))) (fnQ c64 e G) ρ)) : E L (cal e Tryz.prog 64 args G) :=
  d_fn (c := c64) Tryz.func64 (by kernel_rfl) (by kernel_rfl) (by kernel_rfl) c64_ok (by kernel_rfl) (by kernel_rfl) hρ hs h
/-! (*gharry.disk.Disk).Sync -/
noncomputable def c79 : Cfg := { P := Tryz.prog, n := 38, T := TT, body := (Tryz.f79.body).getD .skip, res := Tryz.f79.results.toList, li := lk [] [(0, [0]), (1, [0]), (2, [0, 3]), (3, [3]), (4, [0]), (5, [0, 4]), (6, [4]), (7, [0]), (8, [0, 21]), (9, [0, 21]), (10, [0, 5, 6, 21]), (11, [0]), (12, [])], lo := lk [] [(0, [0]), (1, [0, 3]), (2, [0, 3, 10]), (3, [2]), (4, [0, 4]), (5, [0, 4, 15]), (6, [2]), (7, [0, 21]), (8, [0, 21, 23]), (9, [0, 5, 6, 21]), (10, [0, 21]), (11, []), (12, [2]), (1000000, [2])], ord := lk (false, []) [], de := [(21, eP), (22, (eT3 eB eI eS)), (24, (eT2 eI eS))] }
@[go_sem] theorem c79_i0 : c79.li 0 = [0] := rfl
@[go_sem] theorem c79_i1 : c79.li 1 = [0] := rfl
@[go_sem] theorem c79_i2 : c79.li 2 = [0, 3] := rfl
@[go_sem] theorem c79_i3 : c79.li 3 = [3] := rfl
@[go_sem] theorem c79_i4 : c79.li 4 = [0] := rfl
@[go_sem] theorem c79_i5 : c79.li 5 = [0, 4] := rfl
@[go_sem] theorem c79_i6 : c79.li 6 = [4] := rfl
@[go_sem] theorem c79_i7 : c79.li 7 = [0] := rfl
@[go_sem] theorem c79_i8 : c79.li 8 = [0, 21] := rfl
@[go_sem] theorem c79_i9 : c79.li 9 = [0, 21] := rfl
@[go_sem] theorem c79_i10 : c79.li 10 = [0, 5, 6, 21] := rfl
@[go_sem] theorem c79_i11 : c79.li 11 = [0] := rfl
@[go_sem] theorem c79_i12 : c79.li 12 = [] := rfl
@[go_sem] theorem c79_r0 (d0 : Option Addr) (K : Env → W) : RP c79 0 [(0, .pointer d0)] K =
    (K [(0, .pointer d0)]) := by kernel_rfl
@[go_sem] theorem c79_r1 (d0 : Option Addr) (K : Env → W) : RP c79 1 [(0, .pointer d0)] K =
    (cal eI Tryz.prog 80 #[.pointer d0, .int .i64 (0 : Int)] fun (y1_ : Int) => (K [(0, .pointer d0), (3, .int .i64 y1_)])) := by kernel_rfl
@[go_sem] theorem c79_r2 (d0 : Option Addr) (e3 : Int) (K : Env → W) : RP c79 2 [(0, .pointer d0), (3, .int .i64 e3)] K =
    (K [(0, .pointer d0), (3, .int .i64 e3), (10, .bool ((e3 != (0 : Int))))]) := by kernel_rfl
@[go_sem] theorem c79_r3 (e3 : Int) (K : Env → W) : RP c79 3 [(3, .int .i64 e3)] K =
    (K [(2, .int .i64 e3)]) := by kernel_rfl
@[go_sem] theorem c79_r4 (d0 : Option Addr) (K : Env → W) : RP c79 4 [(0, .pointer d0)] K =
    (cal eI Tryz.prog 82 #[.pointer d0] fun (y1_ : Int) => (K [(0, .pointer d0), (4, .int .i64 y1_)])) := by kernel_rfl
@[go_sem] theorem c79_r5 (d0 : Option Addr) (e4 : Int) (K : Env → W) : RP c79 5 [(0, .pointer d0), (4, .int .i64 e4)] K =
    (K [(0, .pointer d0), (4, .int .i64 e4), (15, .bool ((e4 != (0 : Int))))]) := by kernel_rfl
@[go_sem] theorem c79_r6 (e4 : Int) (K : Env → W) : RP c79 6 [(4, .int .i64 e4)] K =
    (K [(2, .int .i64 e4)]) := by kernel_rfl
@[go_sem] theorem c79_r7 (d0 : Option Addr) (K : Env → W) : RP c79 7 [(0, .pointer d0)] K =
    (nn d0 fun y1_ => (ld eM ((y1_.add 1)) fun (y2_ : Option Nat) => (val eP Tryz.prog (oRange 106 (.map y2_)) fun (y3_ : Option Addr) => (K [(0, .pointer d0), (21, .pointer y3_)])))) := by kernel_rfl
@[go_sem] theorem c79_r8 (d0 : Option Addr) (t21 : Option Addr) (K : Env → W) : RP c79 8 [(0, .pointer d0), (21, .pointer t21)] K =
    (nxt (eT3 eB eI eS) Tryz.prog (oNext (.pointer t21) false 0) (K [(0, .pointer d0), (21, .pointer t21), (23, .bool false)]) fun (y1_ : (Bool × Int × (List UInt8))) => (K [(0, .pointer d0), (21, .pointer t21), (23, .bool y1_.1)])) := by kernel_rfl
@[go_sem] theorem c79_r9 (d0 : Option Addr) (t21 : Option Addr) (K : Env → W) : RP c79 9 [(0, .pointer d0), (21, .pointer t21)] K =
    (val (eT2 eI eS) Tryz.prog (oEntry (.pointer t21)) fun (y1_ : (Int × (List UInt8))) => (K [(0, .pointer d0), (5, .int .i64 y1_.1), (6, str y1_.2), (21, .pointer t21)])) := by kernel_rfl
@[go_sem] theorem c79_r10 (d0 : Option Addr) (i5 : Int) (s6 : List UInt8) (t21 : Option Addr) (K : Env → W) : RP c79 10 [(0, .pointer d0), (5, .int .i64 i5), (6, str s6), (21, .pointer t21)] K =
    (nn d0 fun y1_ => (ld eSl y1_ fun (y2_ : (Option Addr × Nat × Nat)) => (rq (0 ≤ i5 ∧ i5 < (y2_.2.1 : Int)) (nn y2_.1 fun y3_ => (st ((Addr.add y3_ ((i5).toNat * 1))) (str s6) (K [(0, .pointer d0), (21, .pointer t21)])))))) := by kernel_rfl
@[go_sem] theorem c79_r11 (d0 : Option Addr) (K : Env → W) : RP c79 11 [(0, .pointer d0)] K =
    (nn d0 fun y1_ => (ld eM ((y1_.add 1)) fun (y2_ : Option Nat) => (val eN Tryz.prog (oB_clear #[106] 0 #[.map y2_]) fun (y3_ : Unit) => (K [])))) := by kernel_rfl
@[go_sem] theorem c79_r12 (K : Env → W) : RP c79 12 [] K =
    (K [(2, .int .i64 (0 : Int))]) := by kernel_rfl
@[go_sem] theorem c79_o : c79.lo 1000000 = [2] := rfl
@[go_sem] theorem c79_e (t2 : Int) (k : Value → W) : RTp c79 [(2, .int .i64 t2)] k = (k (.int .i64 t2)) := by kernel_rfl
theorem c79_ok : (c79.P.follows .mixedOrders && okc c79 c79.body) = true := by kernel_rfl
theorem c79_fn {e : Enc} {args : Array Value} {G : e.α → W} {L : List HP} {ρ : Env} (hρ : envA 0 args.toList = ρ) (hs : Nat.ble args.size 38 = true) (h : E L (D c79 (.seq (.reg 0) (.seq (.seq (.reg 1) (.seq (.reg 2) (.cond (.tmp 10) (.seq (.reg 3) (.ret)) (.skip)))) (.seq (.seq (.reg 4) (.seq (.reg 5) (.cond (.tmp 15) (.seq (.reg 6) (.ret)) (.skip)))) (.seq (.seq (.reg 7) (.block 0 (.loop (.seq (.reg 8) (.seq (.cond (.tmp 23) (.skip) (.exit 0)) (.block 1 (.seq (.reg 9) (.reg 10)))))))) (.seq (.reg 11) (.seq (.reg 12) (.ret))))))) (fnQ c79 e G) ρ)) : E L (cal e Tryz.prog 79 args G) :=
  d_fn (c := c79) Tryz.func79 (by kernel_rfl) (by kernel_rfl) (by kernel_rfl) c79_ok (by kernel_rfl) (by kernel_rfl) hρ hs h
-- loop (first region 8): live slots 0:d0 21:t21, of which it writes []
/-! (*gharry.disk.Disk).check -/
noncomputable def c80 : Cfg := { P := Tryz.prog, n := 26, T := TT, body := (Tryz.f80.body).getD .skip, res := Tryz.f80.results.toList, li := lk [] [(0, [0, 1]), (1, [0, 1]), (2, []), (3, [0, 1]), (4, []), (5, [0, 1]), (6, []), (7, [])], lo := lk [] [(0, [0, 1]), (1, [0, 1, 5]), (2, [4]), (3, [0, 1, 8]), (4, [4]), (5, [14]), (6, [4]), (7, [4]), (1000000, [4])], ord := lk (false, []) [] }
@[go_sem] theorem c80_i0 : c80.li 0 = [0, 1] := rfl
@[go_sem] theorem c80_i1 : c80.li 1 = [0, 1] := rfl
@[go_sem] theorem c80_i2 : c80.li 2 = [] := rfl
@[go_sem] theorem c80_i3 : c80.li 3 = [0, 1] := rfl
@[go_sem] theorem c80_i4 : c80.li 4 = [] := rfl
@[go_sem] theorem c80_i5 : c80.li 5 = [0, 1] := rfl
@[go_sem] theorem c80_i6 : c80.li 6 = [] := rfl
@[go_sem] theorem c80_i7 : c80.li 7 = [] := rfl
@[go_sem] theorem c80_r0 (d0 : Option Addr) (i1 : Int) (K : Env → W) : RP c80 0 [(0, .pointer d0), (1, .int .i64 i1)] K =
    (K [(0, .pointer d0), (1, .int .i64 i1)]) := by kernel_rfl
@[go_sem] theorem c80_r1 (d0 : Option Addr) (i1 : Int) (K : Env → W) : RP c80 1 [(0, .pointer d0), (1, .int .i64 i1)] K =
    (cal eB Tryz.prog 96 #[.pointer d0] fun (y1_ : Bool) => (K [(0, .pointer d0), (1, .int .i64 i1), (5, .bool y1_)])) := by kernel_rfl
@[go_sem] theorem c80_r2 (K : Env → W) : RP c80 2 [] K =
    (K [(4, .int .i64 (11 : Int))]) := by kernel_rfl
@[go_sem] theorem c80_r3 (d0 : Option Addr) (i1 : Int) (K : Env → W) : RP c80 3 [(0, .pointer d0), (1, .int .i64 i1)] K =
    (nn d0 fun y1_ => (ld eB ((y1_.add 2)) fun (y2_ : Bool) => (K [(0, .pointer d0), (1, .int .i64 i1), (8, .bool ((!y2_)))]))) := by kernel_rfl
@[go_sem] theorem c80_r4 (K : Env → W) : RP c80 4 [] K =
    (K [(4, .int .i64 (9 : Int))]) := by kernel_rfl
@[go_sem] theorem c80_r5 (d0 : Option Addr) (i1 : Int) (K : Env → W) : RP c80 5 [(0, .pointer d0), (1, .int .i64 i1)] K =
    (cnd ((decide (i1 < (0 : Int)))) (K [(14, .bool true)]) (nn d0 fun y1_ => (ld eSl y1_ fun (y2_ : (Option Addr × Nat × Nat)) => (K [(14, .bool ((decide ((y2_.2.1 : Int) ≤ i1))))])))) := by kernel_rfl
@[go_sem] theorem c80_r6 (K : Env → W) : RP c80 6 [] K =
    (K [(4, .int .i64 (6 : Int))]) := by kernel_rfl
@[go_sem] theorem c80_r7 (K : Env → W) : RP c80 7 [] K =
    (K [(4, .int .i64 (0 : Int))]) := by kernel_rfl
@[go_sem] theorem c80_o : c80.lo 1000000 = [4] := rfl
@[go_sem] theorem c80_e (t4 : Int) (k : Value → W) : RTp c80 [(4, .int .i64 t4)] k = (k (.int .i64 t4)) := by kernel_rfl
theorem c80_ok : (c80.P.follows .mixedOrders && okc c80 c80.body) = true := by kernel_rfl
theorem c80_fn {e : Enc} {args : Array Value} {G : e.α → W} {L : List HP} {ρ : Env} (hρ : envA 0 args.toList = ρ) (hs : Nat.ble args.size 26 = true) (h : E L (D c80 (.seq (.reg 0) (.seq (.block 0 (.seq (.reg 1) (.cond (.tmp 5) (.seq (.reg 2) (.ret)) (.seq (.reg 3) (.cond (.tmp 8) (.seq (.reg 4) (.ret)) (.seq (.reg 5) (.cond (.tmp 14) (.seq (.reg 6) (.ret)) (.skip)))))))) (.seq (.reg 7) (.ret)))) (fnQ c80 e G) ρ)) : E L (cal e Tryz.prog 80 args G) :=
  d_fn (c := c80) Tryz.func80 (by kernel_rfl) (by kernel_rfl) (by kernel_rfl) c80_ok (by kernel_rfl) (by kernel_rfl) hρ hs h
/-! gharry.disk.whole -/
noncomputable def c81 : Cfg := { P := Tryz.prog, n := 9, T := TT, body := (Tryz.f81.body).getD .skip, res := Tryz.f81.results.toList, li := lk [] [(0, [0]), (1, [0])], lo := lk [] [(0, [0]), (1, [2]), (1000000, [2])], ord := lk (false, []) [] }
@[go_sem] theorem c81_i0 : c81.li 0 = [0] := rfl
@[go_sem] theorem c81_i1 : c81.li 1 = [0] := rfl
@[go_sem] theorem c81_r0 (s0 : List UInt8) (K : Env → W) : RP c81 0 [(0, str s0)] K =
    (K [(0, str s0)]) := by kernel_rfl
@[go_sem] theorem c81_r1 (s0 : List UInt8) (K : Env → W) : RP c81 1 [(0, str s0)] K =
    (cal eS Tryz.prog 112 #[str (([0] : List UInt8)), .int .i64 ((IntKind.wrap .i64 ((64 : Int) - ((s0).length : Int))))] fun (y1_ : List UInt8) => (rq (((s0).length : Int) + ((y1_).length : Int) ≤ 9223372036854775807) (K [(2, str ((s0 ++ y1_)))]))) := by kernel_rfl
@[go_sem] theorem c81_o : c81.lo 1000000 = [2] := rfl
@[go_sem] theorem c81_e (t2 : List UInt8) (k : Value → W) : RTp c81 [(2, str t2)] k = (k (str t2)) := by kernel_rfl
theorem c81_ok : (c81.P.follows .mixedOrders && okc c81 c81.body) = true := by kernel_rfl
theorem c81_fn {e : Enc} {args : Array Value} {G : e.α → W} {L : List HP} {ρ : Env} (hρ : envA 0 args.toList = ρ) (hs : Nat.ble args.size 9 = true) (h : E L (D c81 (.seq (.reg 0) (.seq (.reg 1) (.ret))) (fnQ c81 e G) ρ)) : E L (cal e Tryz.prog 81 args G) :=
  d_fn (c := c81) Tryz.func81 (by kernel_rfl) (by kernel_rfl) (by kernel_rfl) c81_ok (by kernel_rfl) (by kernel_rfl) hρ hs h
/-! (*gharry.disk.Disk).act -/
noncomputable def c82 : Cfg := { P := Tryz.prog, n := 33, T := TT, body := (Tryz.f82.body).getD .skip, res := Tryz.f82.results.toList, li := lk [] [(0, [0]), (1, [0]), (2, [0]), (3, []), (4, [0]), (5, [0]), (6, [0]), (7, [])], lo := lk [] [(0, [0]), (1, [0, 7]), (2, []), (3, [2]), (4, [0, 18]), (5, [0]), (6, []), (7, [2]), (1000000, [2])], ord := lk (false, []) [] }
@[go_sem] theorem c82_i0 : c82.li 0 = [0] := rfl
@[go_sem] theorem c82_i1 : c82.li 1 = [0] := rfl
@[go_sem] theorem c82_i2 : c82.li 2 = [0] := rfl
@[go_sem] theorem c82_i3 : c82.li 3 = [] := rfl
@[go_sem] theorem c82_i4 : c82.li 4 = [0] := rfl
@[go_sem] theorem c82_i5 : c82.li 5 = [0] := rfl
@[go_sem] theorem c82_i6 : c82.li 6 = [0] := rfl
@[go_sem] theorem c82_i7 : c82.li 7 = [] := rfl
@[go_sem] theorem c82_r0 (d0 : Option Addr) (K : Env → W) : RP c82 0 [(0, .pointer d0)] K =
    (K [(0, .pointer d0)]) := by kernel_rfl
@[go_sem] theorem c82_r1 (d0 : Option Addr) (K : Env → W) : RP c82 1 [(0, .pointer d0)] K =
    (nn d0 fun y1_ => (ld eI ((y1_.add 3)) fun (y2_ : Int) => (K [(0, .pointer d0), (7, .bool ((y2_ == (0 : Int))))]))) := by kernel_rfl
@[go_sem] theorem c82_r2 (d0 : Option Addr) (K : Env → W) : RP c82 2 [(0, .pointer d0)] K =
    (nn d0 fun y1_ => (ld eU64 ((y1_.add 4)) fun (y2_ : Int) => (cal eN Tryz.prog 97 #[.pointer d0, .int .u64 y2_] fun (y3_ : Unit) => (K [])))) := by kernel_rfl
@[go_sem] theorem c82_r3 (K : Env → W) : RP c82 3 [] K =
    (K [(2, .int .i64 (9 : Int))]) := by kernel_rfl
@[go_sem] theorem c82_r4 (d0 : Option Addr) (K : Env → W) : RP c82 4 [(0, .pointer d0)] K =
    (nn d0 fun y1_ => (ld eI ((y1_.add 3)) fun (y2_ : Int) => (K [(0, .pointer d0), (18, .bool ((decide ((0 : Int) < y2_))))]))) := by kernel_rfl
@[go_sem] theorem c82_r5 (d0 : Option Addr) (K : Env → W) : RP c82 5 [(0, .pointer d0)] K =
    (nn d0 fun y1_ => (ld eI ((y1_.add 3)) fun (y2_ : Int) => (nn d0 fun y3_ => (st ((y3_.add 3)) (.int .i64 ((IntKind.wrap .i64 (y2_ - (1 : Int))))) (K [(0, .pointer d0)]))))) := by kernel_rfl
@[go_sem] theorem c82_r6 (d0 : Option Addr) (K : Env → W) : RP c82 6 [(0, .pointer d0)] K =
    (nn d0 fun y1_ => (ld eI ((y1_.add 5)) fun (y2_ : Int) => (nn d0 fun y3_ => (st ((y3_.add 5)) (.int .i64 ((IntKind.wrap .i64 (y2_ + (1 : Int))))) (K []))))) := by kernel_rfl
@[go_sem] theorem c82_r7 (K : Env → W) : RP c82 7 [] K =
    (K [(2, .int .i64 (0 : Int))]) := by kernel_rfl
@[go_sem] theorem c82_o : c82.lo 1000000 = [2] := rfl
@[go_sem] theorem c82_e (t2 : Int) (k : Value → W) : RTp c82 [(2, .int .i64 t2)] k = (k (.int .i64 t2)) := by kernel_rfl
theorem c82_ok : (c82.P.follows .mixedOrders && okc c82 c82.body) = true := by kernel_rfl
theorem c82_fn {e : Enc} {args : Array Value} {G : e.α → W} {L : List HP} {ρ : Env} (hρ : envA 0 args.toList = ρ) (hs : Nat.ble args.size 33 = true) (h : E L (D c82 (.seq (.reg 0) (.seq (.seq (.reg 1) (.cond (.tmp 7) (.seq (.reg 2) (.seq (.reg 3) (.ret))) (.skip))) (.seq (.seq (.reg 4) (.cond (.tmp 18) (.reg 5) (.skip))) (.seq (.reg 6) (.seq (.reg 7) (.ret)))))) (fnQ c82 e G) ρ)) : E L (cal e Tryz.prog 82 args G) :=
  d_fn (c := c82) Tryz.func82 (by kernel_rfl) (by kernel_rfl) (by kernel_rfl) c82_ok (by kernel_rfl) (by kernel_rfl) hρ hs h
/-! (*gharry.disk.Disk).none -/
noncomputable def c96 : Cfg := { P := Tryz.prog, n := 13, T := TT, body := (Tryz.f96.body).getD .skip, res := Tryz.f96.results.toList, li := lk [] [(0, [0]), (1, [0])], lo := lk [] [(0, [0]), (1, [2]), (1000000, [2])], ord := lk (false, []) [] }
@[go_sem] theorem c96_i0 : c96.li 0 = [0] := rfl
@[go_sem] theorem c96_i1 : c96.li 1 = [0] := rfl
@[go_sem] theorem c96_r0 (d0 : Option Addr) (K : Env → W) : RP c96 0 [(0, .pointer d0)] K =
    (K [(0, .pointer d0)]) := by kernel_rfl
@[go_sem] theorem c96_r1 (d0 : Option Addr) (K : Env → W) : RP c96 1 [(0, .pointer d0)] K =
    (cnd ((d0).isNone) (K [(2, .bool true)]) (nn d0 fun y1_ => (ld eSl y1_ fun (y2_ : (Option Addr × Nat × Nat)) => (K [(2, .bool (((y2_.2.1 : Int) == (0 : Int))))])))) := by kernel_rfl
@[go_sem] theorem c96_o : c96.lo 1000000 = [2] := rfl
@[go_sem] theorem c96_e (t2 : Bool) (k : Value → W) : RTp c96 [(2, .bool t2)] k = (k (.bool t2)) := by kernel_rfl
theorem c96_ok : (c96.P.follows .mixedOrders && okc c96 c96.body) = true := by kernel_rfl
theorem c96_fn {e : Enc} {args : Array Value} {G : e.α → W} {L : List HP} {ρ : Env} (hρ : envA 0 args.toList = ρ) (hs : Nat.ble args.size 13 = true) (h : E L (D c96 (.seq (.reg 0) (.seq (.reg 1) (.ret))) (fnQ c96 e G) ρ)) : E L (cal e Tryz.prog 96 args G) :=
  d_fn (c := c96) Tryz.func96 (by kernel_rfl) (by kernel_rfl) (by kernel_rfl) c96_ok (by kernel_rfl) (by kernel_rfl) hρ hs h
/-! (*gharry.disk.Disk).cut -/
noncomputable def c97 : Cfg := { P := Tryz.prog, n := 50, T := TT, body := (Tryz.f97.body).getD .skip, res := Tryz.f97.results.toList, li := lk [] [(0, [0, 1]), (1, [0, 1, 7, 8, 9]), (2, [0, 1, 7, 8, 9]), (3, [0, 1, 4, 5, 7, 8, 9]), (4, [0, 1, 5, 7, 8, 9]), (5, [0, 1, 7, 8, 9]), (6, [0]), (7, [0]), (8, [0])], lo := lk [] [(0, [0, 1, 7, 8, 9]), (1, [0, 1, 7, 8, 9, 10]), (2, [0, 1, 4, 5, 7, 8, 9]), (3, [0, 1, 5, 7, 8, 9, 19]), (4, [0, 1, 7, 8, 9]), (5, [0, 1, 7, 8, 9]), (6, [0]), (7, [0]), (8, []), (1000000, [])], ord := lk (false, []) [(4, (true, [(0, 1), (1, 1), (2, 1), (3, 0), (4, 1), (5, 1), (6, 1), (7, 1), (8, 0), (9, 1), (10, 0), (11, 1), (12, 4)]))] }
@[go_sem] theorem c97_i0 : c97.li 0 = [0, 1] := rfl
@[go_sem] theorem c97_i1 : c97.li 1 = [0, 1, 7, 8, 9] := rfl
@[go_sem] theorem c97_i2 : c97.li 2 = [0, 1, 7, 8, 9] := rfl
@[go_sem] theorem c97_i3 : c97.li 3 = [0, 1, 4, 5, 7, 8, 9] := rfl
@[go_sem] theorem c97_i4 : c97.li 4 = [0, 1, 5, 7, 8, 9] := rfl
@[go_sem] theorem c97_i5 : c97.li 5 = [0, 1, 7, 8, 9] := rfl
@[go_sem] theorem c97_i6 : c97.li 6 = [0] := rfl
@[go_sem] theorem c97_i7 : c97.li 7 = [0] := rfl
@[go_sem] theorem c97_i8 : c97.li 8 = [0] := rfl
@[go_sem] theorem c97_r0 (d0 : Option Addr) (keep1 : Int) (K : Env → W) : RP c97 0 [(0, .pointer d0), (1, .int .u64 keep1)] K =
    (cal eSl Tryz.prog 123 #[.pointer d0] fun (y1_ : (Option Addr × Nat × Nat)) => (K [(0, .pointer d0), (1, .int .u64 keep1), (7, .slice y1_.1 y1_.2.1 y1_.2.2), (8, .int .i64 ((y1_.2.1 : Int))), (9, .int .i64 (0 : Int))])) := by kernel_rfl
@[go_sem] theorem c97_r1 (d0 : Option Addr) (keep1 : Int) (t7p : Option Addr) (t7n t7c : Nat) (t8 : Int) (t9 : Int) (K : Env → W) : RP c97 1 [(0, .pointer d0), (1, .int .u64 keep1), (7, .slice t7p t7n t7c), (8, .int .i64 t8), (9, .int .i64 t9)] K =
    (K [(0, .pointer d0), (1, .int .u64 keep1), (7, .slice t7p t7n t7c), (8, .int .i64 t8), (9, .int .i64 t9), (10, .bool ((decide (t9 < t8))))]) := by kernel_rfl
@[go_sem] theorem c97_r2 (d0 : Option Addr) (keep1 : Int) (t7p : Option Addr) (t7n t7c : Nat) (t8 : Int) (t9 : Int) (K : Env → W) : RP c97 2 [(0, .pointer d0), (1, .int .u64 keep1), (7, .slice t7p t7n t7c), (8, .int .i64 t8), (9, .int .i64 t9)] K =
    (rq (0 ≤ t9 ∧ t9 < (t7n : Int)) (nn t7p fun y1_ => (ld eI ((Addr.add y1_ ((t9).toNat * 1))) fun (y2_ : Int) => (K [(0, .pointer d0), (1, .int .u64 keep1), (4, .int .i64 t9), (5, .int .i64 y2_), (7, .slice t7p t7n t7c), (8, .int .i64 t8), (9, .int .i64 t9)])))) := by kernel_rfl
@[go_sem] theorem c97_r3 (d0 : Option Addr) (keep1 : Int) (k4 : Int) (i5 : Int) (t7p : Option Addr) (t7n t7c : Nat) (t8 : Int) (t9 : Int) (K : Env → W) : RP c97 3 [(0, .pointer d0), (1, .int .u64 keep1), (4, .int .i64 k4), (5, .int .i64 i5), (7, .slice t7p t7n t7c), (8, .int .i64 t8), (9, .int .i64 t9)] K =
    (rq ((64 : Int) ≠ 0) (rq (0 ≤ ((k4).tmod (64 : Int))) (K [(0, .pointer d0), (1, .int .u64 keep1), (5, .int .i64 i5), (7, .slice t7p t7n t7c), (8, .int .i64 t8), (9, .int .i64 t9), (19, .bool (((bits .and .u64 (((keep1).fdiv (2 ^ (min (((k4).tmod (64 : Int))).toNat 64)))) (1 : Int)) == (1 : Int))))]))) := by kernel_rfl
@[go_sem] theorem c97_r4 (d0 : Option Addr) (keep1 : Int) (i5 : Int) (t7p : Option Addr) (t7n t7c : Nat) (t8 : Int) (t9 : Int) (K : Env → W) : RP c97 4 [(0, .pointer d0), (1, .int .u64 keep1), (5, .int .i64 i5), (7, .slice t7p t7n t7c), (8, .int .i64 t8), (9, .int .i64 t9)] K =
    (ph fun S0 => (nn d0 fun y1_ => (ldq S0 eSl y1_ fun (y2_ : (Option Addr × Nat × Nat)) => (nn d0 fun y3_ => (ldq S0 eM ((y3_.add 1)) fun (y4_ : Option Nat) => (valq S0 eS Tryz.prog (oLookup 106 (.map y4_) (.int .i64 i5) false) fun (y5_ : List UInt8) => (rq (0 ≤ i5 ∧ i5 < (y2_.2.1 : Int)) (nn y2_.1 fun y6_ => (st ((Addr.add y6_ ((i5).toNat * 1))) (str y5_) (K [(0, .pointer d0), (1, .int .u64 keep1), (7, .slice t7p t7n t7c), (8, .int .i64 t8), (9, .int .i64 t9)])))))))))) := by kernel_rfl
@[go_sem] theorem c97_r5 (d0 : Option Addr) (keep1 : Int) (t7p : Option Addr) (t7n t7c : Nat) (t8 : Int) (t9 : Int) (K : Env → W) : RP c97 5 [(0, .pointer d0), (1, .int .u64 keep1), (7, .slice t7p t7n t7c), (8, .int .i64 t8), (9, .int .i64 t9)] K =
    (K [(0, .pointer d0), (1, .int .u64 keep1), (7, .slice t7p t7n t7c), (8, .int .i64 t8), (9, .int .i64 ((IntKind.wrap .i64 (t9 + (1 : Int)))))]) := by kernel_rfl
@[go_sem] theorem c97_r6 (d0 : Option Addr) (K : Env → W) : RP c97 6 [(0, .pointer d0)] K =
    (nn d0 fun y1_ => (ld eM ((y1_.add 1)) fun (y2_ : Option Nat) => (val eN Tryz.prog (oB_clear #[106] 0 #[.map y2_]) fun (y3_ : Unit) => (K [(0, .pointer d0)])))) := by kernel_rfl
@[go_sem] theorem c97_r7 (d0 : Option Addr) (K : Env → W) : RP c97 7 [(0, .pointer d0)] K =
    (nn d0 fun y1_ => (st ((y1_.add 2)) (.bool false) (nn d0 fun y2_ => (st ((y2_.add 3)) (.int .i64 (-1 : Int)) (K [(0, .pointer d0)]))))) := by kernel_rfl
@[go_sem] theorem c97_r8 (d0 : Option Addr) (K : Env → W) : RP c97 8 [(0, .pointer d0)] K =
    (nn d0 fun y1_ => (ld eI ((y1_.add 6)) fun (y2_ : Int) => (nn d0 fun y3_ => (st ((y3_.add 6)) (.int .i64 ((IntKind.wrap .i64 (y2_ + (1 : Int))))) (K []))))) := by kernel_rfl
@[go_sem] theorem c97_o : c97.lo 1000000 = [] := rfl
@[go_sem] theorem c97_e (k : Value → W) : RTp c97 [] k = (k (.tuple #[])) := by kernel_rfl
theorem c97_ok : (c97.P.follows .mixedOrders && okc c97 c97.body) = true := by kernel_rfl
theorem c97_fn {e : Enc} {args : Array Value} {G : e.α → W} {L : List HP} {ρ : Env} (hρ : envA 0 args.toList = ρ) (hs : Nat.ble args.size 50 = true) (h : E L (D c97 (.seq (.seq (.reg 0) (.block 0 (.loop (.seq (.reg 1) (.seq (.cond (.tmp 10) (.skip) (.exit 0)) (.seq (.block 1 (.seq (.reg 2) (.seq (.reg 3) (.cond (.tmp 19) (.reg 4) (.skip))))) (.reg 5))))))) (.seq (.reg 6) (.seq (.reg 7) (.reg 8)))) (fnQ c97 e G) ρ)) : E L (cal e Tryz.prog 97 args G) :=
  d_fn (c := c97) Tryz.func97 (by kernel_rfl) (by kernel_rfl) (by kernel_rfl) c97_ok (by kernel_rfl) (by kernel_rfl) hρ hs h
-- loop (first region 1): live slots 0:d0 1:keep1 7:t7 8:t8 9:t9, of which it writes [9]
/-! (*gharry.disk.Disk).Size -/
noncomputable def c99 : Cfg := { P := Tryz.prog, n := 10, T := TT, body := (Tryz.f99.body).getD .skip, res := Tryz.f99.results.toList, li := lk [] [(0, [0]), (1, [0]), (2, []), (3, [0])], lo := lk [] [(0, [0]), (1, [0, 4]), (2, [2]), (3, [2]), (1000000, [2])], ord := lk (false, []) [] }
@[go_sem] theorem c99_i0 : c99.li 0 = [0] := rfl
@[go_sem] theorem c99_i1 : c99.li 1 = [0] := rfl
@[go_sem] theorem c99_i2 : c99.li 2 = [] := rfl
@[go_sem] theorem c99_i3 : c99.li 3 = [0] := rfl
@[go_sem] theorem c99_r0 (d0 : Option Addr) (K : Env → W) : RP c99 0 [(0, .pointer d0)] K =
    (K [(0, .pointer d0)]) := by kernel_rfl
@[go_sem] theorem c99_r1 (d0 : Option Addr) (K : Env → W) : RP c99 1 [(0, .pointer d0)] K =
    (cal eB Tryz.prog 96 #[.pointer d0] fun (y1_ : Bool) => (K [(0, .pointer d0), (4, .bool y1_)])) := by kernel_rfl
@[go_sem] theorem c99_r2 (K : Env → W) : RP c99 2 [] K =
    (K [(2, .int .i64 (0 : Int))]) := by kernel_rfl
@[go_sem] theorem c99_r3 (d0 : Option Addr) (K : Env → W) : RP c99 3 [(0, .pointer d0)] K =
    (nn d0 fun y1_ => (ld eSl y1_ fun (y2_ : (Option Addr × Nat × Nat)) => (K [(2, .int .i64 ((y2_.2.1 : Int)))]))) := by kernel_rfl
@[go_sem] theorem c99_o : c99.lo 1000000 = [2] := rfl
@[go_sem] theorem c99_e (t2 : Int) (k : Value → W) : RTp c99 [(2, .int .i64 t2)] k = (k (.int .i64 t2)) := by kernel_rfl
theorem c99_ok : (c99.P.follows .mixedOrders && okc c99 c99.body) = true := by kernel_rfl
theorem c99_fn {e : Enc} {args : Array Value} {G : e.α → W} {L : List HP} {ρ : Env} (hρ : envA 0 args.toList = ρ) (hs : Nat.ble args.size 10 = true) (h : E L (D c99 (.seq (.reg 0) (.seq (.seq (.reg 1) (.cond (.tmp 4) (.seq (.reg 2) (.ret)) (.skip))) (.seq (.reg 3) (.ret)))) (fnQ c99 e G) ρ)) : E L (cal e Tryz.prog 99 args G) :=
  d_fn (c := c99) Tryz.func99 (by kernel_rfl) (by kernel_rfl) (by kernel_rfl) c99_ok (by kernel_rfl) (by kernel_rfl) hρ hs h
/-! (*gharry.disk.Disk).Waiting -/
noncomputable def c123 : Cfg := { P := Tryz.prog, n := 23, T := TT, body := (Tryz.f123.body).getD .skip, res := Tryz.f123.results.toList, li := lk [] [(0, [0]), (1, [0]), (2, []), (3, [0]), (4, [0, 3]), (5, [3, 11]), (6, [3, 11]), (7, [3, 4, 11]), (8, [3]), (9, [3])], lo := lk [] [(0, [0]), (1, [0, 6]), (2, [2]), (3, [0, 3]), (4, [3, 11]), (5, [3, 11, 13]), (6, [3, 4, 11]), (7, [3, 11]), (8, [3]), (9, [2]), (1000000, [2])], ord := lk (false, []) [], de := [(11, eP), (12, (eT3 eB eI eS)), (14, (eT2 eI eS))] }
@[go_sem] theorem c123_i0 : c123.li 0 = [0] := rfl
@[go_sem] theorem c123_i1 : c123.li 1 = [0] := rfl
@[go_sem] theorem c123_i2 : c123.li 2 = [] := rfl
@[go_sem] theorem c123_i3 : c123.li 3 = [0] := rfl
@[go_sem] theorem c123_i4 : c123.li 4 = [0, 3] := rfl
@[go_sem] theorem c123_i5 : c123.li 5 = [3, 11] := rfl
@[go_sem] theorem c123_i6 : c123.li 6 = [3, 11] := rfl
@[go_sem] theorem c123_i7 : c123.li 7 = [3, 4, 11] := rfl
@[go_sem] theorem c123_i8 : c123.li 8 = [3] := rfl
@[go_sem] theorem c123_i9 : c123.li 9 = [3] := rfl
@[go_sem] theorem c123_r0 (d0 : Option Addr) (K : Env → W) : RP c123 0 [(0, .pointer d0)] K =
    (K [(0, .pointer d0)]) := by kernel_rfl
@[go_sem] theorem c123_r1 (d0 : Option Addr) (K : Env → W) : RP c123 1 [(0, .pointer d0)] K =
    (cal eB Tryz.prog 96 #[.pointer d0] fun (y1_ : Bool) => (K [(0, .pointer d0), (6, .bool y1_)])) := by kernel_rfl
@[go_sem] theorem c123_r2 (K : Env → W) : RP c123 2 [] K =
    (K [(2, .slice none 0 0)]) := by kernel_rfl
@[go_sem] theorem c123_r3 (d0 : Option Addr) (K : Env → W) : RP c123 3 [(0, .pointer d0)] K =
    (K [(0, .pointer d0), (3, .slice none 0 0)]) := by kernel_rfl
@[go_sem] theorem c123_r4 (d0 : Option Addr) (out3p : Option Addr) (out3n out3c : Nat) (K : Env → W) : RP c123 4 [(0, .pointer d0), (3, .slice out3p out3n out3c)] K =
    (nn d0 fun y1_ => (ld eM ((y1_.add 1)) fun (y2_ : Option Nat) => (val eP Tryz.prog (oRange 106 (.map y2_)) fun (y3_ : Option Addr) => (K [(3, .slice out3p out3n out3c), (11, .pointer y3_)])))) := by kernel_rfl
@[go_sem] theorem c123_r5 (out3p : Option Addr) (out3n out3c : Nat) (t11 : Option Addr) (K : Env → W) : RP c123 5 [(3, .slice out3p out3n out3c), (11, .pointer t11)] K =
    (nxt (eT3 eB eI eS) Tryz.prog (oNext (.pointer t11) false 0) (K [(3, .slice out3p out3n out3c), (11, .pointer t11), (13, .bool false)]) fun (y1_ : (Bool × Int × (List UInt8))) => (K [(3, .slice out3p out3n out3c), (11, .pointer t11), (13, .bool y1_.1)])) := by kernel_rfl
@[go_sem] theorem c123_r6 (out3p : Option Addr) (out3n out3c : Nat) (t11 : Option Addr) (K : Env → W) : RP c123 6 [(3, .slice out3p out3n out3c), (11, .pointer t11)] K =
    (val (eT2 eI eS) Tryz.prog (oEntry (.pointer t11)) fun (y1_ : (Int × (List UInt8))) => (K [(3, .slice out3p out3n out3c), (4, .int .i64 y1_.1), (11, .pointer t11)])) := by kernel_rfl
@[go_sem] theorem c123_r7 (out3p : Option Addr) (out3n out3c : Nat) (i4 : Int) (t11 : Option Addr) (K : Env → W) : RP c123 7 [(3, .slice out3p out3n out3c), (4, .int .i64 i4), (11, .pointer t11)] K =
    (nwc #[.int .i64 i4] 3 fun y1_ => (val eSl Tryz.prog (oB_append #[45, 45] 45 #[.slice out3p out3n out3c, .slice ((some y1_)) 1 1]) fun (y2_ : (Option Addr × Nat × Nat)) => (K [(3, .slice y2_.1 y2_.2.1 y2_.2.2), (11, .pointer t11)]))) := by kernel_rfl
@[go_sem] theorem c123_r8 (out3p : Option Addr) (out3n out3c : Nat) (K : Env → W) : RP c123 8 [(3, .slice out3p out3n out3c)] K =
    (cal eN Tryz.prog 136 #[.slice out3p out3n out3c] fun (y1_ : Unit) => (K [(3, .slice out3p out3n out3c)])) := by kernel_rfl
@[go_sem] theorem c123_r9 (out3p : Option Addr) (out3n out3c : Nat) (K : Env → W) : RP c123 9 [(3, .slice out3p out3n out3c)] K =
    (K [(2, .slice out3p out3n out3c)]) := by kernel_rfl
@[go_sem] theorem c123_o : c123.lo 1000000 = [2] := rfl
@[go_sem] theorem c123_e (t2p : Option Addr) (t2n t2c : Nat) (k : Value → W) : RTp c123 [(2, .slice t2p t2n t2c)] k = (k (.slice t2p t2n t2c)) := by kernel_rfl
theorem c123_ok : (c123.P.follows .mixedOrders && okc c123 c123.body) = true := by kernel_rfl
theorem c123_fn {e : Enc} {args : Array Value} {G : e.α → W} {L : List HP} {ρ : Env} (hρ : envA 0 args.toList = ρ) (hs : Nat.ble args.size 23 = true) (h : E L (D c123 (.seq (.reg 0) (.seq (.seq (.reg 1) (.cond (.tmp 6) (.seq (.reg 2) (.ret)) (.skip))) (.seq (.reg 3) (.seq (.seq (.reg 4) (.block 0 (.loop (.seq (.reg 5) (.seq (.cond (.tmp 13) (.skip) (.exit 0)) (.block 1 (.seq (.reg 6) (.reg 7)))))))) (.seq (.reg 8) (.seq (.reg 9) (.ret))))))) (fnQ c123 e G) ρ)) : E L (cal e Tryz.prog 123 args G) :=
  d_fn (c := c123) Tryz.func123 (by kernel_rfl) (by kernel_rfl) (by kernel_rfl) c123_ok (by kernel_rfl) (by kernel_rfl) hρ hs h
-- loop (first region 5): live slots 3:out3 11:t11, of which it writes [3]
end Go.Sp
/- The disk: what it is, and its small functions. -/
namespace Go.Sp
set_option linter.unusedSimpArgs false
set_option linter.unusedVariables false
set_option maxRecDepth 10000
open Go Go.Proofs
theorem f80 (t : TypeId) (s : SlV) (zs : List Int) (hl : zs.length < 4611686018427387904) :
    Fq eN Tryz.prog 136 #[.slice s.1 s.2.1 s.2.2] [ow t 1 s (zs.map fun n => .int .i64 n)] [ow t 1 s ((zs.mergeSort fun x y => decide (x ≤ y)).map fun n => .int .i64 n)] () :=
  fq_sort (fun b o c zs w h1 h2 h3 => Any.slices_Sort_int Tryz.lays189 b o c zs w h1 h2 h3) (fun p c w => Any.slices_Sort_int_none Tryz.lays189 p c w) t s zs hl
theorem f87 (s : List UInt8) (c : Nat) (h : s.length * c ≤ 140737488355328) (hc : c ≤ 9223372036854775807) : Fp eS Tryz.prog 112 #[str s, .int .i64 (c : Int)] [] (Lib.repeatL s c) :=
  fp_below fun w => Any.strings_Repeat Tryz.lays105 Tryz.builder ⟨s.toArray⟩ c w hc h
/-- A sector's bytes, with noughts behind. -/
def wh (s : List UInt8) : List UInt8 := s ++ List.replicate (64 - s.length) 0
theorem wh_len {s : List UInt8} (h : s.length ≤ 64) : (wh s).length = 64 := by simp [wh]; omega
theorem wh_full {s : List UInt8} (h : s.length = 64) : wh s = s := by simp [wh, h]
theorem rep_one (n : Nat) : Lib.repeatL [0] n = List.replicate n (0 : UInt8) := by
  induction n with
  | zero => rfl
  | succ n ih => rw [Lib.repeatL, ih]; rfl
theorem f69 (s : List UInt8) (h : s.length ≤ 64) : Fp eS Tryz.prog 81 #[str s] [] (wh s) := fun L => by
  refine c81_fn rfl rfl ?_
  repeat' (first | (with_reducible first | (refine d_seq ?_; intro K hK) | (refine hK _ _ ?_; clear hK K) | refine d_blk ?_ | refine d_rt0 ?_ | refine d_sk0 ?_ | refine d_ex0 ?_ | (refine r_nwc ?_; intro b)) | (first | ((with_reducible refine d_cnd ?_); refine And.intro ?_ ?_) | with_reducible refine r_cnd ?_ ?_) <;> intro hc <;> try simp only [push_cast, Int.reduceEq, Int.reduceLT, Int.reduceLE, Int.reduceNe] at hc | with_reducible refine r_rq (by first | decide | omega) ?_ | ((with_reducible first | apply i_lds | apply i_ldsq | apply i_ld | apply i_ldq); exact rfl) | ((with_reducible first | apply i_ldn | apply i_ldnq); exact rfl; exact rfl; exact rfl) | (with_reducible first | refine r_ph0 ?_ | apply i_kp0) | ((with_reducible first | apply i_st | apply i_stl); (focus simp); exact rfl) | ((try with_reducible refine d_reg ?_); simp only [go_sem, Nat.reduceAdd, Nat.reduceEqDiff, Int.reduceToNat, Nat.reduceMul, Nat.reduceSub]) | clear hK K)
  have e : IntKind.wrap .i64 ((64 : Int) - (s.length : Int)) = ((64 - s.length : Nat) : Int) := by rw [w64 (by omega) (by omega)]; omega
  rw [e]
  refine i_clp (f87 [0] (64 - s.length) (by simp; omega) (by omega)) ?_
  have hl : (Lib.repeatL [0] (64 - s.length)).length ≤ 64 := by rw [rep_one]; simp
  repeat' (first | (with_reducible first | (refine d_seq ?_; intro K hK) | (refine hK _ _ ?_; clear hK K) | refine d_blk ?_ | refine d_rt0 ?_ | refine d_sk0 ?_ | refine d_ex0 ?_ | (refine r_nwc ?_; intro b)) | (first | ((with_reducible refine d_cnd ?_); refine And.intro ?_ ?_) | with_reducible refine r_cnd ?_ ?_) <;> intro hc <;> try simp only [push_cast, Int.reduceEq, Int.reduceLT, Int.reduceLE, Int.reduceNe] at hc | with_reducible refine r_rq (by first | decide | omega) ?_ | ((with_reducible first | apply i_lds | apply i_ldsq | apply i_ld | apply i_ldq); exact rfl) | ((with_reducible first | apply i_ldn | apply i_ldnq); exact rfl; exact rfl; exact rfl) | (with_reducible first | refine r_ph0 ?_ | apply i_kp0) | ((with_reducible first | apply i_st | apply i_stl); (focus simp); exact rfl) | ((try with_reducible refine d_reg ?_); simp only [go_sem, Nat.reduceAdd, Nat.reduceEqDiff, Int.reduceToNat, Nat.reduceMul, Nat.reduceSub]) | clear hK K)
  (with_reducible first | apply i_ret0 | apply i_ret2 | apply i_ret3 | apply i_ret); exact rfl
  rw [rep_one]; rfl
end Go.Sp
/- The disk: its parts in memory, what it is asked. -/
namespace Go.Sp
open Go Go.Proofs
set_option linter.unusedSimpArgs false
set_option linter.unusedVariables false
set_option maxRecDepth 10000
structure Dk where
  sb : Nat
  bb : Nat
  mb : Nat
  sure : List (List UInt8)
  es : Ents eI eS
  c : Nat
  up : Bool
  fuse : Int
  keep : Int
  acts : Int
  downs : Int
abbrev Dk.hd (D : Dk) : List Value := [.slice (some ⟨D.bb, 0, none⟩) D.sure.length D.sure.length, .map (some D.mb), .bool D.up, .int .i64 D.fuse, .int .u64 D.keep, .int .i64 D.acts, .int .i64 D.downs]
abbrev dkl (D : Dk) : List HP := [ar D.sb 108 D.hd, ar D.bb 9 (D.sure.map fun s => str s), mp eI eS D.mb D.es D.c]
def Dk.p (D : Dk) : Value := .pointer (some ⟨D.sb, 0, none⟩)
structure Dk.ok (D : Dk) : Prop where
  n0 : 0 < D.sure.length
  n1 : D.sure.length ≤ 8192
  l64 : ∀ s ∈ D.sure, s.length ≤ 64
  e64 : ∀ x ∈ D.es, x.2.1.length = 64
  ei : ∀ x ∈ D.es, 0 ≤ x.1 ∧ x.1 < (D.sure.length : Int)
  ec : ∀ x ∈ D.es, x.2.2 < D.c
  kn : (D.es.map (·.1)).Nodup
  bn : (D.es.map (·.2.2)).Nodup
  fu : -1 ≤ D.fuse ∧ D.fuse ≤ 9223372036854775807
  kp : 0 ≤ D.keep ∧ D.keep ≤ 18446744073709551615
def Dk.chk (D : Dk) (i : Int) : Int := if D.up = false then 9 else if i < 0 ∨ (D.sure.length : Int) ≤ i then 6 else 0
def Dk.get (D : Dk) (i : Int) : List UInt8 := (gk D.es i).getD (wh (D.sure.getD i.toNat []))

theorem f66 (D : Dk) (h : D.ok) : Fp eB Tryz.prog 96 #[D.p] (dkl D) false := fun L => by
  refine c96_fn rfl rfl ?_
  have := h.n0
  simp only [dkl, Dk.hd, Dk.p]
  repeat' (first | (with_reducible first | (refine d_seq ?_; intro K hK) | (refine hK _ _ ?_; clear hK K) | refine d_blk ?_ | refine d_rt0 ?_ | refine d_sk0 ?_ | refine d_ex0 ?_ | (refine r_nwc ?_; intro b)) | (first | ((with_reducible refine d_cnd ?_); refine And.intro ?_ ?_) | with_reducible refine r_cnd ?_ ?_) <;> intro hc <;> try simp only [push_cast, Int.reduceEq, Int.reduceLT, Int.reduceLE, Int.reduceNe] at hc | with_reducible refine r_rq (by first | decide | omega) ?_ | ((with_reducible first | apply i_lds | apply i_ldsq | apply i_ld | apply i_ldq); exact rfl) | ((with_reducible first | apply i_ldn | apply i_ldnq); exact rfl; exact rfl; exact rfl) | (with_reducible first | refine r_ph0 ?_ | apply i_kp0) | ((with_reducible first | apply i_st | apply i_stl); (focus simp); exact rfl) | ((try with_reducible refine d_reg ?_); simp only [go_sem, Nat.reduceAdd, Nat.reduceEqDiff, Int.reduceToNat, Nat.reduceMul, Nat.reduceSub]) | clear hK K)
  (with_reducible first | apply i_ret0 | apply i_ret2 | apply i_ret3 | apply i_ret); exact rfl
  rw [beq_eq_false_iff_ne]; omega
theorem f67 (D : Dk) (h : D.ok) (i : Int) : Fp eI Tryz.prog 80 #[D.p, .int .i64 i] (dkl D) (D.chk i) := fun L => by
  refine c80_fn rfl rfl ?_
  simp only [Dk.p]
  repeat' ((fail_if_success with_reducible refine nph ?_); first | (with_reducible first | (refine d_seq ?_; intro K hK) | (refine hK _ _ ?_; clear hK K) | refine d_blk ?_ | refine d_rt0 ?_ | refine d_sk0 ?_ | refine d_ex0 ?_ | (refine r_nwc ?_; intro b)) | (first | ((with_reducible refine d_cnd ?_); refine And.intro ?_ ?_) | with_reducible refine r_cnd ?_ ?_) <;> intro hc <;> try simp only [push_cast, Int.reduceEq, Int.reduceLT, Int.reduceLE, Int.reduceNe] at hc | with_reducible refine r_rq (by first | decide | omega) ?_ | ((with_reducible first | apply i_lds | apply i_ldsq | apply i_ld | apply i_ldq); exact rfl) | ((with_reducible first | apply i_ldn | apply i_ldnq); exact rfl; exact rfl; exact rfl) | (with_reducible first | refine r_ph0 ?_ | apply i_kp0) | ((with_reducible first | apply i_st | apply i_stl); (focus simp); exact rfl) | ((try with_reducible refine d_reg ?_); simp only [go_sem, Nat.reduceAdd, Nat.reduceEqDiff, Int.reduceToNat, Nat.reduceMul, Nat.reduceSub]) | clear hK K)
  refine i_clp (f66 D h) ?_
  simp only [dkl, Dk.hd]
  repeat' (first | (with_reducible first | (refine d_seq ?_; intro K hK) | (refine hK _ _ ?_; clear hK K) | refine d_blk ?_ | refine d_rt0 ?_ | refine d_sk0 ?_ | refine d_ex0 ?_ | (refine r_nwc ?_; intro b)) | (first | ((with_reducible refine d_cnd ?_); refine And.intro ?_ ?_) | with_reducible refine r_cnd ?_ ?_) <;> intro hc <;> try simp only [push_cast, Int.reduceEq, Int.reduceLT, Int.reduceLE, Int.reduceNe] at hc | with_reducible refine r_rq (by first | decide | omega) ?_ | ((with_reducible first | apply i_lds | apply i_ldsq | apply i_ld | apply i_ldq); exact rfl) | ((with_reducible first | apply i_ldn | apply i_ldnq); exact rfl; exact rfl; exact rfl) | (with_reducible first | refine r_ph0 ?_ | apply i_kp0) | ((with_reducible first | apply i_st | apply i_stl); (focus simp); exact rfl) | ((try with_reducible refine d_reg ?_); simp only [go_sem, Nat.reduceAdd, Nat.reduceEqDiff, Int.reduceToNat, Nat.reduceMul, Nat.reduceSub]) | clear hK K)
  all_goals ((with_reducible first | apply i_ret0 | apply i_ret2 | apply i_ret3 | apply i_ret); exact rfl; simp [Dk.chk, *]; try omega)
theorem Dk.chk_ok {D : Dk} {i : Int} (h : D.chk i = 0) : D.up = true ∧ 0 ≤ i ∧ i < D.sure.length := by
  unfold Dk.chk at h
  split at h
  · cases h
  · split at h
    · cases h
    · rename_i h1 h2
      refine ⟨by simpa using h1, by omega, by omega⟩
theorem f31 (D : Dk) (h : D.ok) (i : Int) : Fp (eT2 eS eI) Tryz.prog 22 #[D.p, .int .i64 i] (dkl D) (if D.chk i = 0 then D.get i else [], D.chk i) := fun L => by
  refine c22_fn rfl rfl ?_
  simp only [Dk.p]
  repeat' ((fail_if_success with_reducible refine nph ?_); first | (with_reducible first | (refine d_seq ?_; intro K hK) | (refine hK _ _ ?_; clear hK K) | refine d_blk ?_ | refine d_rt0 ?_ | refine d_sk0 ?_ | refine d_ex0 ?_ | (refine r_nwc ?_; intro b)) | (first | ((with_reducible refine d_cnd ?_); refine And.intro ?_ ?_) | with_reducible refine r_cnd ?_ ?_) <;> intro hc <;> try simp only [push_cast, Int.reduceEq, Int.reduceLT, Int.reduceLE, Int.reduceNe] at hc | with_reducible refine r_rq (by first | decide | omega) ?_ | ((with_reducible first | apply i_lds | apply i_ldsq | apply i_ld | apply i_ldq); exact rfl) | ((with_reducible first | apply i_ldn | apply i_ldnq); exact rfl; exact rfl; exact rfl) | (with_reducible first | refine r_ph0 ?_ | apply i_kp0) | ((with_reducible first | apply i_st | apply i_stl); (focus simp); exact rfl) | ((try with_reducible refine d_reg ?_); simp only [go_sem, Nat.reduceAdd, Nat.reduceEqDiff, Int.reduceToNat, Nat.reduceMul, Nat.reduceSub]) | clear hK K)
  refine i_clp (f67 D h i) ?_
  simp only [dkl, Dk.hd]
  repeat' (first | (with_reducible first | (refine d_seq ?_; intro K hK) | (refine hK _ _ ?_; clear hK K) | refine d_blk ?_ | refine d_rt0 ?_ | refine d_sk0 ?_ | refine d_ex0 ?_ | (refine r_nwc ?_; intro b)) | (first | ((with_reducible refine d_cnd ?_); refine And.intro ?_ ?_) | with_reducible refine r_cnd ?_ ?_) <;> intro hc <;> try simp only [push_cast, Int.reduceEq, Int.reduceLT, Int.reduceLE, Int.reduceNe] at hc | with_reducible refine r_rq (by first | decide | omega) ?_ | ((with_reducible first | apply i_lds | apply i_ldsq | apply i_ld | apply i_ldq); exact rfl) | ((with_reducible first | apply i_ldn | apply i_ldnq); exact rfl; exact rfl; exact rfl) | (with_reducible first | refine r_ph0 ?_ | apply i_kp0) | ((with_reducible first | apply i_st | apply i_stl); (focus simp); exact rfl) | ((try with_reducible refine d_reg ?_); simp only [go_sem, Nat.reduceAdd, Nat.reduceEqDiff, Int.reduceToNat, Nat.reduceMul, Nat.reduceSub]) | clear hK K)
  · (with_reducible first | apply i_ret0 | apply i_ret2 | apply i_ret3 | apply i_ret); exact rfl
    simp [*]
  · have hk := Dk.chk_ok hc
    have hn : i.toNat < D.sure.length := by omega
    refine i_lk2 (ε := eS) [] (by kernel_rfl) ?_
    repeat' (first | (with_reducible first | (refine d_seq ?_; intro K hK) | (refine hK _ _ ?_; clear hK K) | refine d_blk ?_ | refine d_rt0 ?_ | refine d_sk0 ?_ | refine d_ex0 ?_ | (refine r_nwc ?_; intro b)) | (first | ((with_reducible refine d_cnd ?_); refine And.intro ?_ ?_) | with_reducible refine r_cnd ?_ ?_) <;> intro hc <;> try simp only [push_cast, Int.reduceEq, Int.reduceLT, Int.reduceLE, Int.reduceNe] at hc | with_reducible refine r_rq (by first | decide | omega) ?_ | ((with_reducible first | apply i_lds | apply i_ldsq | apply i_ld | apply i_ldq); exact rfl) | ((with_reducible first | apply i_ldn | apply i_ldnq); exact rfl; exact rfl; exact rfl) | (with_reducible first | refine r_ph0 ?_ | apply i_kp0) | ((with_reducible first | apply i_st | apply i_stl); (focus simp); exact rfl) | ((try with_reducible refine d_reg ?_); simp only [go_sem, Nat.reduceAdd, Nat.reduceEqDiff, Int.reduceToNat, Nat.reduceMul, Nat.reduceSub]) | clear hK K)
    · (with_reducible first | apply i_ret0 | apply i_ret2 | apply i_ret3 | apply i_ret); exact rfl
      simp only [hc, if_true, Dk.get]
      cases hg : gk D.es i <;> simp_all
    · have hl : (D.sure.map fun s => str s)[i.toNat]? = some (str (D.sure.getD i.toNat [])) := by simp [hn]
      refine i_ld (e := eS) (by simpa using hl) ?_
      refine i_clp (f69 _ (h.l64 _ (by simp [hn]))) ?_
      repeat' (first | (with_reducible first | (refine d_seq ?_; intro K hK) | (refine hK _ _ ?_; clear hK K) | refine d_blk ?_ | refine d_rt0 ?_ | refine d_sk0 ?_ | refine d_ex0 ?_ | (refine r_nwc ?_; intro b)) | (first | ((with_reducible refine d_cnd ?_); refine And.intro ?_ ?_) | with_reducible refine r_cnd ?_ ?_) <;> intro hc <;> try simp only [push_cast, Int.reduceEq, Int.reduceLT, Int.reduceLE, Int.reduceNe] at hc | with_reducible refine r_rq (by first | decide | omega) ?_ | ((with_reducible first | apply i_lds | apply i_ldsq | apply i_ld | apply i_ldq); exact rfl) | ((with_reducible first | apply i_ldn | apply i_ldnq); exact rfl; exact rfl; exact rfl) | (with_reducible first | refine r_ph0 ?_ | apply i_kp0) | ((with_reducible first | apply i_st | apply i_stl); (focus simp); exact rfl) | ((try with_reducible refine d_reg ?_); simp only [go_sem, Nat.reduceAdd, Nat.reduceEqDiff, Int.reduceToNat, Nat.reduceMul, Nat.reduceSub]) | clear hK K)
      (with_reducible first | apply i_ret0 | apply i_ret2 | apply i_ret3 | apply i_ret); exact rfl
      simp only [hc, if_true, Dk.get]
      cases hg : gk D.es i <;> simp_all
theorem f37 (D : Dk) (h : D.ok) : Fp eB Tryz.prog 61 #[D.p] (dkl D) D.up := fun L => by
  refine c61_fn rfl rfl ?_
  simp only [Dk.p]
  repeat' ((fail_if_success with_reducible refine nph ?_); first | (with_reducible first | (refine d_seq ?_; intro K hK) | (refine hK _ _ ?_; clear hK K) | refine d_blk ?_ | refine d_rt0 ?_ | refine d_sk0 ?_ | refine d_ex0 ?_ | (refine r_nwc ?_; intro b)) | (first | ((with_reducible refine d_cnd ?_); refine And.intro ?_ ?_) | with_reducible refine r_cnd ?_ ?_) <;> intro hc <;> try simp only [push_cast, Int.reduceEq, Int.reduceLT, Int.reduceLE, Int.reduceNe] at hc | with_reducible refine r_rq (by first | decide | omega) ?_ | ((with_reducible first | apply i_lds | apply i_ldsq | apply i_ld | apply i_ldq); exact rfl) | ((with_reducible first | apply i_ldn | apply i_ldnq); exact rfl; exact rfl; exact rfl) | (with_reducible first | refine r_ph0 ?_ | apply i_kp0) | ((with_reducible first | apply i_st | apply i_stl); (focus simp); exact rfl) | ((try with_reducible refine d_reg ?_); simp only [go_sem, Nat.reduceAdd, Nat.reduceEqDiff, Int.reduceToNat, Nat.reduceMul, Nat.reduceSub]) | clear hK K)
  refine i_clp (f66 D h) ?_
  simp only [dkl, Dk.hd]
  repeat' (first | (with_reducible first | (refine d_seq ?_; intro K hK) | (refine hK _ _ ?_; clear hK K) | refine d_blk ?_ | refine d_rt0 ?_ | refine d_sk0 ?_ | refine d_ex0 ?_ | (refine r_nwc ?_; intro b)) | (first | ((with_reducible refine d_cnd ?_); refine And.intro ?_ ?_) | with_reducible refine r_cnd ?_ ?_) <;> intro hc <;> try simp only [push_cast, Int.reduceEq, Int.reduceLT, Int.reduceLE, Int.reduceNe] at hc | with_reducible refine r_rq (by first | decide | omega) ?_ | ((with_reducible first | apply i_lds | apply i_ldsq | apply i_ld | apply i_ldq); exact rfl) | ((with_reducible first | apply i_ldn | apply i_ldnq); exact rfl; exact rfl; exact rfl) | (with_reducible first | refine r_ph0 ?_ | apply i_kp0) | ((with_reducible first | apply i_st | apply i_stl); (focus simp); exact rfl) | ((try with_reducible refine d_reg ?_); simp only [go_sem, Nat.reduceAdd, Nat.reduceEqDiff, Int.reduceToNat, Nat.reduceMul, Nat.reduceSub]) | clear hK K)
  (with_reducible first | apply i_ret0 | apply i_ret2 | apply i_ret3 | apply i_ret); exact rfl
  rfl
theorem f26 (D : Dk) (h : D.ok) : Fp eI Tryz.prog 99 #[D.p] (dkl D) (D.sure.length : Int) := fun L => by
  refine c99_fn rfl rfl ?_
  simp only [Dk.p]
  repeat' ((fail_if_success with_reducible refine nph ?_); first | (with_reducible first | (refine d_seq ?_; intro K hK) | (refine hK _ _ ?_; clear hK K) | refine d_blk ?_ | refine d_rt0 ?_ | refine d_sk0 ?_ | refine d_ex0 ?_ | (refine r_nwc ?_; intro b)) | (first | ((with_reducible refine d_cnd ?_); refine And.intro ?_ ?_) | with_reducible refine r_cnd ?_ ?_) <;> intro hc <;> try simp only [push_cast, Int.reduceEq, Int.reduceLT, Int.reduceLE, Int.reduceNe] at hc | with_reducible refine r_rq (by first | decide | omega) ?_ | ((with_reducible first | apply i_lds | apply i_ldsq | apply i_ld | apply i_ldq); exact rfl) | ((with_reducible first | apply i_ldn | apply i_ldnq); exact rfl; exact rfl; exact rfl) | (with_reducible first | refine r_ph0 ?_ | apply i_kp0) | ((with_reducible first | apply i_st | apply i_stl); (focus simp); exact rfl) | ((try with_reducible refine d_reg ?_); simp only [go_sem, Nat.reduceAdd, Nat.reduceEqDiff, Int.reduceToNat, Nat.reduceMul, Nat.reduceSub]) | clear hK K)
  refine i_clp (f66 D h) ?_
  simp only [dkl, Dk.hd]
  repeat' (first | (with_reducible first | (refine d_seq ?_; intro K hK) | (refine hK _ _ ?_; clear hK K) | refine d_blk ?_ | refine d_rt0 ?_ | refine d_sk0 ?_ | refine d_ex0 ?_ | (refine r_nwc ?_; intro b)) | (first | ((with_reducible refine d_cnd ?_); refine And.intro ?_ ?_) | with_reducible refine r_cnd ?_ ?_) <;> intro hc <;> try simp only [push_cast, Int.reduceEq, Int.reduceLT, Int.reduceLE, Int.reduceNe] at hc | with_reducible refine r_rq (by first | decide | omega) ?_ | ((with_reducible first | apply i_lds | apply i_ldsq | apply i_ld | apply i_ldq); exact rfl) | ((with_reducible first | apply i_ldn | apply i_ldnq); exact rfl; exact rfl; exact rfl) | (with_reducible first | refine r_ph0 ?_ | apply i_kp0) | ((with_reducible first | apply i_st | apply i_stl); (focus simp); exact rfl) | ((try with_reducible refine d_reg ?_); simp only [go_sem, Nat.reduceAdd, Nat.reduceEqDiff, Int.reduceToNat, Nat.reduceMul, Nat.reduceSub]) | clear hK K)
  (with_reducible first | apply i_ret0 | apply i_ret2 | apply i_ret3 | apply i_ret); exact rfl
  rfl
theorem f30 (D : Dk) (h : D.ok) : Fq eI Tryz.prog 64 #[D.p] (dkl D) (dkl { D with up := true }) (if D.up then 19 else 0) := fun L => by
  refine c64_fn rfl rfl ?_
  simp only [Dk.p]
  repeat' ((fail_if_success with_reducible refine nph ?_); first | (with_reducible first | (refine d_seq ?_; intro K hK) | (refine hK _ _ ?_; clear hK K) | refine d_blk ?_ | refine d_rt0 ?_ | refine d_sk0 ?_ | refine d_ex0 ?_ | (refine r_nwc ?_; intro b)) | (first | ((with_reducible refine d_cnd ?_); refine And.intro ?_ ?_) | with_reducible refine r_cnd ?_ ?_) <;> intro hc <;> try simp only [push_cast, Int.reduceEq, Int.reduceLT, Int.reduceLE, Int.reduceNe] at hc | with_reducible refine r_rq (by first | decide | omega) ?_ | ((with_reducible first | apply i_lds | apply i_ldsq | apply i_ld | apply i_ldq); exact rfl) | ((with_reducible first | apply i_ldn | apply i_ldnq); exact rfl; exact rfl; exact rfl) | (with_reducible first | refine r_ph0 ?_ | apply i_kp0) | ((with_reducible first | apply i_st | apply i_stl); (focus simp); exact rfl) | ((try with_reducible refine d_reg ?_); simp only [go_sem, Nat.reduceAdd, Nat.reduceEqDiff, Int.reduceToNat, Nat.reduceMul, Nat.reduceSub]) | clear hK K)
  refine i_clp (f66 D h) ?_
  cases hu : D.up
  all_goals (simp only [dkl, Dk.hd, hu]; repeat' (first | (with_reducible first | (refine d_seq ?_; intro K hK) | (refine hK _ _ ?_; clear hK K) | refine d_blk ?_ | refine d_rt0 ?_ | refine d_sk0 ?_ | refine d_ex0 ?_ | (refine r_nwc ?_; intro b)) | (first | ((with_reducible refine d_cnd ?_); refine And.intro ?_ ?_) | with_reducible refine r_cnd ?_ ?_) <;> intro hc <;> try simp only [push_cast, Int.reduceEq, Int.reduceLT, Int.reduceLE, Int.reduceNe] at hc | with_reducible refine r_rq (by first | decide | omega) ?_ | ((with_reducible first | apply i_lds | apply i_ldsq | apply i_ld | apply i_ldq); exact rfl) | ((with_reducible first | apply i_ldn | apply i_ldnq); exact rfl; exact rfl; exact rfl) | (with_reducible first | refine r_ph0 ?_ | apply i_kp0) | ((with_reducible first | apply i_st | apply i_stl); (focus simp); exact rfl) | ((try with_reducible refine d_reg ?_); simp only [go_sem, Nat.reduceAdd, Nat.reduceEqDiff, Int.reduceToNat, Nat.reduceMul, Nat.reduceSub]) | clear hK K))
  all_goals ((with_reducible first | apply i_ret0 | apply i_ret2 | apply i_ret3 | apply i_ret); exact rfl; simp [hu])
end Go.Sp
/- The disk: how it is made; what waits. -/
namespace Go.Sp
open Go Go.Proofs
set_option linter.unusedSimpArgs false
set_option linter.unusedVariables false
set_option maxRecDepth 10000
def Dk.new (sb bb mb n : Nat) : Dk := ⟨sb, bb, mb, List.replicate n [], [], 0, true, -1, 0, 0, 0⟩
theorem Dk.new_ok {sb bb mb n : Nat} (h0 : 0 < n) (h1 : n ≤ 8192) : (Dk.new sb bb mb n).ok := by
  constructor <;> simp_all [Dk.new]
theorem f25 (n : Nat) (h0 : 0 < n) (h1 : n ≤ 8192) : Fn (eT2 eP eI) Tryz.prog 16 #[.int .i64 (n : Int)] [] fun y X => ∃ sb bb mb, y = (some ⟨sb, 0, none⟩, 0) ∧ X = dkl (Dk.new sb bb mb n) := fun L => by
  refine c16_fn rfl rfl ?_
  repeat' (first | (with_reducible first | (refine d_seq ?_; intro K hK) | (refine hK _ _ ?_; clear hK K) | refine d_blk ?_ | refine d_rt0 ?_ | refine d_sk0 ?_ | refine d_ex0 ?_ | (refine r_nwc ?_; intro b)) | (first | ((with_reducible refine d_cnd ?_); refine And.intro ?_ ?_) | with_reducible refine r_cnd ?_ ?_) <;> intro hc <;> try simp only [push_cast, Int.reduceEq, Int.reduceLT, Int.reduceLE, Int.reduceNe] at hc | with_reducible refine r_rq (by first | decide | omega) ?_ | ((with_reducible first | apply i_lds | apply i_ldsq | apply i_ld | apply i_ldq); exact rfl) | ((with_reducible first | apply i_ldn | apply i_ldnq); exact rfl; exact rfl; exact rfl) | (with_reducible first | refine r_ph0 ?_ | apply i_kp0) | ((with_reducible first | apply i_st | apply i_stl); (focus simp); exact rfl) | ((try with_reducible refine d_reg ?_); simp only [go_sem, Nat.reduceAdd, Nat.reduceEqDiff, Int.reduceToNat, Nat.reduceMul, Nat.reduceSub]) | clear hK K)
  all_goals try (exfalso; omega)
  refine r_mk (el := 9) n (str []) (by kernel_rfl) rfl (by omega) fun bb => ?_
  refine r_nwm eI eS fun mb => ?_
  refine r_nwc fun sb => ?_
  repeat' (first | (with_reducible first | (refine d_seq ?_; intro K hK) | (refine hK _ _ ?_; clear hK K) | refine d_blk ?_ | refine d_rt0 ?_ | refine d_sk0 ?_ | refine d_ex0 ?_ | (refine r_nwc ?_; intro b)) | (first | ((with_reducible refine d_cnd ?_); refine And.intro ?_ ?_) | with_reducible refine r_cnd ?_ ?_) <;> intro hc <;> try simp only [push_cast, Int.reduceEq, Int.reduceLT, Int.reduceLE, Int.reduceNe] at hc | with_reducible refine r_rq (by first | decide | omega) ?_ | ((with_reducible first | apply i_lds | apply i_ldsq | apply i_ld | apply i_ldq); exact rfl) | ((with_reducible first | apply i_ldn | apply i_ldnq); exact rfl; exact rfl; exact rfl) | (with_reducible first | refine r_ph0 ?_ | apply i_kp0) | ((with_reducible first | apply i_st | apply i_stl); (focus simp); exact rfl) | ((try with_reducible refine d_reg ?_); simp only [go_sem, Nat.reduceAdd, Nat.reduceEqDiff, Int.reduceToNat, Nat.reduceMul, Nat.reduceSub]) | clear hK K)
  refine r_done (x := (some ⟨sb, 0, none⟩, 0)) (dkl (Dk.new sb bb mb n)) rfl ⟨sb, bb, mb, rfl, rfl⟩ ?_
  have hl : (List.replicate n ([] : List UInt8)).map (fun s => str s) = List.replicate n (str []) := by simp
  simp only [dkl, Dk.hd, Dk.new, hl, List.length_replicate]
  exact SX.p
/-- The sectors that wait, rising. -/
def Dk.keys (D : Dk) : List Int := (D.es.map (·.1)).mergeSort fun x y => decide (x ≤ y)
theorem sort_perm {l l' : List Int} (h : l.Perm l') : l.mergeSort (fun x y => decide (x ≤ y)) = l'.mergeSort (fun x y => decide (x ≤ y)) := by
  have tr : ∀ a b c : Int, decide (a ≤ b) = true → decide (b ≤ c) = true → decide (a ≤ c) = true := by intro a b c h1 h2; simp at *; omega
  have tt : ∀ a b : Int, (decide (a ≤ b) || decide (b ≤ a)) = true := by intro a b; simp; omega
  refine List.Perm.eq_of_pairwise (le := fun a b => decide (a ≤ b) = true) ?_ (List.pairwise_mergeSort tr tt l) (List.pairwise_mergeSort tr tt l') (((List.mergeSort_perm _ _).trans h).trans (List.mergeSort_perm _ _).symm)
  intro a b _ _ h1 h2
  simp at h1 h2
  omega
theorem f43 (D : Dk) (h : D.ok) (hlen : D.es.length ≤ 8192) : Fn eSl Tryz.prog 123 #[D.p] (dkl D) fun y X => X = ow 3 1 y (D.keys.map fun n => .int .i64 n) :: dkl D ∧ y.2.1 = D.keys.length := fun L => by
  refine c123_fn rfl rfl ?_
  simp only [Dk.p]
  repeat' ((fail_if_success with_reducible refine nph ?_); first | (with_reducible first | (refine d_seq ?_; intro K hK) | (refine hK _ _ ?_; clear hK K) | refine d_blk ?_ | refine d_rt0 ?_ | refine d_sk0 ?_ | refine d_ex0 ?_ | (refine r_nwc ?_; intro b)) | (first | ((with_reducible refine d_cnd ?_); refine And.intro ?_ ?_) | with_reducible refine r_cnd ?_ ?_) <;> intro hc <;> try simp only [push_cast, Int.reduceEq, Int.reduceLT, Int.reduceLE, Int.reduceNe] at hc | with_reducible refine r_rq (by first | decide | omega) ?_ | ((with_reducible first | apply i_lds | apply i_ldsq | apply i_ld | apply i_ldq); exact rfl) | ((with_reducible first | apply i_ldn | apply i_ldnq); exact rfl; exact rfl; exact rfl) | (with_reducible first | refine r_ph0 ?_ | apply i_kp0) | ((with_reducible first | apply i_st | apply i_stl); (focus simp); exact rfl) | ((try with_reducible refine d_reg ?_); simp only [go_sem, Nat.reduceAdd, Nat.reduceEqDiff, Int.reduceToNat, Nat.reduceMul, Nat.reduceSub]) | clear hK K)
  refine i_clp (f66 D h) ?_
  simp only [dkl, Dk.hd]
  repeat' (first | (with_reducible first | (refine d_seq ?_; intro K hK) | (refine hK _ _ ?_; clear hK K) | refine d_blk ?_ | refine d_rt0 ?_ | refine d_sk0 ?_ | refine d_ex0 ?_ | (refine r_nwc ?_; intro b)) | (first | ((with_reducible refine d_cnd ?_); refine And.intro ?_ ?_) | with_reducible refine r_cnd ?_ ?_) <;> intro hc <;> try simp only [push_cast, Int.reduceEq, Int.reduceLT, Int.reduceLE, Int.reduceNe] at hc | with_reducible refine r_rq (by first | decide | omega) ?_ | ((with_reducible first | apply i_lds | apply i_ldsq | apply i_ld | apply i_ldq); exact rfl) | ((with_reducible first | apply i_ldn | apply i_ldnq); exact rfl; exact rfl; exact rfl) | (with_reducible first | refine r_ph0 ?_ | apply i_kp0) | ((with_reducible first | apply i_st | apply i_stl); (focus simp); exact rfl) | ((try with_reducible refine d_reg ?_); simp only [go_sem, Nat.reduceAdd, Nat.reduceEqDiff, Int.reduceToNat, Nat.reduceMul, Nat.reduceSub]) | clear hK K)
  refine i_mrng (κ := eI) (ε := eS) (a := 3) (b := 9) (by kernel_rfl) fun it => ?_
  refine r_nilow 3 1 ?_
  repeat' (first | (with_reducible first | (refine d_seq ?_; intro K hK) | (refine hK _ _ ?_; clear hK K) | refine d_blk ?_ | refine d_rt0 ?_ | refine d_sk0 ?_ | refine d_ex0 ?_ | (refine r_nwc ?_; intro b)) | (first | ((with_reducible refine d_cnd ?_); refine And.intro ?_ ?_) | with_reducible refine r_cnd ?_ ?_) <;> intro hc <;> try simp only [push_cast, Int.reduceEq, Int.reduceLT, Int.reduceLE, Int.reduceNe] at hc | with_reducible refine r_rq (by first | decide | omega) ?_ | ((with_reducible first | apply i_lds | apply i_ldsq | apply i_ld | apply i_ldq); exact rfl) | ((with_reducible first | apply i_ldn | apply i_ldnq); exact rfl; exact rfl; exact rfl) | (with_reducible first | refine r_ph0 ?_ | apply i_kp0) | ((with_reducible first | apply i_st | apply i_stl); (focus simp); exact rfl) | ((try with_reducible refine d_reg ?_); simp only [go_sem, Nat.reduceAdd, Nat.reduceEqDiff, Int.reduceToNat, Nat.reduceMul, Nat.reduceSub]) | clear hK K)
  refine d_lp [3, 11] (fun s : SlV × Ents eI eS × Ents eI eS => [(3, .slice s.1.1 s.1.2.1 s.1.2.2), (11, .pointer (some ⟨it, 0, none⟩))])
    (fun s => ow 3 1 s.1 ((s.2.1.map fun x => (x.1 : Int)).map fun n => .int .i64 n) :: blk it (.mapIter (some D.mb) D.c (sn s.2.1) D.c) :: (dkl D ++ L)) (fun s => Rg D.es s.2.1 s.2.2 ∧ s.1.2.1 = s.2.1.length) (fun s => s.2.2.length) ((none, 0, 0), [], D.es) rfl ?_ ⟨Rg.start _, rfl⟩ ?_
  · show Sub (ow 3 1 (none, 0, 0) [] :: blk it (.mapIter (some D.mb) D.c #[] D.c) :: (dkl D ++ L)) _
    exact SX.p
  rintro ⟨⟨op, on, oc⟩, S, R⟩ ⟨hR, ho⟩
  dsimp only at ho hR ⊢
  have hlS : S.length + R.length = D.es.length := by rw [← List.length_append]; exact hR.length_eq
  repeat' (first | (with_reducible first | (refine d_seq ?_; intro K hK) | (refine hK _ _ ?_; clear hK K) | refine d_blk ?_ | refine d_rt0 ?_ | refine d_sk0 ?_ | refine d_ex0 ?_ | (refine r_nwc ?_; intro b)) | (first | ((with_reducible refine d_cnd ?_); refine And.intro ?_ ?_) | with_reducible refine r_cnd ?_ ?_) <;> intro hc <;> try simp only [push_cast, Int.reduceEq, Int.reduceLT, Int.reduceLE, Int.reduceNe] at hc | with_reducible refine r_rq (by first | decide | omega) ?_ | ((with_reducible first | apply i_lds | apply i_ldsq | apply i_ld | apply i_ldq); exact rfl) | ((with_reducible first | apply i_ldn | apply i_ldnq); exact rfl; exact rfl; exact rfl) | (with_reducible first | refine r_ph0 ?_ | apply i_kp0) | ((with_reducible first | apply i_st | apply i_stl); (focus simp); exact rfl) | ((try with_reducible refine d_reg ?_); simp only [go_sem, Nat.reduceAdd, Nat.reduceEqDiff, Int.reduceToNat, Nat.reduceMul, Nat.reduceSub]) | clear hK K)
  refine i_mnx (κ := eI) (ε := eS) h.ec (Nat.le_refl _) (fun ha => ?_) fun x hx hn => ?_
  · repeat' (first | (with_reducible first | (refine d_seq ?_; intro K hK) | (refine hK _ _ ?_; clear hK K) | refine d_blk ?_ | refine d_rt0 ?_ | refine d_sk0 ?_ | refine d_ex0 ?_ | (refine r_nwc ?_; intro b)) | (first | ((with_reducible refine d_cnd ?_); refine And.intro ?_ ?_) | with_reducible refine r_cnd ?_ ?_) <;> intro hc <;> try simp only [push_cast, Int.reduceEq, Int.reduceLT, Int.reduceLE, Int.reduceNe] at hc | with_reducible refine r_rq (by first | decide | omega) ?_ | ((with_reducible first | apply i_lds | apply i_ldsq | apply i_ld | apply i_ldq); exact rfl) | ((with_reducible first | apply i_ldn | apply i_ldnq); exact rfl; exact rfl; exact rfl) | (with_reducible first | refine r_ph0 ?_ | apply i_kp0) | ((with_reducible first | apply i_st | apply i_stl); (focus simp); exact rfl) | ((try with_reducible refine d_reg ?_); simp only [go_sem, Nat.reduceAdd, Nat.reduceEqDiff, Int.reduceToNat, Nat.reduceMul, Nat.reduceSub]) | clear hK K)
    obtain rfl := hR.done h.bn ha
    have hS : S.Perm D.es := by have := hR; unfold Rg at this; simpa using this
    refine i_clq (f80 3 (op, on, oc) (S.map fun x => (x.1 : Int)) (by simp; omega)) ?_
    repeat' (first | (with_reducible first | (refine d_seq ?_; intro K hK) | (refine hK _ _ ?_; clear hK K) | refine d_blk ?_ | refine d_rt0 ?_ | refine d_sk0 ?_ | refine d_ex0 ?_ | (refine r_nwc ?_; intro b)) | (first | ((with_reducible refine d_cnd ?_); refine And.intro ?_ ?_) | with_reducible refine r_cnd ?_ ?_) <;> intro hc <;> try simp only [push_cast, Int.reduceEq, Int.reduceLT, Int.reduceLE, Int.reduceNe] at hc | with_reducible refine r_rq (by first | decide | omega) ?_ | ((with_reducible first | apply i_lds | apply i_ldsq | apply i_ld | apply i_ldq); exact rfl) | ((with_reducible first | apply i_ldn | apply i_ldnq); exact rfl; exact rfl; exact rfl) | (with_reducible first | refine r_ph0 ?_ | apply i_kp0) | ((with_reducible first | apply i_st | apply i_stl); (focus simp); exact rfl) | ((try with_reducible refine d_reg ?_); simp only [go_sem, Nat.reduceAdd, Nat.reduceEqDiff, Int.reduceToNat, Nat.reduceMul, Nat.reduceSub]) | clear hK K)
    have hk : D.keys = (S.map fun x => (x.1 : Int)).mergeSort fun x y => decide (x ≤ y) := (sort_perm (hS.map _)).symm
    rw [hk]
    exact i_done (op, on, oc) (ow 3 1 (op, on, oc) _ :: dkl D) rfl ⟨rfl, by simpa using ho⟩
  · repeat' (first | (with_reducible first | (refine d_seq ?_; intro K hK) | (refine hK _ _ ?_; clear hK K) | refine d_blk ?_ | refine d_rt0 ?_ | refine d_sk0 ?_ | refine d_ex0 ?_ | (refine r_nwc ?_; intro b)) | (first | ((with_reducible refine d_cnd ?_); refine And.intro ?_ ?_) | with_reducible refine r_cnd ?_ ?_) <;> intro hc <;> try simp only [push_cast, Int.reduceEq, Int.reduceLT, Int.reduceLE, Int.reduceNe] at hc | with_reducible refine r_rq (by first | decide | omega) ?_ | ((with_reducible first | apply i_lds | apply i_ldsq | apply i_ld | apply i_ldq); exact rfl) | ((with_reducible first | apply i_ldn | apply i_ldnq); exact rfl; exact rfl; exact rfl) | (with_reducible first | refine r_ph0 ?_ | apply i_kp0) | ((with_reducible first | apply i_st | apply i_stl); (focus simp); exact rfl) | ((try with_reducible refine d_reg ?_); simp only [go_sem, Nat.reduceAdd, Nat.reduceEqDiff, Int.reduceToNat, Nat.reduceMul, Nat.reduceSub]) | clear hK K)
    rw [sn_push]
    refine i_ment hx h.bn ?_
    repeat' (first | (with_reducible first | (refine d_seq ?_; intro K hK) | (refine hK _ _ ?_; clear hK K) | refine d_blk ?_ | refine d_rt0 ?_ | refine d_sk0 ?_ | refine d_ex0 ?_ | (refine r_nwc ?_; intro b)) | (first | ((with_reducible refine d_cnd ?_); refine And.intro ?_ ?_) | with_reducible refine r_cnd ?_ ?_) <;> intro hc <;> try simp only [push_cast, Int.reduceEq, Int.reduceLT, Int.reduceLE, Int.reduceNe] at hc | with_reducible refine r_rq (by first | decide | omega) ?_ | ((with_reducible first | apply i_lds | apply i_ldsq | apply i_ld | apply i_ldq); exact rfl) | ((with_reducible first | apply i_ldn | apply i_ldnq); exact rfl; exact rfl; exact rfl) | (with_reducible first | refine r_ph0 ?_ | apply i_kp0) | ((with_reducible first | apply i_st | apply i_stl); (focus simp); exact rfl) | ((try with_reducible refine d_reg ?_); simp only [go_sem, Nat.reduceAdd, Nat.reduceEqDiff, Int.reduceToNat, Nat.reduceMul, Nat.reduceSub]) | clear hK K)
    obtain ⟨R', hlt, hst⟩ := hR.step hx hn
    refine i_app (t := 3) (sz := 1) (op, on, oc) 8 (by kernel_rfl) (by decide) rfl rfl (by simp only; omega) fun o' ho' _ => ?_
    have e : (S.map fun x => (x.1 : Int)).map (fun n => Value.int .i64 n) ++ [Value.int .i64 x.1] = ((S ++ [x]).map fun x => (x.1 : Int)).map fun n => Value.int .i64 n := by simp
    rw [e]
    exact i_bk (o', S ++ [x], R') rfl ⟨hst, by simp [ho', ho]⟩ hlt
end Go.Sp
/- The disk: the power goes; what is written. -/
namespace Go.Sp
open Go Go.Proofs
set_option linter.unusedSimpArgs false
set_option linter.unusedVariables false
set_option maxRecDepth 10000
/-- Has the mark the bit of k? -/
def kb (keep : Int) (k : Nat) : Bool := bits .and .u64 (keep.fdiv (2 ^ (min (((k : Int).tmod (64 : Int))).toNat 64))) (1 : Int) == (1 : Int)
/-- What lasts behind the first n that wait. -/
def Dk.cutn (D : Dk) (keep : Int) : Nat → List (List UInt8)
  | 0 => D.sure
  | n + 1 => if kb keep n then (D.cutn keep n).set (D.keys.getD n 0).toNat ((gk D.es (D.keys.getD n 0)).getD []) else D.cutn keep n
def Dk.off (D : Dk) (keep : Int) : Dk := { D with sure := D.cutn keep D.keys.length, es := [], up := false, fuse := -1, downs := IntKind.wrap .i64 (D.downs + 1) }
theorem Dk.cutn_len (D : Dk) (keep : Int) (n : Nat) : (D.cutn keep n).length = D.sure.length := by
  induction n with
  | zero => rfl
  | succ n ih => unfold Dk.cutn; split <;> simp [ih]
theorem Dk.keys_len (D : Dk) : D.keys.length = D.es.length := by simp [Dk.keys]
theorem Dk.keys_in {D : Dk} (h : D.ok) {n : Nat} (hn : n < D.keys.length) : 0 ≤ D.keys.getD n 0 ∧ D.keys.getD n 0 < D.sure.length := by
  have h1 : D.keys.getD n 0 ∈ D.es.map (·.1) := by
    have : D.keys.getD n 0 = D.keys[n] := by simp [hn]
    rw [this]
    exact (List.mergeSort_perm _ _).mem_iff.1 (List.getElem_mem hn)
  obtain ⟨x, hx, e⟩ := List.mem_map.1 h1
  rw [← e]
  exact h.ei x hx
theorem f70 (D : Dk) (h : D.ok) (hlen : D.es.length ≤ 8192) (keep : Int) : Fq eN Tryz.prog 97 #[D.p, .int .u64 keep] (dkl D) (dkl (D.off keep)) () := fun L => by
  refine c97_fn rfl rfl ?_
  simp only [Dk.p]
  repeat' ((fail_if_success with_reducible refine nph ?_); first | (with_reducible first | (refine d_seq ?_; intro K hK) | (refine hK _ _ ?_; clear hK K) | refine d_blk ?_ | refine d_rt0 ?_ | refine d_sk0 ?_ | refine d_ex0 ?_ | (refine r_nwc ?_; intro b)) | (first | ((with_reducible refine d_cnd ?_); refine And.intro ?_ ?_) | with_reducible refine r_cnd ?_ ?_) <;> intro hc <;> try simp only [push_cast, Int.reduceEq, Int.reduceLT, Int.reduceLE, Int.reduceNe] at hc | with_reducible refine r_rq (by first | decide | omega) ?_ | ((with_reducible first | apply i_lds | apply i_ldsq | apply i_ld | apply i_ldq); exact rfl) | ((with_reducible first | apply i_ldn | apply i_ldnq); exact rfl; exact rfl; exact rfl) | (with_reducible first | refine r_ph0 ?_ | apply i_kp0) | ((with_reducible first | apply i_st | apply i_stl); (focus simp); exact rfl) | ((try with_reducible refine d_reg ?_); simp only [go_sem, Nat.reduceAdd, Nat.reduceEqDiff, Int.reduceToNat, Nat.reduceMul, Nat.reduceSub]) | clear hK K)
  refine i_cal (f43 D h hlen) fun y X ⟨hX, hy⟩ => ?_
  subst hX
  obtain ⟨yp, yn, yc⟩ := y
  dsimp only at hy
  subst hy
  repeat' (first | (with_reducible first | (refine d_seq ?_; intro K hK) | (refine hK _ _ ?_; clear hK K) | refine d_blk ?_ | refine d_rt0 ?_ | refine d_sk0 ?_ | refine d_ex0 ?_ | (refine r_nwc ?_; intro b)) | (first | ((with_reducible refine d_cnd ?_); refine And.intro ?_ ?_) | with_reducible refine r_cnd ?_ ?_) <;> intro hc <;> try simp only [push_cast, Int.reduceEq, Int.reduceLT, Int.reduceLE, Int.reduceNe] at hc | with_reducible refine r_rq (by first | decide | omega) ?_ | ((with_reducible first | apply i_lds | apply i_ldsq | apply i_ld | apply i_ldq); exact rfl) | ((with_reducible first | apply i_ldn | apply i_ldnq); exact rfl; exact rfl; exact rfl) | (with_reducible first | refine r_ph0 ?_ | apply i_kp0) | ((with_reducible first | apply i_st | apply i_stl); (focus simp); exact rfl) | ((try with_reducible refine d_reg ?_); simp only [go_sem, Nat.reduceAdd, Nat.reduceEqDiff, Int.reduceToNat, Nat.reduceMul, Nat.reduceSub]) | clear hK K)
  refine d_lp [0, 1, 7, 8, 9] (fun n : Nat => [(0, .pointer (some ⟨D.sb, 0, none⟩)), (1, .int .u64 keep), (7, .slice yp D.keys.length yc), (8, .int .i64 (D.keys.length : Int)), (9, .int .i64 (n : Int))])
    (fun n => ow 3 1 (yp, D.keys.length, yc) (D.keys.map fun n => .int .i64 n) :: ar D.sb 108 D.hd :: ar D.bb 9 ((D.cutn keep n).map fun s => str s) :: mp eI eS D.mb D.es D.c :: L) (fun n => n ≤ D.keys.length) (fun n => D.keys.length - n) 0 rfl ?_ (by omega) ?_
  · show Sub (ow 3 1 (yp, D.keys.length, yc) (D.keys.map fun n => .int .i64 n) :: (dkl D ++ L)) _
    exact SX.p
  intro n hn
  repeat' ((fail_if_success with_reducible refine nph ?_); first | (with_reducible first | (refine d_seq ?_; intro K hK) | (refine hK _ _ ?_; clear hK K) | refine d_blk ?_ | refine d_rt0 ?_ | refine d_sk0 ?_ | refine d_ex0 ?_ | (refine r_nwc ?_; intro b)) | (first | ((with_reducible refine d_cnd ?_); refine And.intro ?_ ?_) | with_reducible refine r_cnd ?_ ?_) <;> intro hc <;> try simp only [push_cast, Int.reduceEq, Int.reduceLT, Int.reduceLE, Int.reduceNe] at hc | with_reducible refine r_rq (by first | decide | omega) ?_ | ((with_reducible first | apply i_lds | apply i_ldsq | apply i_ld | apply i_ldq); exact rfl) | ((with_reducible first | apply i_ldn | apply i_ldnq); exact rfl; exact rfl; exact rfl) | (with_reducible first | refine r_ph0 ?_ | apply i_kp0) | ((with_reducible first | apply i_st | apply i_stl); (focus simp); exact rfl) | ((try with_reducible refine d_reg ?_); simp only [go_sem, Nat.reduceAdd, Nat.reduceEqDiff, Int.reduceToNat, Nat.reduceMul, Nat.reduceSub]) | clear hK K)
  · refine i_ow (t := 3) (sz := 1) (yp, D.keys.length, yc) fun hR => ?_
    obtain ⟨a, rfl⟩ := hR.ptr (by omega)
    repeat' ((fail_if_success with_reducible refine nph ?_); first | (with_reducible first | (refine d_seq ?_; intro K hK) | (refine hK _ _ ?_; clear hK K) | refine d_blk ?_ | refine d_rt0 ?_ | refine d_sk0 ?_ | refine d_ex0 ?_ | (refine r_nwc ?_; intro b)) | (first | ((with_reducible refine d_cnd ?_); refine And.intro ?_ ?_) | with_reducible refine r_cnd ?_ ?_) <;> intro hc <;> try simp only [push_cast, Int.reduceEq, Int.reduceLT, Int.reduceLE, Int.reduceNe] at hc | with_reducible refine r_rq (by first | decide | omega) ?_ | ((with_reducible first | apply i_lds | apply i_ldsq | apply i_ld | apply i_ldq); exact rfl) | ((with_reducible first | apply i_ldn | apply i_ldnq); exact rfl; exact rfl; exact rfl) | (with_reducible first | refine r_ph0 ?_ | apply i_kp0) | ((with_reducible first | apply i_st | apply i_stl); (focus simp); exact rfl) | ((try with_reducible refine d_reg ?_); simp only [go_sem, Nat.reduceAdd, Nat.reduceEqDiff, Int.reduceToNat, Nat.reduceMul, Nat.reduceSub]) | clear hK K)
    have hn' : n < D.keys.length := by omega
    have hi := Dk.keys_in h hn'
    have hx : (D.keys.map fun n => Value.int .i64 n)[n]? = some (eI.enc (D.keys.getD n 0)) := by simp [hn']
    refine i_o1 hx ?_
    have hlc := Dk.cutn_len D keep n
    have h8 := hlen
    rw [← Dk.keys_len] at h8
    have hes : 0 ≤ (n : Int).tmod (64 : Int) := by rw [tm (by omega)]; omega
    repeat' ((fail_if_success with_reducible refine nph ?_); first | (with_reducible first | (refine d_seq ?_; intro K hK) | (refine hK _ _ ?_; clear hK K) | refine d_blk ?_ | refine d_rt0 ?_ | refine d_sk0 ?_ | refine d_ex0 ?_ | (refine r_nwc ?_; intro b)) | (first | ((with_reducible refine d_cnd ?_); refine And.intro ?_ ?_) | with_reducible refine r_cnd ?_ ?_) <;> intro hc <;> try simp only [push_cast, Int.reduceEq, Int.reduceLT, Int.reduceLE, Int.reduceNe] at hc | with_reducible refine r_rq (by first | decide | omega) ?_ | ((with_reducible first | apply i_lds | apply i_ldsq | apply i_ld | apply i_ldq); exact rfl) | ((with_reducible first | apply i_ldn | apply i_ldnq); exact rfl; exact rfl; exact rfl) | (with_reducible first | refine r_ph0 ?_ | apply i_kp0) | ((with_reducible first | apply i_st | apply i_stl); (focus simp); exact rfl) | ((try with_reducible refine d_reg ?_); simp only [go_sem, Nat.reduceAdd, Nat.reduceEqDiff, Int.reduceToNat, Nat.reduceMul, Nat.reduceSub]) | clear hK K)
    · have hkb : kb keep n = true := by simpa [kb] using hc
      have e : D.cutn keep (n + 1) = (D.cutn keep n).set (D.keys.getD n 0).toNat ((gk D.es (D.keys.getD n 0)).getD []) := by rw [Dk.cutn, if_pos hkb]
      repeat' (first | (with_reducible first | (refine d_seq ?_; intro K hK) | (refine hK _ _ ?_; clear hK K) | refine d_blk ?_ | refine d_rt0 ?_ | refine d_sk0 ?_ | refine d_ex0 ?_ | (refine r_nwc ?_; intro b)) | (first | ((with_reducible refine d_cnd ?_); refine And.intro ?_ ?_) | with_reducible refine r_cnd ?_ ?_) <;> intro hc <;> try simp only [push_cast, Int.reduceEq, Int.reduceLT, Int.reduceLE, Int.reduceNe] at hc | with_reducible refine r_rq (by first | decide | omega) ?_ | ((with_reducible first | apply i_lds | apply i_ldsq | apply i_ld | apply i_ldq); exact rfl) | ((with_reducible first | apply i_ldn | apply i_ldnq); exact rfl; exact rfl; exact rfl) | (with_reducible first | refine r_ph0 ?_ | apply i_kp0) | ((with_reducible first | apply i_st | apply i_stl); (focus simp); exact rfl) | ((try with_reducible refine d_reg ?_); simp only [go_sem, Nat.reduceAdd, Nat.reduceEqDiff, Int.reduceToNat, Nat.reduceMul, Nat.reduceSub]) | clear hK K)
      refine i_lk1q (ε := eS) [] (by kernel_rfl) ?_
      repeat' (first | (with_reducible first | (refine d_seq ?_; intro K hK) | (refine hK _ _ ?_; clear hK K) | refine d_blk ?_ | refine d_rt0 ?_ | refine d_sk0 ?_ | refine d_ex0 ?_ | (refine r_nwc ?_; intro b)) | (first | ((with_reducible refine d_cnd ?_); refine And.intro ?_ ?_) | with_reducible refine r_cnd ?_ ?_) <;> intro hc <;> try simp only [push_cast, Int.reduceEq, Int.reduceLT, Int.reduceLE, Int.reduceNe] at hc | with_reducible refine r_rq (by first | decide | omega) ?_ | ((with_reducible first | apply i_lds | apply i_ldsq | apply i_ld | apply i_ldq); exact rfl) | ((with_reducible first | apply i_ldn | apply i_ldnq); exact rfl; exact rfl; exact rfl) | (with_reducible first | refine r_ph0 ?_ | apply i_kp0) | ((with_reducible first | apply i_st | apply i_stl); (focus simp); exact rfl) | ((try with_reducible refine d_reg ?_); simp only [go_sem, Nat.reduceAdd, Nat.reduceEqDiff, Int.reduceToNat, Nat.reduceMul, Nat.reduceSub]) | clear hK K)
      refine i_st (by simp only [List.length_map]; omega) rfl ?_
      rw [← List.map_set, ← e]
      repeat' (first | (with_reducible first | (refine d_seq ?_; intro K hK) | (refine hK _ _ ?_; clear hK K) | refine d_blk ?_ | refine d_rt0 ?_ | refine d_sk0 ?_ | refine d_ex0 ?_ | (refine r_nwc ?_; intro b)) | (first | ((with_reducible refine d_cnd ?_); refine And.intro ?_ ?_) | with_reducible refine r_cnd ?_ ?_) <;> intro hc <;> try simp only [push_cast, Int.reduceEq, Int.reduceLT, Int.reduceLE, Int.reduceNe] at hc | with_reducible refine r_rq (by first | decide | omega) ?_ | ((with_reducible first | apply i_lds | apply i_ldsq | apply i_ld | apply i_ldq); exact rfl) | ((with_reducible first | apply i_ldn | apply i_ldnq); exact rfl; exact rfl; exact rfl) | (with_reducible first | refine r_ph0 ?_ | apply i_kp0) | ((with_reducible first | apply i_st | apply i_stl); (focus simp); exact rfl) | ((try with_reducible refine d_reg ?_); simp only [go_sem, Nat.reduceAdd, Nat.reduceEqDiff, Int.reduceToNat, Nat.reduceMul, Nat.reduceSub]) | clear hK K)
      exact i_bk (n + 1) (by simp (disch := omega) only [w64]; rfl) (by omega) (by omega)
    · have hkb : kb keep n = false := by simpa [kb] using hc
      have e : D.cutn keep (n + 1) = D.cutn keep n := by rw [Dk.cutn, if_neg (by simp [hkb])]
      rw [← e]
      refine i_bk (n + 1) (by simp (disch := omega) only [w64]; rfl) (by omega) (by omega)
  · obtain rfl : n = D.keys.length := by omega
    refine i_mclr (κ := eI) (ε := eS) (a := 3) (b := 9) (by kernel_rfl) ?_
    repeat' (first | (with_reducible first | (refine d_seq ?_; intro K hK) | (refine hK _ _ ?_; clear hK K) | refine d_blk ?_ | refine d_rt0 ?_ | refine d_sk0 ?_ | refine d_ex0 ?_ | (refine r_nwc ?_; intro b)) | (first | ((with_reducible refine d_cnd ?_); refine And.intro ?_ ?_) | with_reducible refine r_cnd ?_ ?_) <;> intro hc <;> try simp only [push_cast, Int.reduceEq, Int.reduceLT, Int.reduceLE, Int.reduceNe] at hc | with_reducible refine r_rq (by first | decide | omega) ?_ | ((with_reducible first | apply i_lds | apply i_ldsq | apply i_ld | apply i_ldq); exact rfl) | ((with_reducible first | apply i_ldn | apply i_ldnq); exact rfl; exact rfl; exact rfl) | (with_reducible first | refine r_ph0 ?_ | apply i_kp0) | ((with_reducible first | apply i_st | apply i_stl); (focus simp); exact rfl) | ((try with_reducible refine d_reg ?_); simp only [go_sem, Nat.reduceAdd, Nat.reduceEqDiff, Int.reduceToNat, Nat.reduceMul, Nat.reduceSub]) | clear hK K)
    simp only [Dk.off, dkl, Dk.hd, Dk.cutn_len]
    (with_reducible first | apply i_ret0 | apply i_ret2 | apply i_ret3 | apply i_ret); exact rfl
end Go.Sp
/- The disk: acts, writes, losses of power. -/
namespace Go.Sp
open Go Go.Proofs
set_option linter.unusedSimpArgs false
set_option linter.unusedVariables false
set_option maxRecDepth 10000
theorem nd_len : ∀ (n : Nat) (l : List Int), l.Nodup → (∀ x ∈ l, 0 ≤ x ∧ x < (n : Int)) → l.length ≤ n
  | 0, l, _, h => by
    cases l with
    | nil => simp
    | cons x r => have := h x (by simp); omega
  | n + 1, l, hd, h => by
    by_cases hm : (n : Int) ∈ l
    · have h1 := nd_len n (l.erase n) (hd.erase _) fun x hx => by
        have h2 := (List.Nodup.mem_erase_iff hd).1 hx
        have := h x h2.2
        have := h2.1
        omega
      rw [List.length_erase_of_mem hm] at h1
      omega
    · have h1 := nd_len n l hd fun x hx => by
        have h2 := h x hx
        have : x ≠ n := fun e => hm (e ▸ hx)
        omega
      omega
theorem Dk.ok.len {D : Dk} (h : D.ok) : D.es.length ≤ 8192 := by
  have := nd_len D.sure.length (D.es.map (·.1)) h.kn fun x hx => by
    obtain ⟨y, hy, rfl⟩ := List.mem_map.1 hx
    exact h.ei y hy
  have := h.n1
  simp at *
  omega
theorem gk_mem {es : Ents eI eS} {k : Int} {v : List UInt8} (h : gk es k = some v) : ∃ x ∈ es, x.1 = k ∧ x.2.1 = v := by
  induction es with
  | nil => cases h
  | cons x r ih =>
    unfold gk at h
    split at h
    · rename_i e; exact ⟨x, by simp, e, by simpa using h⟩
    · obtain ⟨y, hy, e⟩ := ih h; exact ⟨y, by simp [hy], e⟩
theorem gk_none {es : Ents eI eS} {k : Int} (h : gk es k = none) : ∀ x ∈ es, x.1 ≠ k := by
  induction es with
  | nil => intro x hx; cases hx
  | cons y r ih =>
    unfold gk at h
    split at h
    · cases h
    · rename_i e
      intro x hx
      cases hx with
      | head => exact e
      | tail _ hx => exact ih h x hx
theorem Dk.cutn_64 {D : Dk} (h : D.ok) (keep : Int) (n : Nat) : ∀ s ∈ D.cutn keep n, s.length ≤ 64 := by
  induction n with
  | zero => exact h.l64
  | succ n ih =>
    unfold Dk.cutn
    split
    · intro s hs
      rcases List.mem_or_eq_of_mem_set hs with h1 | rfl
      · exact ih s h1
      · cases hg : gk D.es (D.keys.getD n 0) with
        | none => simp
        | some v =>
          obtain ⟨x, hx, _, rfl⟩ := gk_mem hg
          have := h.e64 x hx
          simp only [Option.getD_some]; omega
    · exact ih
theorem Dk.off_ok {D : Dk} (h : D.ok) (keep : Int) : (D.off keep).ok := by
  have h1 := h.n0
  have h2 := h.n1
  have h3 := h.kp
  have h4 := Dk.cutn_len D keep D.keys.length
  have h5 := Dk.cutn_64 h keep D.keys.length
  constructor <;> simp only [Dk.off, h4] <;> first | assumption | simp | omega
/-- An act: does it go well, and what is behind it? -/
def Dk.act (D : Dk) : Int × Dk := if D.fuse = 0 then (9, D.off D.keep) else (0, { D with fuse := if 0 < D.fuse then D.fuse - 1 else D.fuse, acts := IntKind.wrap .i64 (D.acts + 1) })
theorem Dk.act_sb (D : Dk) : D.act.2.sb = D.sb := by unfold Dk.act; split <;> rfl
theorem Dk.act_ok {D : Dk} (h : D.ok) : D.act.2.ok := by
  unfold Dk.act
  split
  · exact Dk.off_ok h _
  · obtain ⟨h1, h2, h3, h4, h5, h6, h7, h8, h9, h10⟩ := h
    constructor <;> simp only <;> first | assumption | (split <;> omega)
theorem f68 (D : Dk) (h : D.ok) : Fq eI Tryz.prog 82 #[D.p] (dkl D) (dkl D.act.2) D.act.1 := by
  have hf := h.fu
  unfold Dk.act
  by_cases h0 : D.fuse = 0
  · simp only [h0, if_true]
    intro L
    refine c82_fn rfl rfl ?_
    simp only [Dk.p]
    repeat' ((fail_if_success with_reducible refine nph ?_); first | (with_reducible first | (refine d_seq ?_; intro K hK) | (refine hK _ _ ?_; clear hK K) | refine d_blk ?_ | refine d_rt0 ?_ | refine d_sk0 ?_ | refine d_ex0 ?_ | (refine r_nwc ?_; intro b)) | (first | ((with_reducible refine d_cnd ?_); refine And.intro ?_ ?_) | with_reducible refine r_cnd ?_ ?_) <;> intro hc <;> try simp only [push_cast, Int.reduceEq, Int.reduceLT, Int.reduceLE, Int.reduceNe] at hc | with_reducible refine r_rq (by first | decide | omega) ?_ | ((with_reducible first | apply i_lds | apply i_ldsq | apply i_ld | apply i_ldq); exact rfl) | ((with_reducible first | apply i_ldn | apply i_ldnq); exact rfl; exact rfl; exact rfl) | (with_reducible first | refine r_ph0 ?_ | apply i_kp0) | ((with_reducible first | apply i_st | apply i_stl); (focus simp); exact rfl) | ((try with_reducible refine d_reg ?_); simp only [go_sem, Nat.reduceAdd, Nat.reduceEqDiff, Int.reduceToNat, Nat.reduceMul, Nat.reduceSub]) | clear hK K)
    · refine i_clq (f70 D h h.len D.keep) ?_
      repeat' (first | (with_reducible first | (refine d_seq ?_; intro K hK) | (refine hK _ _ ?_; clear hK K) | refine d_blk ?_ | refine d_rt0 ?_ | refine d_sk0 ?_ | refine d_ex0 ?_ | (refine r_nwc ?_; intro b)) | (first | ((with_reducible refine d_cnd ?_); refine And.intro ?_ ?_) | with_reducible refine r_cnd ?_ ?_) <;> intro hc <;> try simp only [push_cast, Int.reduceEq, Int.reduceLT, Int.reduceLE, Int.reduceNe] at hc | with_reducible refine r_rq (by first | decide | omega) ?_ | ((with_reducible first | apply i_lds | apply i_ldsq | apply i_ld | apply i_ldq); exact rfl) | ((with_reducible first | apply i_ldn | apply i_ldnq); exact rfl; exact rfl; exact rfl) | (with_reducible first | refine r_ph0 ?_ | apply i_kp0) | ((with_reducible first | apply i_st | apply i_stl); (focus simp); exact rfl) | ((try with_reducible refine d_reg ?_); simp only [go_sem, Nat.reduceAdd, Nat.reduceEqDiff, Int.reduceToNat, Nat.reduceMul, Nat.reduceSub]) | clear hK K)
      (with_reducible first | apply i_ret0 | apply i_ret2 | apply i_ret3 | apply i_ret); exact rfl
      rfl
    all_goals contradiction
  · by_cases h1 : 0 < D.fuse <;> simp only [h0, h1, if_true, if_false]
    all_goals
      intro L
      refine c82_fn rfl rfl ?_
      simp only [Dk.p]
      repeat' ((fail_if_success with_reducible refine nph ?_); first | (with_reducible first | (refine d_seq ?_; intro K hK) | (refine hK _ _ ?_; clear hK K) | refine d_blk ?_ | refine d_rt0 ?_ | refine d_sk0 ?_ | refine d_ex0 ?_ | (refine r_nwc ?_; intro b)) | (first | ((with_reducible refine d_cnd ?_); refine And.intro ?_ ?_) | with_reducible refine r_cnd ?_ ?_) <;> intro hc <;> try simp only [push_cast, Int.reduceEq, Int.reduceLT, Int.reduceLE, Int.reduceNe] at hc | with_reducible refine r_rq (by first | decide | omega) ?_ | ((with_reducible first | apply i_lds | apply i_ldsq | apply i_ld | apply i_ldq); exact rfl) | ((with_reducible first | apply i_ldn | apply i_ldnq); exact rfl; exact rfl; exact rfl) | (with_reducible first | refine r_ph0 ?_ | apply i_kp0) | ((with_reducible first | apply i_st | apply i_stl); (focus simp); exact rfl) | ((try with_reducible refine d_reg ?_); simp only [go_sem, Nat.reduceAdd, Nat.reduceEqDiff, Int.reduceToNat, Nat.reduceMul, Nat.reduceSub]) | clear hK K)
      all_goals first | contradiction | (exfalso; omega) | (simp (disch := omega) only [w64]; (with_reducible first | apply i_ret0 | apply i_ret2 | apply i_ret3 | apply i_ret); exact rfl; rfl) | ((with_reducible first | apply i_ret0 | apply i_ret2 | apply i_ret3 | apply i_ret); exact rfl; rfl)
theorem f29 (D : Dk) (h : D.ok) (keep : Int) : Fq eI Tryz.prog 62 #[D.p, .int .u64 keep] (dkl D) (dkl (if D.chk 0 = 0 then D.off keep else D)) (D.chk 0) := by
  by_cases h0 : D.chk 0 = 0 <;> simp only [h0, if_true, if_false]
  all_goals
    intro L
    refine c62_fn rfl rfl ?_
    simp only [Dk.p]
    repeat' ((fail_if_success with_reducible refine nph ?_); first | (with_reducible first | (refine d_seq ?_; intro K hK) | (refine hK _ _ ?_; clear hK K) | refine d_blk ?_ | refine d_rt0 ?_ | refine d_sk0 ?_ | refine d_ex0 ?_ | (refine r_nwc ?_; intro b)) | (first | ((with_reducible refine d_cnd ?_); refine And.intro ?_ ?_) | with_reducible refine r_cnd ?_ ?_) <;> intro hc <;> try simp only [push_cast, Int.reduceEq, Int.reduceLT, Int.reduceLE, Int.reduceNe] at hc | with_reducible refine r_rq (by first | decide | omega) ?_ | ((with_reducible first | apply i_lds | apply i_ldsq | apply i_ld | apply i_ldq); exact rfl) | ((with_reducible first | apply i_ldn | apply i_ldnq); exact rfl; exact rfl; exact rfl) | (with_reducible first | refine r_ph0 ?_ | apply i_kp0) | ((with_reducible first | apply i_st | apply i_stl); (focus simp); exact rfl) | ((try with_reducible refine d_reg ?_); simp only [go_sem, Nat.reduceAdd, Nat.reduceEqDiff, Int.reduceToNat, Nat.reduceMul, Nat.reduceSub]) | clear hK K)
    refine i_clp (f67 D h 0) ?_
    try simp only [h0]
    repeat' ((fail_if_success with_reducible refine nph ?_); first | (with_reducible first | (refine d_seq ?_; intro K hK) | (refine hK _ _ ?_; clear hK K) | refine d_blk ?_ | refine d_rt0 ?_ | refine d_sk0 ?_ | refine d_ex0 ?_ | (refine r_nwc ?_; intro b)) | (first | ((with_reducible refine d_cnd ?_); refine And.intro ?_ ?_) | with_reducible refine r_cnd ?_ ?_) <;> intro hc <;> try simp only [push_cast, Int.reduceEq, Int.reduceLT, Int.reduceLE, Int.reduceNe] at hc | with_reducible refine r_rq (by first | decide | omega) ?_ | ((with_reducible first | apply i_lds | apply i_ldsq | apply i_ld | apply i_ldq); exact rfl) | ((with_reducible first | apply i_ldn | apply i_ldnq); exact rfl; exact rfl; exact rfl) | (with_reducible first | refine r_ph0 ?_ | apply i_kp0) | ((with_reducible first | apply i_st | apply i_stl); (focus simp); exact rfl) | ((try with_reducible refine d_reg ?_); simp only [go_sem, Nat.reduceAdd, Nat.reduceEqDiff, Int.reduceToNat, Nat.reduceMul, Nat.reduceSub]) | clear hK K)
    all_goals try contradiction
  · refine i_clq (f70 D h h.len keep) ?_
    repeat' (first | (with_reducible first | (refine d_seq ?_; intro K hK) | (refine hK _ _ ?_; clear hK K) | refine d_blk ?_ | refine d_rt0 ?_ | refine d_sk0 ?_ | refine d_ex0 ?_ | (refine r_nwc ?_; intro b)) | (first | ((with_reducible refine d_cnd ?_); refine And.intro ?_ ?_) | with_reducible refine r_cnd ?_ ?_) <;> intro hc <;> try simp only [push_cast, Int.reduceEq, Int.reduceLT, Int.reduceLE, Int.reduceNe] at hc | with_reducible refine r_rq (by first | decide | omega) ?_ | ((with_reducible first | apply i_lds | apply i_ldsq | apply i_ld | apply i_ldq); exact rfl) | ((with_reducible first | apply i_ldn | apply i_ldnq); exact rfl; exact rfl; exact rfl) | (with_reducible first | refine r_ph0 ?_ | apply i_kp0) | ((with_reducible first | apply i_st | apply i_stl); (focus simp); exact rfl) | ((try with_reducible refine d_reg ?_); simp only [go_sem, Nat.reduceAdd, Nat.reduceEqDiff, Int.reduceToNat, Nat.reduceMul, Nat.reduceSub]) | clear hK K)
    (with_reducible first | apply i_ret0 | apply i_ret2 | apply i_ret3 | apply i_ret); exact rfl
    rfl
  · (with_reducible first | apply i_ret0 | apply i_ret2 | apply i_ret3 | apply i_ret); exact rfl
    rfl
def Dk.put (D : Dk) (i : Int) (s : List UInt8) : Dk := { D with es := pk D.es i s D.c, c := ck D.es i D.c }
/-- A write. -/
def Dk.write (D : Dk) (i : Int) (s : List UInt8) : Int × Dk :=
  if D.chk i = 0 then (if 64 < s.length then (3, D) else if D.act.1 = 0 then (0, D.act.2.put i (wh s)) else (D.act.1, D.act.2)) else (D.chk i, D)
theorem f27 (D : Dk) (h : D.ok) (i : Int) (s : List UInt8) : Fq eI Tryz.prog 24 #[D.p, .int .i64 i, str s] (dkl D) (dkl (D.write i s).2) (D.write i s).1 := by
  unfold Dk.write
  by_cases h0 : D.chk i = 0
  · simp only [h0, if_true]
    by_cases h1 : 64 < s.length
    · simp only [h1, if_true]
      intro L
      refine c24_fn rfl rfl ?_
      simp only [Dk.p]
      repeat' ((fail_if_success with_reducible refine nph ?_); first | (with_reducible first | (refine d_seq ?_; intro K hK) | (refine hK _ _ ?_; clear hK K) | refine d_blk ?_ | refine d_rt0 ?_ | refine d_sk0 ?_ | refine d_ex0 ?_ | (refine r_nwc ?_; intro b)) | (first | ((with_reducible refine d_cnd ?_); refine And.intro ?_ ?_) | with_reducible refine r_cnd ?_ ?_) <;> intro hc <;> try simp only [push_cast, Int.reduceEq, Int.reduceLT, Int.reduceLE, Int.reduceNe] at hc | with_reducible refine r_rq (by first | decide | omega) ?_ | ((with_reducible first | apply i_lds | apply i_ldsq | apply i_ld | apply i_ldq); exact rfl) | ((with_reducible first | apply i_ldn | apply i_ldnq); exact rfl; exact rfl; exact rfl) | (with_reducible first | refine r_ph0 ?_ | apply i_kp0) | ((with_reducible first | apply i_st | apply i_stl); (focus simp); exact rfl) | ((try with_reducible refine d_reg ?_); simp only [go_sem, Nat.reduceAdd, Nat.reduceEqDiff, Int.reduceToNat, Nat.reduceMul, Nat.reduceSub]) | clear hK K)
      refine i_clp (f67 D h i) ?_
      try simp only [h0]
      repeat' ((fail_if_success with_reducible refine nph ?_); first | (with_reducible first | (refine d_seq ?_; intro K hK) | (refine hK _ _ ?_; clear hK K) | refine d_blk ?_ | refine d_rt0 ?_ | refine d_sk0 ?_ | refine d_ex0 ?_ | (refine r_nwc ?_; intro b)) | (first | ((with_reducible refine d_cnd ?_); refine And.intro ?_ ?_) | with_reducible refine r_cnd ?_ ?_) <;> intro hc <;> try simp only [push_cast, Int.reduceEq, Int.reduceLT, Int.reduceLE, Int.reduceNe] at hc | with_reducible refine r_rq (by first | decide | omega) ?_ | ((with_reducible first | apply i_lds | apply i_ldsq | apply i_ld | apply i_ldq); exact rfl) | ((with_reducible first | apply i_ldn | apply i_ldnq); exact rfl; exact rfl; exact rfl) | (with_reducible first | refine r_ph0 ?_ | apply i_kp0) | ((with_reducible first | apply i_st | apply i_stl); (focus simp); exact rfl) | ((try with_reducible refine d_reg ?_); simp only [go_sem, Nat.reduceAdd, Nat.reduceEqDiff, Int.reduceToNat, Nat.reduceMul, Nat.reduceSub]) | clear hK K)
      all_goals first | contradiction | omega | ((with_reducible first | apply i_ret0 | apply i_ret2 | apply i_ret3 | apply i_ret); exact rfl; rfl)
    · simp only [h1, if_false]
      by_cases h2 : D.act.1 = 0 <;> simp only [h2, if_true, if_false]
      all_goals
        intro L
        refine c24_fn rfl rfl ?_
        simp only [Dk.p]
        repeat' ((fail_if_success with_reducible refine nph ?_); first | (with_reducible first | (refine d_seq ?_; intro K hK) | (refine hK _ _ ?_; clear hK K) | refine d_blk ?_ | refine d_rt0 ?_ | refine d_sk0 ?_ | refine d_ex0 ?_ | (refine r_nwc ?_; intro b)) | (first | ((with_reducible refine d_cnd ?_); refine And.intro ?_ ?_) | with_reducible refine r_cnd ?_ ?_) <;> intro hc <;> try simp only [push_cast, Int.reduceEq, Int.reduceLT, Int.reduceLE, Int.reduceNe] at hc | with_reducible refine r_rq (by first | decide | omega) ?_ | ((with_reducible first | apply i_lds | apply i_ldsq | apply i_ld | apply i_ldq); exact rfl) | ((with_reducible first | apply i_ldn | apply i_ldnq); exact rfl; exact rfl; exact rfl) | (with_reducible first | refine r_ph0 ?_ | apply i_kp0) | ((with_reducible first | apply i_st | apply i_stl); (focus simp); exact rfl) | ((try with_reducible refine d_reg ?_); simp only [go_sem, Nat.reduceAdd, Nat.reduceEqDiff, Int.reduceToNat, Nat.reduceMul, Nat.reduceSub]) | clear hK K)
        refine i_clp (f67 D h i) ?_
        try simp only [h0]
        repeat' ((fail_if_success with_reducible refine nph ?_); first | (with_reducible first | (refine d_seq ?_; intro K hK) | (refine hK _ _ ?_; clear hK K) | refine d_blk ?_ | refine d_rt0 ?_ | refine d_sk0 ?_ | refine d_ex0 ?_ | (refine r_nwc ?_; intro b)) | (first | ((with_reducible refine d_cnd ?_); refine And.intro ?_ ?_) | with_reducible refine r_cnd ?_ ?_) <;> intro hc <;> try simp only [push_cast, Int.reduceEq, Int.reduceLT, Int.reduceLE, Int.reduceNe] at hc | with_reducible refine r_rq (by first | decide | omega) ?_ | ((with_reducible first | apply i_lds | apply i_ldsq | apply i_ld | apply i_ldq); exact rfl) | ((with_reducible first | apply i_ldn | apply i_ldnq); exact rfl; exact rfl; exact rfl) | (with_reducible first | refine r_ph0 ?_ | apply i_kp0) | ((with_reducible first | apply i_st | apply i_stl); (focus simp); exact rfl) | ((try with_reducible refine d_reg ?_); simp only [go_sem, Nat.reduceAdd, Nat.reduceEqDiff, Int.reduceToNat, Nat.reduceMul, Nat.reduceSub]) | clear hK K)
        all_goals try (first | contradiction | (exfalso; omega))
        refine i_clq (f68 D h) ?_
        try simp only [h2]
        repeat' ((fail_if_success with_reducible refine nph ?_); first | (with_reducible first | (refine d_seq ?_; intro K hK) | (refine hK _ _ ?_; clear hK K) | refine d_blk ?_ | refine d_rt0 ?_ | refine d_sk0 ?_ | refine d_ex0 ?_ | (refine r_nwc ?_; intro b)) | (first | ((with_reducible refine d_cnd ?_); refine And.intro ?_ ?_) | with_reducible refine r_cnd ?_ ?_) <;> intro hc <;> try simp only [push_cast, Int.reduceEq, Int.reduceLT, Int.reduceLE, Int.reduceNe] at hc | with_reducible refine r_rq (by first | decide | omega) ?_ | ((with_reducible first | apply i_lds | apply i_ldsq | apply i_ld | apply i_ldq); exact rfl) | ((with_reducible first | apply i_ldn | apply i_ldnq); exact rfl; exact rfl; exact rfl) | (with_reducible first | refine r_ph0 ?_ | apply i_kp0) | ((with_reducible first | apply i_st | apply i_stl); (focus simp); exact rfl) | ((try with_reducible refine d_reg ?_); simp only [go_sem, Nat.reduceAdd, Nat.reduceEqDiff, Int.reduceToNat, Nat.reduceMul, Nat.reduceSub]) | clear hK K)
        all_goals try (first | contradiction | (exfalso; omega))
      · have hsb := Dk.act_sb D
        generalize D.act.2 = A at *
        rw [← hsb]
        repeat' (first | (with_reducible first | (refine d_seq ?_; intro K hK) | (refine hK _ _ ?_; clear hK K) | refine d_blk ?_ | refine d_rt0 ?_ | refine d_sk0 ?_ | refine d_ex0 ?_ | (refine r_nwc ?_; intro b)) | (first | ((with_reducible refine d_cnd ?_); refine And.intro ?_ ?_) | with_reducible refine r_cnd ?_ ?_) <;> intro hc <;> try simp only [push_cast, Int.reduceEq, Int.reduceLT, Int.reduceLE, Int.reduceNe] at hc | with_reducible refine r_rq (by first | decide | omega) ?_ | ((with_reducible first | apply i_lds | apply i_ldsq | apply i_ld | apply i_ldq); exact rfl) | ((with_reducible first | apply i_ldn | apply i_ldnq); exact rfl; exact rfl; exact rfl) | (with_reducible first | refine r_ph0 ?_ | apply i_kp0) | ((with_reducible first | apply i_st | apply i_stl); (focus simp); exact rfl) | ((try with_reducible refine d_reg ?_); simp only [go_sem, Nat.reduceAdd, Nat.reduceEqDiff, Int.reduceToNat, Nat.reduceMul, Nat.reduceSub]) | clear hK K)
        refine i_clp (f69 s (by omega)) ?_
        repeat' (first | (with_reducible first | (refine d_seq ?_; intro K hK) | (refine hK _ _ ?_; clear hK K) | refine d_blk ?_ | refine d_rt0 ?_ | refine d_sk0 ?_ | refine d_ex0 ?_ | (refine r_nwc ?_; intro b)) | (first | ((with_reducible refine d_cnd ?_); refine And.intro ?_ ?_) | with_reducible refine r_cnd ?_ ?_) <;> intro hc <;> try simp only [push_cast, Int.reduceEq, Int.reduceLT, Int.reduceLE, Int.reduceNe] at hc | with_reducible refine r_rq (by first | decide | omega) ?_ | ((with_reducible first | apply i_lds | apply i_ldsq | apply i_ld | apply i_ldq); exact rfl) | ((with_reducible first | apply i_ldn | apply i_ldnq); exact rfl; exact rfl; exact rfl) | (with_reducible first | refine r_ph0 ?_ | apply i_kp0) | ((with_reducible first | apply i_st | apply i_stl); (focus simp); exact rfl) | ((try with_reducible refine d_reg ?_); simp only [go_sem, Nat.reduceAdd, Nat.reduceEqDiff, Int.reduceToNat, Nat.reduceMul, Nat.reduceSub]) | clear hK K)
        refine i_mu (ε := eS) (v := wh s) [] rfl (by kernel_rfl) ?_
        repeat' (first | (with_reducible first | (refine d_seq ?_; intro K hK) | (refine hK _ _ ?_; clear hK K) | refine d_blk ?_ | refine d_rt0 ?_ | refine d_sk0 ?_ | refine d_ex0 ?_ | (refine r_nwc ?_; intro b)) | (first | ((with_reducible refine d_cnd ?_); refine And.intro ?_ ?_) | with_reducible refine r_cnd ?_ ?_) <;> intro hc <;> try simp only [push_cast, Int.reduceEq, Int.reduceLT, Int.reduceLE, Int.reduceNe] at hc | with_reducible refine r_rq (by first | decide | omega) ?_ | ((with_reducible first | apply i_lds | apply i_ldsq | apply i_ld | apply i_ldq); exact rfl) | ((with_reducible first | apply i_ldn | apply i_ldnq); exact rfl; exact rfl; exact rfl) | (with_reducible first | refine r_ph0 ?_ | apply i_kp0) | ((with_reducible first | apply i_st | apply i_stl); (focus simp); exact rfl) | ((try with_reducible refine d_reg ?_); simp only [go_sem, Nat.reduceAdd, Nat.reduceEqDiff, Int.reduceToNat, Nat.reduceMul, Nat.reduceSub]) | clear hK K)
        simp only [Dk.put]
        (with_reducible first | apply i_ret0 | apply i_ret2 | apply i_ret3 | apply i_ret); exact rfl
        rfl
      · (with_reducible first | apply i_ret0 | apply i_ret2 | apply i_ret3 | apply i_ret); exact rfl
        rfl
  · simp only [h0, if_false]
    intro L
    refine c24_fn rfl rfl ?_
    simp only [Dk.p]
    repeat' ((fail_if_success with_reducible refine nph ?_); first | (with_reducible first | (refine d_seq ?_; intro K hK) | (refine hK _ _ ?_; clear hK K) | refine d_blk ?_ | refine d_rt0 ?_ | refine d_sk0 ?_ | refine d_ex0 ?_ | (refine r_nwc ?_; intro b)) | (first | ((with_reducible refine d_cnd ?_); refine And.intro ?_ ?_) | with_reducible refine r_cnd ?_ ?_) <;> intro hc <;> try simp only [push_cast, Int.reduceEq, Int.reduceLT, Int.reduceLE, Int.reduceNe] at hc | with_reducible refine r_rq (by first | decide | omega) ?_ | ((with_reducible first | apply i_lds | apply i_ldsq | apply i_ld | apply i_ldq); exact rfl) | ((with_reducible first | apply i_ldn | apply i_ldnq); exact rfl; exact rfl; exact rfl) | (with_reducible first | refine r_ph0 ?_ | apply i_kp0) | ((with_reducible first | apply i_st | apply i_stl); (focus simp); exact rfl) | ((try with_reducible refine d_reg ?_); simp only [go_sem, Nat.reduceAdd, Nat.reduceEqDiff, Int.reduceToNat, Nat.reduceMul, Nat.reduceSub]) | clear hK K)
    refine i_clp (f67 D h i) ?_
    repeat' ((fail_if_success with_reducible refine nph ?_); first | (with_reducible first | (refine d_seq ?_; intro K hK) | (refine hK _ _ ?_; clear hK K) | refine d_blk ?_ | refine d_rt0 ?_ | refine d_sk0 ?_ | refine d_ex0 ?_ | (refine r_nwc ?_; intro b)) | (first | ((with_reducible refine d_cnd ?_); refine And.intro ?_ ?_) | with_reducible refine r_cnd ?_ ?_) <;> intro hc <;> try simp only [push_cast, Int.reduceEq, Int.reduceLT, Int.reduceLE, Int.reduceNe] at hc | with_reducible refine r_rq (by first | decide | omega) ?_ | ((with_reducible first | apply i_lds | apply i_ldsq | apply i_ld | apply i_ldq); exact rfl) | ((with_reducible first | apply i_ldn | apply i_ldnq); exact rfl; exact rfl; exact rfl) | (with_reducible first | refine r_ph0 ?_ | apply i_kp0) | ((with_reducible first | apply i_st | apply i_stl); (focus simp); exact rfl) | ((try with_reducible refine d_reg ?_); simp only [go_sem, Nat.reduceAdd, Nat.reduceEqDiff, Int.reduceToNat, Nat.reduceMul, Nat.reduceSub]) | clear hK K)
    all_goals first | contradiction | omega | ((with_reducible first | apply i_ret0 | apply i_ret2 | apply i_ret3 | apply i_ret); exact rfl; rfl)
end Go.Sp
/- The disk: what was written last lasts. -/
namespace Go.Sp
open Go Go.Proofs
set_option linter.unusedSimpArgs false
set_option linter.unusedVariables false
set_option maxRecDepth 10000
theorem toN1 {a : Int} {j : Nat} (h : a = (j : Int)) : a.toNat = j := by omega
theorem toN2 {a : Int} {j : Nat} (h0 : 0 ≤ a) (h : ¬ a = (j : Int)) : a.toNat ≠ j := by omega
theorem toN3 {a : Int} {n : Nat} (h0 : 0 ≤ a ∧ a < (n : Int)) : a.toNat < n := by omega
theorem pk_keys (es : Ents eI eS) (k : Int) (v : List UInt8) (c : Nat) : (pk es k v c).map (·.1) = if gk es k = none then es.map (·.1) ++ [k] else es.map (·.1) := by
  induction es with
  | nil => simp [pk, gk]
  | cons x r ih =>
    by_cases h : x.1 = k
    · simp [pk, gk, h]
    · simp only [pk, gk, h, if_false, List.map_cons, ih]
      split <;> simp
theorem pk_born (es : Ents eI eS) (k : Int) (v : List UInt8) (c : Nat) : (pk es k v c).map (·.2.2) = if gk es k = none then es.map (·.2.2) ++ [c] else es.map (·.2.2) := by
  induction es with
  | nil => simp [pk, gk]
  | cons x r ih =>
    by_cases h : x.1 = k
    · simp [pk, gk, h]
    · simp only [pk, gk, h, if_false, List.map_cons, ih]
      split <;> simp
theorem pk_mem {es : Ents eI eS} {k : Int} {v : List UInt8} {c : Nat} {x : Int × List UInt8 × Nat} (h : x ∈ pk es k v c) : x ∈ es ∨ (x.1 = k ∧ x.2.1 = v) := by
  induction es with
  | nil => simp [pk] at h; right; simp [h]
  | cons y r ih =>
    unfold pk at h
    split at h
    · rcases List.mem_cons.1 h with rfl | h
      · right; simp
      · left; simp [h]
    · rcases List.mem_cons.1 h with rfl | h
      · left; simp
      · rcases ih h with h | h
        · left; simp [h]
        · right; exact h
theorem gk_some {es : Ents eI eS} {k : Int} (h : ¬ gk es k = none) : k ∈ es.map (·.1) := by
  cases hg : gk es k with
  | none => exact absurd hg h
  | some v => obtain ⟨x, hx, e, _⟩ := gk_mem hg; exact List.mem_map.2 ⟨x, hx, e⟩
theorem Dk.put_ok {D : Dk} (h : D.ok) {i : Int} (h0 : 0 ≤ i) (h1 : i < D.sure.length) {s : List UInt8} (hs : s.length = 64) : (D.put i s).ok := by
  obtain ⟨g1, g2, g3, g4, g5, g6, g7, g8, g9, g10⟩ := h
  have hb : ∀ b ∈ (pk D.es i s D.c).map (·.2.2), b < ck D.es i D.c := by
    intro b hb
    rw [pk_born] at hb
    unfold ck
    split at hb
    · rename_i hn
      rw [if_pos hn]
      rcases List.mem_append.1 hb with hb | hb
      · obtain ⟨x, hx, rfl⟩ := List.mem_map.1 hb
        have := g6 x hx; omega
      · simp at hb; omega
    · rename_i hn
      rw [if_neg hn]
      obtain ⟨x, hx, rfl⟩ := List.mem_map.1 hb
      exact g6 x hx
  refine ⟨g1, g2, g3, ?_, ?_, fun x hx => hb _ (List.mem_map.2 ⟨x, hx, rfl⟩), ?_, ?_, g9, g10⟩
  · intro x hx
    rcases pk_mem hx with hx | ⟨_, rfl⟩
    · exact g4 x hx
    · exact hs
  · intro x hx
    rcases pk_mem hx with hx | ⟨rfl, _⟩
    · exact g5 x hx
    · exact ⟨h0, h1⟩
  · refine (congrArg List.Nodup (pk_keys D.es i s D.c)).mpr ?_
    split
    · rename_i hn
      rw [List.nodup_append]
      refine ⟨g7, by simp, ?_⟩
      intro a ha b hb' e
      simp at hb'
      obtain ⟨x, hx, rfl⟩ := List.mem_map.1 ha
      exact gk_none hn x hx (e.trans hb')
    · exact g7
  · refine (congrArg List.Nodup (pk_born D.es i s D.c)).mpr ?_
    split
    · rw [List.nodup_append]
      refine ⟨g8, by simp, ?_⟩
      intro a ha b hb' e
      simp at hb'
      obtain ⟨x, hx, rfl⟩ := List.mem_map.1 ha
      have := g6 x hx
      omega
    · exact g8
theorem Dk.act_len (D : Dk) : D.act.2.sure.length = D.sure.length := by
  unfold Dk.act
  split
  · exact Dk.cutn_len D _ _
  · rfl
theorem Dk.write_ok {D : Dk} (h : D.ok) (i : Int) (s : List UInt8) : (D.write i s).2.ok := by
  unfold Dk.write
  split
  · rename_i h0
    have := Dk.chk_ok h0
    split
    · exact h
    · split
      · exact Dk.put_ok (Dk.act_ok h) this.2.1 (by rw [Dk.act_len]; exact this.2.2) (wh_len (by omega))
      · exact Dk.act_ok h
  · exact h
/-- Sectors written one by one. -/
def sy (S : Ents eI eS) (l : List (List UInt8)) : List (List UInt8) := S.foldl (fun s x => s.set x.1.toNat x.2.1) l
theorem sy_snoc (S : Ents eI eS) (x : Int × List UInt8 × Nat) (l : List (List UInt8)) : sy (S ++ [x]) l = (sy S l).set x.1.toNat x.2.1 := by simp [sy]
theorem sy_len (S : Ents eI eS) (l : List (List UInt8)) : (sy S l).length = l.length := by
  induction S generalizing l with
  | nil => rfl
  | cons x r ih => show (sy r (l.set x.1.toNat x.2.1)).length = _; rw [ih]; simp
theorem sy_get (S : Ents eI eS) : ∀ (l : List (List UInt8)) (_ : (S.map (·.1)).Nodup) (_ : ∀ x ∈ S, 0 ≤ x.1 ∧ x.1 < (l.length : Int)) (j : Nat) (_ : j < l.length), (sy S l)[j]? = some ((gk S (j : Int)).getD (l.getD j [])) := by
  induction S with
  | nil => intro l _ _ j hj; simp [sy, gk, hj]
  | cons x r ih =>
    intro l hn hr j hj
    rw [List.map_cons, List.nodup_cons] at hn
    show (sy r (l.set x.1.toNat x.2.1))[j]? = _
    rw [ih _ hn.2 (fun y hy => by simpa using hr y (by simp [hy])) j (by simpa using hj)]
    have hx : (0 : Int) ≤ x.1 ∧ (x.1 : Int) < (l.length : Int) := hr x (by simp)
    by_cases h : x.1 = (j : Int)
    · have hg : gk r (j : Int) = none := by
        cases hg : gk r (j : Int) with
        | none => rfl
        | some v => exact absurd (h ▸ gk_some (by rw [hg]; simp)) hn.1
      have : x.1.toNat = j := toN1 h
      simp [gk, h, hg, hj]
    · have : x.1.toNat ≠ j := toN2 hx.1 h
      simp [gk, h, this]
theorem gk_perm {S es : Ents eI eS} (h : S.Perm es) (hn : (es.map (·.1)).Nodup) (k : Int) : gk S k = gk es k := by
  have hn' : (S.map (·.1)).Nodup := (h.map _).nodup_iff.2 hn
  have key : ∀ {A : Ents eI eS} {x : Int × List UInt8 × Nat}, (A.map (·.1)).Nodup → x ∈ A → gk A x.1 = some x.2.1 := by
    intro A x hA hx
    induction A with
    | nil => cases hx
    | cons y r ih =>
      rw [List.map_cons, List.nodup_cons] at hA
      by_cases e : y.1 = x.1
      · cases hx with
        | head => simp [gk]
        | tail _ hx => exact absurd (List.mem_map.2 ⟨x, hx, e.symm⟩) hA.1
      · cases hx with
        | head => exact absurd rfl e
        | tail _ hx => simp only [gk, e, if_false]; exact ih hA.2 hx
  cases hg : gk es k with
  | none =>
    cases hs : gk S k with
    | none => rfl
    | some v =>
      obtain ⟨x, hx, e, _⟩ := gk_mem hs
      exact absurd e (gk_none hg x (h.mem_iff.1 hx))
  | some v =>
    obtain ⟨x, hx, rfl, rfl⟩ := gk_mem hg
    exact key hn' (h.mem_iff.2 hx)
/-- All that was written last, lasting. -/
def Dk.flush (D : Dk) : Dk := { D with sure := sy D.es D.sure, es := [] }
theorem sy_perm {S es : Ents eI eS} {l : List (List UInt8)} (h : S.Perm es) (hn : (es.map (·.1)).Nodup) (hr : ∀ x ∈ es, 0 ≤ x.1 ∧ x.1 < (l.length : Int)) : sy S l = sy es l := by
  apply List.ext_getElem?
  intro j
  by_cases hj : j < l.length
  · rw [sy_get S l ((h.map _).nodup_iff.2 hn) (fun x hx => hr x (h.mem_iff.1 hx)) j hj, sy_get es l hn hr j hj, gk_perm h hn]
  · rw [List.getElem?_eq_none (by rw [sy_len]; omega), List.getElem?_eq_none (by rw [sy_len]; omega)]
def Dk.sync (D : Dk) : Int × Dk := if D.chk 0 = 0 then (if D.act.1 = 0 then (0, D.act.2.flush) else (D.act.1, D.act.2)) else (D.chk 0, D)
theorem f28 (D : Dk) (h : D.ok) : Fq eI Tryz.prog 79 #[D.p] (dkl D) (dkl D.sync.2) D.sync.1 := by
  unfold Dk.sync
  by_cases h0 : D.chk 0 = 0
  · simp only [h0, if_true]
    by_cases h2 : D.act.1 = 0 <;> simp only [h2, if_true, if_false]
    all_goals
      intro L
      refine c79_fn rfl rfl ?_
      simp only [Dk.p]
      repeat' ((fail_if_success with_reducible refine nph ?_); first | (with_reducible first | (refine d_seq ?_; intro K hK) | (refine hK _ _ ?_; clear hK K) | refine d_blk ?_ | refine d_rt0 ?_ | refine d_sk0 ?_ | refine d_ex0 ?_ | (refine r_nwc ?_; intro b)) | (first | ((with_reducible refine d_cnd ?_); refine And.intro ?_ ?_) | with_reducible refine r_cnd ?_ ?_) <;> intro hc <;> try simp only [push_cast, Int.reduceEq, Int.reduceLT, Int.reduceLE, Int.reduceNe] at hc | with_reducible refine r_rq (by first | decide | omega) ?_ | ((with_reducible first | apply i_lds | apply i_ldsq | apply i_ld | apply i_ldq); exact rfl) | ((with_reducible first | apply i_ldn | apply i_ldnq); exact rfl; exact rfl; exact rfl) | (with_reducible first | refine r_ph0 ?_ | apply i_kp0) | ((with_reducible first | apply i_st | apply i_stl); (focus simp); exact rfl) | ((try with_reducible refine d_reg ?_); simp only [go_sem, Nat.reduceAdd, Nat.reduceEqDiff, Int.reduceToNat, Nat.reduceMul, Nat.reduceSub]) | clear hK K)
      refine i_clp (f67 D h 0) ?_
      simp only [h0]
      repeat' ((fail_if_success with_reducible refine nph ?_); first | (with_reducible first | (refine d_seq ?_; intro K hK) | (refine hK _ _ ?_; clear hK K) | refine d_blk ?_ | refine d_rt0 ?_ | refine d_sk0 ?_ | refine d_ex0 ?_ | (refine r_nwc ?_; intro b)) | (first | ((with_reducible refine d_cnd ?_); refine And.intro ?_ ?_) | with_reducible refine r_cnd ?_ ?_) <;> intro hc <;> try simp only [push_cast, Int.reduceEq, Int.reduceLT, Int.reduceLE, Int.reduceNe] at hc | with_reducible refine r_rq (by first | decide | omega) ?_ | ((with_reducible first | apply i_lds | apply i_ldsq | apply i_ld | apply i_ldq); exact rfl) | ((with_reducible first | apply i_ldn | apply i_ldnq); exact rfl; exact rfl; exact rfl) | (with_reducible first | refine r_ph0 ?_ | apply i_kp0) | ((with_reducible first | apply i_st | apply i_stl); (focus simp); exact rfl) | ((try with_reducible refine d_reg ?_); simp only [go_sem, Nat.reduceAdd, Nat.reduceEqDiff, Int.reduceToNat, Nat.reduceMul, Nat.reduceSub]) | clear hK K)
      all_goals try (first | contradiction | (exfalso; omega))
      refine i_clq (f68 D h) ?_
      try simp only [h2]
      repeat' ((fail_if_success with_reducible refine nph ?_); first | (with_reducible first | (refine d_seq ?_; intro K hK) | (refine hK _ _ ?_; clear hK K) | refine d_blk ?_ | refine d_rt0 ?_ | refine d_sk0 ?_ | refine d_ex0 ?_ | (refine r_nwc ?_; intro b)) | (first | ((with_reducible refine d_cnd ?_); refine And.intro ?_ ?_) | with_reducible refine r_cnd ?_ ?_) <;> intro hc <;> try simp only [push_cast, Int.reduceEq, Int.reduceLT, Int.reduceLE, Int.reduceNe] at hc | with_reducible refine r_rq (by first | decide | omega) ?_ | ((with_reducible first | apply i_lds | apply i_ldsq | apply i_ld | apply i_ldq); exact rfl) | ((with_reducible first | apply i_ldn | apply i_ldnq); exact rfl; exact rfl; exact rfl) | (with_reducible first | refine r_ph0 ?_ | apply i_kp0) | ((with_reducible first | apply i_st | apply i_stl); (focus simp); exact rfl) | ((try with_reducible refine d_reg ?_); simp only [go_sem, Nat.reduceAdd, Nat.reduceEqDiff, Int.reduceToNat, Nat.reduceMul, Nat.reduceSub]) | clear hK K)
      all_goals try (first | contradiction | (exfalso; omega))
    · have hsb := Dk.act_sb D
      have hA := Dk.act_ok h
      generalize D.act.2 = A at *
      simp only [← hsb]
      repeat' (first | (with_reducible first | (refine d_seq ?_; intro K hK) | (refine hK _ _ ?_; clear hK K) | refine d_blk ?_ | refine d_rt0 ?_ | refine d_sk0 ?_ | refine d_ex0 ?_ | (refine r_nwc ?_; intro b)) | (first | ((with_reducible refine d_cnd ?_); refine And.intro ?_ ?_) | with_reducible refine r_cnd ?_ ?_) <;> intro hc <;> try simp only [push_cast, Int.reduceEq, Int.reduceLT, Int.reduceLE, Int.reduceNe] at hc | with_reducible refine r_rq (by first | decide | omega) ?_ | ((with_reducible first | apply i_lds | apply i_ldsq | apply i_ld | apply i_ldq); exact rfl) | ((with_reducible first | apply i_ldn | apply i_ldnq); exact rfl; exact rfl; exact rfl) | (with_reducible first | refine r_ph0 ?_ | apply i_kp0) | ((with_reducible first | apply i_st | apply i_stl); (focus simp); exact rfl) | ((try with_reducible refine d_reg ?_); simp only [go_sem, Nat.reduceAdd, Nat.reduceEqDiff, Int.reduceToNat, Nat.reduceMul, Nat.reduceSub]) | clear hK K)
      refine i_mrng (κ := eI) (ε := eS) (a := 3) (b := 9) (by kernel_rfl) fun it => ?_
      repeat' (first | (with_reducible first | (refine d_seq ?_; intro K hK) | (refine hK _ _ ?_; clear hK K) | refine d_blk ?_ | refine d_rt0 ?_ | refine d_sk0 ?_ | refine d_ex0 ?_ | (refine r_nwc ?_; intro b)) | (first | ((with_reducible refine d_cnd ?_); refine And.intro ?_ ?_) | with_reducible refine r_cnd ?_ ?_) <;> intro hc <;> try simp only [push_cast, Int.reduceEq, Int.reduceLT, Int.reduceLE, Int.reduceNe] at hc | with_reducible refine r_rq (by first | decide | omega) ?_ | ((with_reducible first | apply i_lds | apply i_ldsq | apply i_ld | apply i_ldq); exact rfl) | ((with_reducible first | apply i_ldn | apply i_ldnq); exact rfl; exact rfl; exact rfl) | (with_reducible first | refine r_ph0 ?_ | apply i_kp0) | ((with_reducible first | apply i_st | apply i_stl); (focus simp); exact rfl) | ((try with_reducible refine d_reg ?_); simp only [go_sem, Nat.reduceAdd, Nat.reduceEqDiff, Int.reduceToNat, Nat.reduceMul, Nat.reduceSub]) | clear hK K)
      refine d_lp [0, 21] (fun s : Ents eI eS × Ents eI eS => [(0, .pointer (some ⟨A.sb, 0, none⟩)), (21, .pointer (some ⟨it, 0, none⟩))])
        (fun s => blk it (.mapIter (some A.mb) A.c (sn s.1) A.c) :: ar A.sb 108 A.hd :: ar A.bb 9 ((sy s.1 A.sure).map fun s => str s) :: mp eI eS A.mb A.es A.c :: L) (fun s => Rg A.es s.1 s.2) (fun s => s.2.length) ([], A.es) rfl ?_ (Rg.start _) ?_
      · show Sub (blk it (.mapIter (some A.mb) A.c #[] A.c) :: (dkl A ++ L)) _
        exact SX.p
      rintro ⟨S, R⟩ hR
      dsimp only at hR ⊢
      repeat' (first | (with_reducible first | (refine d_seq ?_; intro K hK) | (refine hK _ _ ?_; clear hK K) | refine d_blk ?_ | refine d_rt0 ?_ | refine d_sk0 ?_ | refine d_ex0 ?_ | (refine r_nwc ?_; intro b)) | (first | ((with_reducible refine d_cnd ?_); refine And.intro ?_ ?_) | with_reducible refine r_cnd ?_ ?_) <;> intro hc <;> try simp only [push_cast, Int.reduceEq, Int.reduceLT, Int.reduceLE, Int.reduceNe] at hc | with_reducible refine r_rq (by first | decide | omega) ?_ | ((with_reducible first | apply i_lds | apply i_ldsq | apply i_ld | apply i_ldq); exact rfl) | ((with_reducible first | apply i_ldn | apply i_ldnq); exact rfl; exact rfl; exact rfl) | (with_reducible first | refine r_ph0 ?_ | apply i_kp0) | ((with_reducible first | apply i_st | apply i_stl); (focus simp); exact rfl) | ((try with_reducible refine d_reg ?_); simp only [go_sem, Nat.reduceAdd, Nat.reduceEqDiff, Int.reduceToNat, Nat.reduceMul, Nat.reduceSub]) | clear hK K)
      refine i_mnx (κ := eI) (ε := eS) hA.ec (Nat.le_refl _) (fun ha => ?_) fun x hx hn => ?_
      · repeat' (first | (with_reducible first | (refine d_seq ?_; intro K hK) | (refine hK _ _ ?_; clear hK K) | refine d_blk ?_ | refine d_rt0 ?_ | refine d_sk0 ?_ | refine d_ex0 ?_ | (refine r_nwc ?_; intro b)) | (first | ((with_reducible refine d_cnd ?_); refine And.intro ?_ ?_) | with_reducible refine r_cnd ?_ ?_) <;> intro hc <;> try simp only [push_cast, Int.reduceEq, Int.reduceLT, Int.reduceLE, Int.reduceNe] at hc | with_reducible refine r_rq (by first | decide | omega) ?_ | ((with_reducible first | apply i_lds | apply i_ldsq | apply i_ld | apply i_ldq); exact rfl) | ((with_reducible first | apply i_ldn | apply i_ldnq); exact rfl; exact rfl; exact rfl) | (with_reducible first | refine r_ph0 ?_ | apply i_kp0) | ((with_reducible first | apply i_st | apply i_stl); (focus simp); exact rfl) | ((try with_reducible refine d_reg ?_); simp only [go_sem, Nat.reduceAdd, Nat.reduceEqDiff, Int.reduceToNat, Nat.reduceMul, Nat.reduceSub]) | clear hK K)
        obtain rfl := hR.done hA.bn ha
        have hS : S.Perm A.es := by have := hR; unfold Rg at this; simpa using this
        have e := sy_perm hS hA.kn hA.ei
        refine i_mclr (κ := eI) (ε := eS) (a := 3) (b := 9) (by kernel_rfl) ?_
        repeat' (first | (with_reducible first | (refine d_seq ?_; intro K hK) | (refine hK _ _ ?_; clear hK K) | refine d_blk ?_ | refine d_rt0 ?_ | refine d_sk0 ?_ | refine d_ex0 ?_ | (refine r_nwc ?_; intro b)) | (first | ((with_reducible refine d_cnd ?_); refine And.intro ?_ ?_) | with_reducible refine r_cnd ?_ ?_) <;> intro hc <;> try simp only [push_cast, Int.reduceEq, Int.reduceLT, Int.reduceLE, Int.reduceNe] at hc | with_reducible refine r_rq (by first | decide | omega) ?_ | ((with_reducible first | apply i_lds | apply i_ldsq | apply i_ld | apply i_ldq); exact rfl) | ((with_reducible first | apply i_ldn | apply i_ldnq); exact rfl; exact rfl; exact rfl) | (with_reducible first | refine r_ph0 ?_ | apply i_kp0) | ((with_reducible first | apply i_st | apply i_stl); (focus simp); exact rfl) | ((try with_reducible refine d_reg ?_); simp only [go_sem, Nat.reduceAdd, Nat.reduceEqDiff, Int.reduceToNat, Nat.reduceMul, Nat.reduceSub]) | clear hK K)
        simp only [Dk.flush, dkl, Dk.hd, sy_len]
        rw [e]
        (with_reducible first | apply i_ret0 | apply i_ret2 | apply i_ret3 | apply i_ret); exact rfl
        rfl
      · repeat' (first | (with_reducible first | (refine d_seq ?_; intro K hK) | (refine hK _ _ ?_; clear hK K) | refine d_blk ?_ | refine d_rt0 ?_ | refine d_sk0 ?_ | refine d_ex0 ?_ | (refine r_nwc ?_; intro b)) | (first | ((with_reducible refine d_cnd ?_); refine And.intro ?_ ?_) | with_reducible refine r_cnd ?_ ?_) <;> intro hc <;> try simp only [push_cast, Int.reduceEq, Int.reduceLT, Int.reduceLE, Int.reduceNe] at hc | with_reducible refine r_rq (by first | decide | omega) ?_ | ((with_reducible first | apply i_lds | apply i_ldsq | apply i_ld | apply i_ldq); exact rfl) | ((with_reducible first | apply i_ldn | apply i_ldnq); exact rfl; exact rfl; exact rfl) | (with_reducible first | refine r_ph0 ?_ | apply i_kp0) | ((with_reducible first | apply i_st | apply i_stl); (focus simp); exact rfl) | ((try with_reducible refine d_reg ?_); simp only [go_sem, Nat.reduceAdd, Nat.reduceEqDiff, Int.reduceToNat, Nat.reduceMul, Nat.reduceSub]) | clear hK K)
        rw [sn_push]
        refine i_ment hx hA.bn ?_
        have hi : (0 : Int) ≤ x.1 ∧ (x.1 : Int) < (A.sure.length : Int) := hA.ei x hx
        have hl := sy_len S A.sure
        obtain ⟨R', hlt, hst⟩ := hR.step hx hn
        repeat' (first | (with_reducible first | (refine d_seq ?_; intro K hK) | (refine hK _ _ ?_; clear hK K) | refine d_blk ?_ | refine d_rt0 ?_ | refine d_sk0 ?_ | refine d_ex0 ?_ | (refine r_nwc ?_; intro b)) | (first | ((with_reducible refine d_cnd ?_); refine And.intro ?_ ?_) | with_reducible refine r_cnd ?_ ?_) <;> intro hc <;> try simp only [push_cast, Int.reduceEq, Int.reduceLT, Int.reduceLE, Int.reduceNe] at hc | with_reducible refine r_rq (by first | decide | omega) ?_ | ((with_reducible first | apply i_lds | apply i_ldsq | apply i_ld | apply i_ldq); exact rfl) | ((with_reducible first | apply i_ldn | apply i_ldnq); exact rfl; exact rfl; exact rfl) | (with_reducible first | refine r_ph0 ?_ | apply i_kp0) | ((with_reducible first | apply i_st | apply i_stl); (focus simp); exact rfl) | ((try with_reducible refine d_reg ?_); simp only [go_sem, Nat.reduceAdd, Nat.reduceEqDiff, Int.reduceToNat, Nat.reduceMul, Nat.reduceSub]) | clear hK K)
        refine i_st (by rw [List.length_map, hl]; exact toN3 hi) rfl ?_
        rw [← List.map_set, ← sy_snoc]
        repeat' (first | (with_reducible first | (refine d_seq ?_; intro K hK) | (refine hK _ _ ?_; clear hK K) | refine d_blk ?_ | refine d_rt0 ?_ | refine d_sk0 ?_ | refine d_ex0 ?_ | (refine r_nwc ?_; intro b)) | (first | ((with_reducible refine d_cnd ?_); refine And.intro ?_ ?_) | with_reducible refine r_cnd ?_ ?_) <;> intro hc <;> try simp only [push_cast, Int.reduceEq, Int.reduceLT, Int.reduceLE, Int.reduceNe] at hc | with_reducible refine r_rq (by first | decide | omega) ?_ | ((with_reducible first | apply i_lds | apply i_ldsq | apply i_ld | apply i_ldq); exact rfl) | ((with_reducible first | apply i_ldn | apply i_ldnq); exact rfl; exact rfl; exact rfl) | (with_reducible first | refine r_ph0 ?_ | apply i_kp0) | ((with_reducible first | apply i_st | apply i_stl); (focus simp); exact rfl) | ((try with_reducible refine d_reg ?_); simp only [go_sem, Nat.reduceAdd, Nat.reduceEqDiff, Int.reduceToNat, Nat.reduceMul, Nat.reduceSub]) | clear hK K)
        exact i_bk (S ++ [x], R') rfl hst hlt
    · (with_reducible first | apply i_ret0 | apply i_ret2 | apply i_ret3 | apply i_ret); exact rfl
      rfl
  · simp only [h0, if_false]
    intro L
    refine c79_fn rfl rfl ?_
    simp only [Dk.p]
    repeat' ((fail_if_success with_reducible refine nph ?_); first | (with_reducible first | (refine d_seq ?_; intro K hK) | (refine hK _ _ ?_; clear hK K) | refine d_blk ?_ | refine d_rt0 ?_ | refine d_sk0 ?_ | refine d_ex0 ?_ | (refine r_nwc ?_; intro b)) | (first | ((with_reducible refine d_cnd ?_); refine And.intro ?_ ?_) | with_reducible refine r_cnd ?_ ?_) <;> intro hc <;> try simp only [push_cast, Int.reduceEq, Int.reduceLT, Int.reduceLE, Int.reduceNe] at hc | with_reducible refine r_rq (by first | decide | omega) ?_ | ((with_reducible first | apply i_lds | apply i_ldsq | apply i_ld | apply i_ldq); exact rfl) | ((with_reducible first | apply i_ldn | apply i_ldnq); exact rfl; exact rfl; exact rfl) | (with_reducible first | refine r_ph0 ?_ | apply i_kp0) | ((with_reducible first | apply i_st | apply i_stl); (focus simp); exact rfl) | ((try with_reducible refine d_reg ?_); simp only [go_sem, Nat.reduceAdd, Nat.reduceEqDiff, Int.reduceToNat, Nat.reduceMul, Nat.reduceSub]) | clear hK K)
    refine i_clp (f67 D h 0) ?_
    repeat' ((fail_if_success with_reducible refine nph ?_); first | (with_reducible first | (refine d_seq ?_; intro K hK) | (refine hK _ _ ?_; clear hK K) | refine d_blk ?_ | refine d_rt0 ?_ | refine d_sk0 ?_ | refine d_ex0 ?_ | (refine r_nwc ?_; intro b)) | (first | ((with_reducible refine d_cnd ?_); refine And.intro ?_ ?_) | with_reducible refine r_cnd ?_ ?_) <;> intro hc <;> try simp only [push_cast, Int.reduceEq, Int.reduceLT, Int.reduceLE, Int.reduceNe] at hc | with_reducible refine r_rq (by first | decide | omega) ?_ | ((with_reducible first | apply i_lds | apply i_ldsq | apply i_ld | apply i_ldq); exact rfl) | ((with_reducible first | apply i_ldn | apply i_ldnq); exact rfl; exact rfl; exact rfl) | (with_reducible first | refine r_ph0 ?_ | apply i_kp0) | ((with_reducible first | apply i_st | apply i_stl); (focus simp); exact rfl) | ((try with_reducible refine d_reg ?_); simp only [go_sem, Nat.reduceAdd, Nat.reduceEqDiff, Int.reduceToNat, Nat.reduceMul, Nat.reduceSub]) | clear hK K)
    all_goals first | contradiction | omega | ((with_reducible first | apply i_ret0 | apply i_ret2 | apply i_ret3 | apply i_ret); exact rfl; rfl)
theorem Dk.flush_ok {D : Dk} (h : D.ok) : D.flush.ok := by
  obtain ⟨g1, g2, g3, g4, g5, g6, g7, g8, g9, g10⟩ := h
  have hl := sy_len D.es D.sure
  constructor <;> simp only [Dk.flush, hl] <;> first | assumption | skip
  · intro s hs
    obtain ⟨j, hj⟩ := List.getElem?_of_mem hs
    have hj' : j < D.sure.length := by
      rw [← hl]
      rcases Nat.lt_or_ge j (sy D.es D.sure).length with h | h
      · exact h
      · rw [List.getElem?_eq_none h] at hj; cases hj
    rw [sy_get _ _ g7 g5 j hj'] at hj
    cases hg : gk D.es (j : Int) with
    | none => rw [hg] at hj; simp only [Option.getD_none, Option.some.injEq] at hj; subst hj; exact g3 _ (by simp [hj'])
    | some v =>
      obtain ⟨x, hx, _, rfl⟩ := gk_mem hg
      rw [hg] at hj
      simp only [Option.getD_some, Option.some.injEq] at hj
      subst hj
      have := g4 x hx
      omega
  all_goals simp
theorem Dk.get_len {D : Dk} (h : D.ok) {i : Int} (hi : D.chk i = 0) : (D.get i).length = 64 := by
  have hk := Dk.chk_ok hi
  unfold Dk.get
  cases hg : gk D.es i with
  | some v => obtain ⟨x, hx, _, rfl⟩ := gk_mem hg; exact h.e64 x hx
  | none =>
    have : i.toNat < D.sure.length := by omega
    exact wh_len (h.l64 _ (by simp [this]))
theorem Dk.sync_ok {D : Dk} (h : D.ok) : D.sync.2.ok := by
  unfold Dk.sync
  split
  · split
    · exact Dk.flush_ok (Dk.act_ok h)
    · exact Dk.act_ok h
  · exact h
end Go.Sp
/- The disk as one part; the layer's example. -/
namespace Go.Sp
open Go Go.Proofs
set_option linter.unusedSimpArgs false
set_option linter.unusedVariables false
set_option maxRecDepth 10000
def dk (D : Dk) : HP := HS (dkl D)
theorem fo {e : Enc} {P : Program} {f : FuncId} {args : Array Value} {x : e.α} {D D' : Dk} (h : Fq e P f args (dkl D) (dkl D') x) : Fq e P f args [dk D] [dk D'] x :=
  Fq.fold (A := dkl D) (B := dkl D') (C := []) (by simpa using h)
theorem F26 (D : Dk) (h : D.ok) : Fp eI Tryz.prog 99 #[D.p] [dk D] (D.sure.length : Int) := fo (f26 D h)
theorem F31 (D : Dk) (h : D.ok) (i : Int) : Fp (eT2 eS eI) Tryz.prog 22 #[D.p, .int .i64 i] [dk D] (if D.chk i = 0 then D.get i else [], D.chk i) := fo (f31 D h i)
def Dk.on (D : Dk) : Dk := { D with up := true }
theorem Dk.on_ok {D : Dk} (h : D.ok) : D.on.ok := by
  obtain ⟨g1, g2, g3, g4, g5, g6, g7, g8, g9, g10⟩ := h
  exact ⟨g1, g2, g3, g4, g5, g6, g7, g8, g9, g10⟩
theorem F30 (D : Dk) (h : D.ok) : Fq eI Tryz.prog 64 #[D.p] [dk D] [dk D.on] (if D.up then 19 else 0) := fo (f30 D h)
theorem F29 (D : Dk) (h : D.ok) (keep : Int) : Fq eI Tryz.prog 62 #[D.p, .int .u64 keep] [dk D] [dk (if D.chk 0 = 0 then D.off keep else D)] (D.chk 0) := fo (f29 D h keep)
theorem F27 (D : Dk) (h : D.ok) (i : Int) (s : List UInt8) : Fq eI Tryz.prog 24 #[D.p, .int .i64 i, str s] [dk D] [dk (D.write i s).2] (D.write i s).1 := fo (f27 D h i s)
theorem F28 (D : Dk) (h : D.ok) : Fq eI Tryz.prog 79 #[D.p] [dk D] [dk D.sync.2] D.sync.1 := fo (f28 D h)
theorem F25 (n : Nat) (h0 : 0 < n) (h1 : n ≤ 8192) : Fn (eT2 eP eI) Tryz.prog 16 #[.int .i64 (n : Int)] [] fun y X => ∃ sb bb mb, y = (some ⟨sb, 0, none⟩, 0) ∧ X = [dk (Dk.new sb bb mb n)] := fun L w hw => by
  refine (f25 n h0 h1 L w hw).mono ?_
  rintro _ w' ⟨x, he, X, ⟨sb, bb, mb, rfl, rfl⟩, hX⟩
  exact ⟨_, he, _, ⟨sb, bb, mb, rfl, rfl⟩, Holds.close hX⟩
theorem Dk.write_go {D : Dk} {i : Int} {s : List UInt8} (h0 : D.chk i = 0) (hs : s.length ≤ 64) (hf : D.fuse < 0) : D.write i s = (0, Dk.put { D with acts := IntKind.wrap .i64 (D.acts + 1) } i (wh s)) := by
  have e : D.act = (0, { D with acts := IntKind.wrap .i64 (D.acts + 1) }) := by
    unfold Dk.act
    rw [if_neg (by omega), if_neg (by omega)]
  unfold Dk.write
  rw [if_pos h0, if_neg (by omega), e, if_pos rfl]
end Go.Sp
/- The disk: what is read behind writes, syncs and losses. -/
namespace Go.Sp
open Go Go.Proofs
set_option linter.unusedSimpArgs false
set_option linter.unusedVariables false
theorem gk_pk (es : Ents eI eS) (i j : Int) (v : List UInt8) (c : Nat) : gk (pk es i v c) j = if i = j then some v else gk es j := by
  induction es with
  | nil => simp [pk, gk]
  | cons x r ih =>
    by_cases h : x.1 = i
    · simp only [pk, h, if_true, gk]
      by_cases hj : i = j
      · simp [hj]
      · simp [hj]
    · simp only [pk, h, if_false, gk, ih]
      by_cases hx : x.1 = j
      · have : ¬ i = j := fun e => h (hx.trans e.symm)
        simp [hx, this]
      · simp [hx]
theorem Dk.sync_go {D : Dk} (h0 : D.chk 0 = 0) (hf : D.fuse < 0) : D.sync = (0, Dk.flush { D with acts := IntKind.wrap .i64 (D.acts + 1) }) := by
  have e : D.act = (0, { D with acts := IntKind.wrap .i64 (D.acts + 1) }) := by
    unfold Dk.act
    rw [if_neg (by omega), if_neg (by omega)]
  unfold Dk.sync
  rw [if_pos h0, e, if_pos rfl]
theorem Dk.flush_get {D : Dk} (h : D.ok) {j : Nat} (hj : j < D.sure.length) : D.flush.get (j : Int) = D.get (j : Int) := by
  have e : (sy D.es D.sure).getD j [] = (gk D.es (j : Int)).getD (D.sure.getD j []) := by
    rw [List.getD_eq_getElem?_getD, sy_get D.es D.sure h.kn h.ei j hj]
    rfl
  simp only [Dk.get, Dk.flush, gk, Option.getD_none, Int.toNat_natCast]
  rw [e]
  cases hg : gk D.es (j : Int) with
  | none => rfl
  | some v =>
    obtain ⟨x, hx, _, rfl⟩ := gk_mem hg
    exact wh_full (h.e64 x hx)
/-- Behind a loss each sector is as it was synced, or as it was written last. -/
theorem Dk.cut_or {D : Dk} (h : D.ok) (keep : Int) : ∀ (n : Nat) (_ : n ≤ D.keys.length) (j : Nat), (D.cutn keep n).getD j [] = D.sure.getD j [] ∨ gk D.es (j : Int) = some ((D.cutn keep n).getD j [])
  | 0, _, _ => .inl rfl
  | n + 1, hn, j => by
    have ih := Dk.cut_or h keep n (by omega) j
    unfold Dk.cutn
    split
    · have hk := Dk.keys_in h (n := n) (by omega)
      have hm : D.keys.getD n 0 ∈ D.es.map (·.1) := by
        rw [List.getD_eq_getElem?_getD, List.getElem?_eq_getElem (by omega)]
        exact (List.mergeSort_perm _ _).mem_iff.1 (List.getElem_mem _)
      generalize D.keys.getD n 0 = k at *
      by_cases hkj : k.toNat = j
      · right
        have hkj' : k = (j : Int) := by omega
        have hlt : j < (D.cutn keep n).length := by rw [Dk.cutn_len]; omega
        cases hg : gk D.es k with
        | none =>
          obtain ⟨x, hx, e⟩ := List.mem_map.1 hm
          exact absurd e (gk_none hg x hx)
        | some v =>
          subst hkj
          rw [← hkj', hg]
          simp [hlt]
      · have e : ((D.cutn keep n).set k.toNat ((gk D.es k).getD [])).getD j [] = (D.cutn keep n).getD j [] := by
          simp [List.getD_eq_getElem?_getD, List.getElem?_set, hkj]
        rw [e]
        exact ih
    · exact ih
end Go.Sp
/- The disk: many writes, a sync, many writes, a loss of power. -/
namespace Go.Sp
open Go Go.Proofs
set_option linter.unusedSimpArgs false
set_option linter.unusedVariables false
/-- The first texts of a list are written, each that has room. -/
def Dk.wr (D : Dk) (l : List (List UInt8)) : Nat → Dk
  | 0 => D
  | i + 1 => if (l.getD i []).length ≤ 64 then ((D.wr l i).write (i : Int) (l.getD i [])).2 else D.wr l i
/-- A disk that nothing lets go. -/
structure Dk.calm (D : Dk) (sb : Nat) (n : Nat) : Prop where
  ok : D.ok
  sb : D.sb = sb
  up : D.up = true
  fu : D.fuse < 0
  n : D.sure.length = n
theorem Dk.calm.chk {D : Dk} {sb n : Nat} (h : D.calm sb n) {i : Nat} (hi : i < n) : D.chk (i : Int) = 0 := by
  unfold Dk.chk
  rw [h.up, h.n, if_neg (by simp), if_neg (by omega)]
theorem Dk.calm.write {D : Dk} {sb n : Nat} (h : D.calm sb n) {i : Nat} (hi : i < n) {s : List UInt8} (hs : s.length ≤ 64) :
    (D.write (i : Int) s).1 = 0 ∧ (D.write (i : Int) s).2.calm sb n ∧ (D.write (i : Int) s).2.sure = D.sure ∧ (D.write (i : Int) s).2.downs = D.downs ∧ ∀ j : Int, gk (D.write (i : Int) s).2.es j = if (i : Int) = j then some (wh s) else gk D.es j := by
  have hok := Dk.write_ok h.ok (i : Int) s
  rw [Dk.write_go (h.chk hi) hs h.fu] at hok ⊢
  exact ⟨rfl, ⟨hok, h.sb, h.up, h.fu, h.n⟩, rfl, rfl, fun j => gk_pk _ _ _ _ _⟩
theorem Dk.calm.wr {D : Dk} {sb n : Nat} (h : D.calm sb n) (l : List (List UInt8)) : ∀ i, i ≤ n → (D.wr l i).calm sb n ∧ (D.wr l i).sure = D.sure ∧ ∀ j : Nat, gk (D.wr l i).es (j : Int) = if j < i ∧ (l.getD j []).length ≤ 64 then some (wh (l.getD j [])) else gk D.es (j : Int)
  | 0, _ => ⟨h, rfl, fun j => by simp [Dk.wr]⟩
  | i + 1, hi => by
    obtain ⟨h1, h2, h3⟩ := Dk.calm.wr h l i (by omega)
    unfold Dk.wr
    split
    · rename_i hs
      obtain ⟨_, w2, w3, _, w5⟩ := h1.write (by omega : i < n) hs
      refine ⟨w2, w3.trans h2, fun j => ?_⟩
      rw [w5, h3]
      by_cases hj : i = j
      · subst hj
        rw [if_pos rfl, if_pos ⟨by omega, hs⟩]
      · rw [if_neg (by omega)]
        by_cases hc : j < i ∧ (l.getD j []).length ≤ 64
        · rw [if_pos hc, if_pos ⟨by omega, hc.2⟩]
        · rw [if_neg hc, if_neg (fun hc' => hc ⟨by omega, hc'.2⟩)]
    · rename_i hs
      refine ⟨h1, h2, fun j => ?_⟩
      rw [h3]
      by_cases hj : i = j
      · subst hj
        rw [if_neg (by omega), if_neg (fun hc => hs hc.2)]
      · by_cases hc : j < i ∧ (l.getD j []).length ≤ 64
        · rw [if_pos hc, if_pos ⟨by omega, hc.2⟩]
        · rw [if_neg hc, if_neg (fun hc' => hc ⟨by omega, hc'.2⟩)]
theorem Dk.calm.sync {D : Dk} {sb n : Nat} (h : D.calm sb n) (hn : 0 < n) : D.sync.1 = 0 ∧ D.sync.2.calm sb n ∧ D.sync.2.es = [] ∧ D.sync.2.downs = D.downs ∧ ∀ j : Nat, j < n → D.sync.2.get (j : Int) = D.get (j : Int) := by
  have hok := Dk.sync_ok h.ok
  have hc := h.chk hn
  rw [Dk.sync_go hc h.fu] at hok ⊢
  have hA : ({ D with acts := IntKind.wrap .i64 (D.acts + 1) } : Dk).ok := by
    obtain ⟨g1, g2, g3, g4, g5, g6, g7, g8, g9, g10⟩ := h.ok
    exact ⟨g1, g2, g3, g4, g5, g6, g7, g8, g9, g10⟩
  refine ⟨rfl, ⟨hok, h.sb, h.up, h.fu, ?_⟩, rfl, rfl, fun j hj => ?_⟩
  · show (sy D.es D.sure).length = n
    rw [sy_len]; exact h.n
  · exact Dk.flush_get hA (by rw [← h.n] at hj; exact hj)
theorem Dk.calm.new {sb bb mb n : Nat} (h0 : 0 < n) (h1 : n ≤ 8192) : (Dk.new sb bb mb n).calm sb n := ⟨Dk.new_ok h0 h1, rfl, rfl, (by decide : (-1 : Int) < 0), by simp [Dk.new]⟩
theorem Dk.calm.off {D : Dk} {sb n : Nat} (h : D.calm sb n) (keep : Int) : (D.off keep).on.calm sb n ∧ (D.off keep).up = false ∧ (D.off keep).ok ∧ (D.off keep).sb = sb ∧
    ∀ j : Nat, (D.off keep).on.get (j : Int) = wh (D.sure.getD j []) ∨ ∃ v, gk D.es (j : Int) = some v ∧ v.length = 64 ∧ (D.off keep).on.get (j : Int) = v := by
  have hok := Dk.off_ok h.ok keep
  refine ⟨⟨Dk.on_ok hok, h.sb, rfl, (by decide : (-1 : Int) < 0), ?_⟩, rfl, hok, h.sb, fun j => ?_⟩
  · show (D.cutn keep D.keys.length).length = n
    rw [Dk.cutn_len]; exact h.n
  · have e : (D.off keep).on.get (j : Int) = wh ((D.cutn keep D.keys.length).getD j []) := rfl
    rw [e]
    rcases Dk.cut_or h.ok keep D.keys.length (Nat.le_refl _) j with h1 | h1
    · left; rw [h1]
    · right
      obtain ⟨x, hx, _, hv⟩ := gk_mem h1
      have h64 := h.ok.e64 x hx
      rw [hv] at h64
      exact ⟨_, h1, h64, wh_full h64⟩
/-- What is to be read of a list's place. -/
def was (l : List (List UInt8)) (j : Nat) : List UInt8 := if j < l.length ∧ (l.getD j []).length ≤ 64 then wh (l.getD j []) else wh []
theorem lasts {D : Dk} {sb n : Nat} (h : D.calm sb n) (he : D.es = []) (hn : 0 < n) (m : List (List UInt8)) {k : Nat} (hk : k ≤ n) (hm : k ≤ m.length) (keep : Int) {j : Nat} (hj : j < n) :
    ((D.wr m k).off keep).on.get (j : Int) = D.get (j : Int) ∨ (j < m.length ∧ (m.getD j []).length ≤ 64 ∧ ((D.wr m k).off keep).on.get (j : Int) = wh (m.getD j [])) := by
  obtain ⟨h1, h2, h3⟩ := h.wr m k hk
  obtain ⟨_, _, _, _, h4⟩ := h1.off keep
  rcases h4 j with h5 | ⟨v, h5, h6, h7⟩
  · left
    rw [h5, h2]
    unfold Dk.get
    rw [he]
    simp [gk]
  · right
    rw [h3] at h5
    by_cases hc : j < k ∧ (m.getD j []).length ≤ 64
    · rw [if_pos hc] at h5
      exact ⟨by omega, hc.2, by rw [h7]; simpa using h5.symm⟩
    · rw [if_neg hc, he] at h5
      cases h5
theorem Dk.write_sb (D : Dk) (i : Int) (s : List UInt8) : (D.write i s).2.sb = D.sb := by
  have := Dk.act_sb D
  unfold Dk.write
  split
  · split
    · rfl
    · split
      · exact this
      · exact this
  · rfl
theorem Dk.sync_sb (D : Dk) : D.sync.2.sb = D.sb := by
  have := Dk.act_sb D
  unfold Dk.sync
  split
  · split
    · exact this
    · exact this
  · rfl
end Go.Sp
/- The disk: its calls where nothing lets it go. -/
namespace Go.Sp
open Go Go.Proofs
set_option linter.unusedSimpArgs false
set_option linter.unusedVariables false
set_option maxRecDepth 10000
theorem Dk.calm.p {D : Dk} {sb n : Nat} (h : D.calm sb n) : D.p = .pointer (some ⟨sb, 0, none⟩) := by simp only [Dk.p, h.sb]
theorem calm_c {D : Dk} {sb n : Nat} (h : D.calm sb n) (hn : 0 < n) (keep : Int) : Fq eI Tryz.prog 62 #[.pointer (some ⟨sb, 0, none⟩), .int .u64 keep] [dk D] [dk (D.off keep)] 0 := by
  have := F29 D h.ok keep
  have e := h.chk hn
  rw [show ((0 : Nat) : Int) = 0 from rfl] at e
  rw [e, h.p, if_pos rfl] at this
  exact this
theorem calm_o {D : Dk} {sb n : Nat} (h : D.calm sb n) (keep : Int) : Fq eI Tryz.prog 64 #[.pointer (some ⟨sb, 0, none⟩)] [dk (D.off keep)] [dk (D.off keep).on] 0 := by
  obtain ⟨h1, h2, h3, h4, h5⟩ := h.off keep
  have := F30 (D.off keep) h3
  rw [h2, if_neg Bool.false_ne_true] at this
  simp only [Dk.p, h4] at this
  exact this
end Go.Sp
/- What each region of the Go functions does. Written by my own generator. -/
namespace Go.Sp
open Go
set_option maxRecDepth 100000
set_option linter.unusedVariables false
open Go.Proofs
/-! gharry.wal.check -/
noncomputable def c67 : Cfg := { P := Tryz.prog, n := 41, T := TT, body := (Tryz.f67.body).getD .skip, res := Tryz.f67.results.toList, li := lk [] [(0, [0, 1, 2, 3]), (1, [0, 1, 2, 3]), (2, []), (3, [0, 1, 2]), (4, []), (5, [])], lo := lk [] [(0, [0, 1, 2, 3]), (1, [0, 1, 2, 9]), (2, [8]), (3, [28]), (4, [8]), (5, [8]), (1000000, [8])], ord := lk (false, []) [] }
@[go_sem] theorem c67_i0 : c67.li 0 = [0, 1, 2, 3] := rfl
@[go_sem] theorem c67_i1 : c67.li 1 = [0, 1, 2, 3] := rfl
@[go_sem] theorem c67_i2 : c67.li 2 = [] := rfl
@[go_sem] theorem c67_i3 : c67.li 3 = [0, 1, 2] := rfl
@[go_sem] theorem c67_i4 : c67.li 4 = [] := rfl
@[go_sem] theorem c67_i5 : c67.li 5 = [] := rfl
@[go_sem] theorem c67_r0 (d0 : Option Addr) (base1 : Int) (sectors2 : Int) (run3 : Int) (K : Env → W) : RP c67 0 [(0, .pointer d0), (1, .int .i64 base1), (2, .int .i64 sectors2), (3, .int .i64 run3)] K =
    (K [(0, .pointer d0), (1, .int .i64 base1), (2, .int .i64 sectors2), (3, .int .i64 run3)]) := by kernel_rfl
@[go_sem] theorem c67_r1 (d0 : Option Addr) (base1 : Int) (sectors2 : Int) (run3 : Int) (K : Env → W) : RP c67 1 [(0, .pointer d0), (1, .int .i64 base1), (2, .int .i64 sectors2), (3, .int .i64 run3)] K =
    (cnd ((d0).isNone) (K [(0, .pointer d0), (1, .int .i64 base1), (2, .int .i64 sectors2), (9, .bool true)]) (cnd ((decide (base1 < (0 : Int)))) (K [(0, .pointer d0), (1, .int .i64 base1), (2, .int .i64 sectors2), (9, .bool true)]) (cnd ((decide (sectors2 < (1 : Int)))) (K [(0, .pointer d0), (1, .int .i64 base1), (2, .int .i64 sectors2), (9, .bool true)]) (cnd ((decide (run3 < (1 : Int)))) (K [(0, .pointer d0), (1, .int .i64 base1), (2, .int .i64 sectors2), (9, .bool true)]) (K [(0, .pointer d0), (1, .int .i64 base1), (2, .int .i64 sectors2), (9, .bool ((decide ((4294967296 : Int) ≤ run3))))]))))) := by kernel_rfl
@[go_sem] theorem c67_r2 (K : Env → W) : RP c67 2 [] K =
    (K [(8, .int .i64 (1 : Int))]) := by kernel_rfl
@[go_sem] theorem c67_r3 (d0 : Option Addr) (base1 : Int) (sectors2 : Int) (K : Env → W) : RP c67 3 [(0, .pointer d0), (1, .int .i64 base1), (2, .int .i64 sectors2)] K =
    (cal eI Tryz.prog 99 #[.pointer d0] fun (y1_ : Int) => (cnd ((decide (y1_ < base1))) (K [(28, .bool true)]) (cal eI Tryz.prog 99 #[.pointer d0] fun (y2_ : Int) => (K [(28, .bool ((decide ((IntKind.wrap .i64 (y2_ - base1)) < sectors2))))])))) := by kernel_rfl
@[go_sem] theorem c67_r4 (K : Env → W) : RP c67 4 [] K =
    (K [(8, .int .i64 (6 : Int))]) := by kernel_rfl
@[go_sem] theorem c67_r5 (K : Env → W) : RP c67 5 [] K =
    (K [(8, .int .i64 (0 : Int))]) := by kernel_rfl
@[go_sem] theorem c67_o : c67.lo 1000000 = [8] := rfl
@[go_sem] theorem c67_e (t8 : Int) (k : Value → W) : RTp c67 [(8, .int .i64 t8)] k = (k (.int .i64 t8)) := by kernel_rfl
theorem c67_ok : (c67.P.follows .mixedOrders && okc c67 c67.body) = true := by kernel_rfl
theorem c67_fn {e : Enc} {args : Array Value} {G : e.α → W} {L : List HP} {ρ : Env} (hρ : envA 0 args.toList = ρ) (hs : Nat.ble args.size 41 = true) (h : E L (D c67 (.seq (.reg 0) (.seq (.block 0 (.seq (.reg 1) (.cond (.tmp 9) (.seq (.reg 2) (.ret)) (.seq (.reg 3) (.cond (.tmp 28) (.seq (.reg 4) (.ret)) (.skip)))))) (.seq (.reg 5) (.ret)))) (fnQ c67 e G) ρ)) : E L (cal e Tryz.prog 67 args G) :=
  d_fn (c := c67) Tryz.func67 (by kernel_rfl) (by kernel_rfl) (by kernel_rfl) c67_ok (by kernel_rfl) (by kernel_rfl) hρ hs h
/-! (*gharry.wal.Log).scan -/
noncomputable def c68 : Cfg := { P := Tryz.prog, n := 66, T := TT, body := (Tryz.f68.body).getD .skip, res := Tryz.f68.results.toList, li := lk [] [(0, [0]), (1, [0]), (2, [0, 4]), (3, [0, 4, 5]), (4, [0, 4, 5, 15, 16]), (5, [0, 4, 5, 15, 16]), (6, [0, 4, 5, 6, 15, 16]), (7, [0, 4, 5, 7, 8, 15, 16]), (8, [8]), (9, [0, 4, 5, 7, 15, 16]), (10, [0, 4, 5, 9, 15, 16]), (11, [0, 4, 5, 9, 10, 11, 15, 16]), (12, [0, 4, 9, 10, 11, 15, 16]), (13, [0, 4, 5, 9, 11, 15, 16]), (14, [0, 4, 5, 11, 15, 16]), (15, [0, 4, 5, 15, 16]), (16, [4])], lo := lk [] [(0, [0]), (1, [0, 4]), (2, [0, 4, 5]), (3, [0, 4, 5, 15, 16]), (4, [0, 4, 5, 15, 16, 17]), (5, [0, 4, 5, 6, 15, 16]), (6, [0, 4, 5, 7, 8, 15, 16]), (7, [0, 4, 5, 7, 8, 15, 16, 34]), (8, [2, 3]), (9, [0, 4, 5, 9, 15, 16]), (10, [0, 4, 5, 9, 10, 11, 15, 16]), (11, [0, 4, 9, 10, 11, 15, 16, 56]), (12, [0, 4, 5, 9, 11, 15, 16]), (13, [0, 4, 5, 11, 15, 16]), (14, [0, 4, 5, 15, 16, 63]), (15, [0, 4, 5, 15, 16]), (16, [2, 3]), (1000000, [2, 3])], ord := lk (false, []) [(6, (true, [(0, 1), (1, 1), (2, 1), (3, 0), (4, 1), (5, 1), (6, 1), (7, 0), (8, 1), (9, 1), (10, 4), (11, 1), (12, 1), (13, 1), (14, 1), (15, 1)]))] }
@[go_sem] theorem c68_i0 : c68.li 0 = [0] := rfl
@[go_sem] theorem c68_i1 : c68.li 1 = [0] := rfl
@[go_sem] theorem c68_i2 : c68.li 2 = [0, 4] := rfl
@[go_sem] theorem c68_i3 : c68.li 3 = [0, 4, 5] := rfl
@[go_sem] theorem c68_i4 : c68.li 4 = [0, 4, 5, 15, 16] := rfl
@[go_sem] theorem c68_i5 : c68.li 5 = [0, 4, 5, 15, 16] := rfl
@[go_sem] theorem c68_i6 : c68.li 6 = [0, 4, 5, 6, 15, 16] := rfl
@[go_sem] theorem c68_i7 : c68.li 7 = [0, 4, 5, 7, 8, 15, 16] := rfl
@[go_sem] theorem c68_i8 : c68.li 8 = [8] := rfl
@[go_sem] theorem c68_i9 : c68.li 9 = [0, 4, 5, 7, 15, 16] := rfl
@[go_sem] theorem c68_i10 : c68.li 10 = [0, 4, 5, 9, 15, 16] := rfl
@[go_sem] theorem c68_i11 : c68.li 11 = [0, 4, 5, 9, 10, 11, 15, 16] := rfl
@[go_sem] theorem c68_i12 : c68.li 12 = [0, 4, 9, 10, 11, 15, 16] := rfl
@[go_sem] theorem c68_i13 : c68.li 13 = [0, 4, 5, 9, 11, 15, 16] := rfl
@[go_sem] theorem c68_i14 : c68.li 14 = [0, 4, 5, 11, 15, 16] := rfl
@[go_sem] theorem c68_i15 : c68.li 15 = [0, 4, 5, 15, 16] := rfl
@[go_sem] theorem c68_i16 : c68.li 16 = [4] := rfl
@[go_sem] theorem c68_r0 (l0 : Option Addr) (K : Env → W) : RP c68 0 [(0, .pointer l0)] K =
    (K [(0, .pointer l0)]) := by kernel_rfl
@[go_sem] theorem c68_r1 (l0 : Option Addr) (K : Env → W) : RP c68 1 [(0, .pointer l0)] K =
    (nwc #[.pointer none, .slice none 0 0] 144 fun y1_ => (K [(0, .pointer l0), (4, .pointer (some y1_))])) := by kernel_rfl
@[go_sem] theorem c68_r2 (l0 : Option Addr) (b4 : Addr) (K : Env → W) : RP c68 2 [(0, .pointer l0), (4, .pointer (some b4))] K =
    (K [(0, .pointer l0), (4, .pointer (some b4)), (5, .int .i64 (1 : Int))]) := by kernel_rfl
@[go_sem] theorem c68_r3 (l0 : Option Addr) (b4 : Addr) (run5 : Int) (K : Env → W) : RP c68 3 [(0, .pointer l0), (4, .pointer (some b4)), (5, .int .i64 run5)] K =
    (nn l0 fun y1_ => (ld eI ((y1_.add 2)) fun (y2_ : Int) => (K [(0, .pointer l0), (4, .pointer (some b4)), (5, .int .i64 run5), (15, .int .i64 y2_), (16, .int .i64 (0 : Int))]))) := by kernel_rfl
@[go_sem] theorem c68_r4 (l0 : Option Addr) (b4 : Addr) (run5 : Int) (t15 : Int) (t16 : Int) (K : Env → W) : RP c68 4 [(0, .pointer l0), (4, .pointer (some b4)), (5, .int .i64 run5), (15, .int .i64 t15), (16, .int .i64 t16)] K =
    (K [(0, .pointer l0), (4, .pointer (some b4)), (5, .int .i64 run5), (15, .int .i64 t15), (16, .int .i64 t16), (17, .bool ((decide (t16 < t15))))]) := by kernel_rfl
@[go_sem] theorem c68_r5 (l0 : Option Addr) (b4 : Addr) (run5 : Int) (t15 : Int) (t16 : Int) (K : Env → W) : RP c68 5 [(0, .pointer l0), (4, .pointer (some b4)), (5, .int .i64 run5), (15, .int .i64 t15), (16, .int .i64 t16)] K =
    (K [(0, .pointer l0), (4, .pointer (some b4)), (5, .int .i64 run5), (6, .int .i64 t16), (15, .int .i64 t15), (16, .int .i64 t16)]) := by kernel_rfl
@[go_sem] theorem c68_r6 (l0 : Option Addr) (b4 : Addr) (run5 : Int) (i6 : Int) (t15 : Int) (t16 : Int) (K : Env → W) : RP c68 6 [(0, .pointer l0), (4, .pointer (some b4)), (5, .int .i64 run5), (6, .int .i64 i6), (15, .int .i64 t15), (16, .int .i64 t16)] K =
    (ph fun S0 => (nn l0 fun y1_ => (ldq S0 eP y1_ fun (y2_ : Option Addr) => (nn l0 fun y3_ => (ldq S0 eI ((y3_.add 1)) fun (y4_ : Int) => (cal (eT2 eS eI) Tryz.prog 22 #[.pointer y2_, .int .i64 ((IntKind.wrap .i64 (y4_ + i6)))] fun (y5_ : ((List UInt8) × Int)) => (K [(0, .pointer l0), (4, .pointer (some b4)), (5, .int .i64 run5), (7, str y5_.1), (8, .int .i64 y5_.2), (15, .int .i64 t15), (16, .int .i64 t16)]))))))) := by kernel_rfl
@[go_sem] theorem c68_r7 (l0 : Option Addr) (b4 : Addr) (run5 : Int) (s7 : List UInt8) (e8 : Int) (t15 : Int) (t16 : Int) (K : Env → W) : RP c68 7 [(0, .pointer l0), (4, .pointer (some b4)), (5, .int .i64 run5), (7, str s7), (8, .int .i64 e8), (15, .int .i64 t15), (16, .int .i64 t16)] K =
    (K [(0, .pointer l0), (4, .pointer (some b4)), (5, .int .i64 run5), (7, str s7), (8, .int .i64 e8), (15, .int .i64 t15), (16, .int .i64 t16), (34, .bool ((e8 != (0 : Int))))]) := by kernel_rfl
@[go_sem] theorem c68_r8 (e8 : Int) (K : Env → W) : RP c68 8 [(8, .int .i64 e8)] K =
    (K [(2, str (([] : List UInt8))), (3, .int .i64 e8)]) := by kernel_rfl
@[go_sem] theorem c68_r9 (l0 : Option Addr) (b4 : Addr) (run5 : Int) (s7 : List UInt8) (t15 : Int) (t16 : Int) (K : Env → W) : RP c68 9 [(0, .pointer l0), (4, .pointer (some b4)), (5, .int .i64 run5), (7, str s7), (15, .int .i64 t15), (16, .int .i64 t16)] K =
    (cal eP Tryz.prog 84 #[str s7] fun (y1_ : Option Addr) => (K [(0, .pointer l0), (4, .pointer (some b4)), (5, .int .i64 run5), (9, .pointer y1_), (15, .int .i64 t15), (16, .int .i64 t16)])) := by kernel_rfl
@[go_sem] theorem c68_r10 (l0 : Option Addr) (b4 : Addr) (run5 : Int) (r9 : Option Addr) (t15 : Int) (t16 : Int) (K : Env → W) : RP c68 10 [(0, .pointer l0), (4, .pointer (some b4)), (5, .int .i64 run5), (9, .pointer r9), (15, .int .i64 t15), (16, .int .i64 t16)] K =
    (cal eI Tryz.prog 85 #[.pointer r9, .int .i64 (4 : Int)] fun (y1_ : Int) => (cal eI Tryz.prog 85 #[.pointer r9, .int .i64 (2 : Int)] fun (y2_ : Int) => (K [(0, .pointer l0), (4, .pointer (some b4)), (5, .int .i64 run5), (9, .pointer r9), (10, .int .i64 y1_), (11, .int .i64 y2_), (15, .int .i64 t15), (16, .int .i64 t16)]))) := by kernel_rfl
@[go_sem] theorem c68_r11 (l0 : Option Addr) (b4 : Addr) (run5 : Int) (r9 : Option Addr) (at10 : Int) (n11 : Int) (t15 : Int) (t16 : Int) (K : Env → W) : RP c68 11 [(0, .pointer l0), (4, .pointer (some b4)), (5, .int .i64 run5), (9, .pointer r9), (10, .int .i64 at10), (11, .int .i64 n11), (15, .int .i64 t15), (16, .int .i64 t16)] K =
    (cnd ((decide (at10 < run5))) (K [(0, .pointer l0), (4, .pointer (some b4)), (9, .pointer r9), (10, .int .i64 at10), (11, .int .i64 n11), (15, .int .i64 t15), (16, .int .i64 t16), (56, .bool true)]) (nn l0 fun y1_ => (ld eI ((y1_.add 3)) fun (y2_ : Int) => (cnd ((decide (y2_ < at10))) (K [(0, .pointer l0), (4, .pointer (some b4)), (9, .pointer r9), (10, .int .i64 at10), (11, .int .i64 n11), (15, .int .i64 t15), (16, .int .i64 t16), (56, .bool true)]) (K [(0, .pointer l0), (4, .pointer (some b4)), (9, .pointer r9), (10, .int .i64 at10), (11, .int .i64 n11), (15, .int .i64 t15), (16, .int .i64 t16), (56, .bool ((decide ((58 : Int) < n11))))]))))) := by kernel_rfl
@[go_sem] theorem c68_r12 (l0 : Option Addr) (b4 : Addr) (r9 : Option Addr) (at10 : Int) (n11 : Int) (t15 : Int) (t16 : Int) (K : Env → W) : RP c68 12 [(0, .pointer l0), (4, .pointer (some b4)), (9, .pointer r9), (10, .int .i64 at10), (11, .int .i64 n11), (15, .int .i64 t15), (16, .int .i64 t16)] K =
    (K [(0, .pointer l0), (4, .pointer (some b4)), (5, .int .i64 at10), (9, .pointer r9), (11, .int .i64 n11), (15, .int .i64 t15), (16, .int .i64 t16)]) := by kernel_rfl
@[go_sem] theorem c68_r13 (l0 : Option Addr) (b4 : Addr) (run5 : Int) (r9 : Option Addr) (n11 : Int) (t15 : Int) (t16 : Int) (K : Env → W) : RP c68 13 [(0, .pointer l0), (4, .pointer (some b4)), (5, .int .i64 run5), (9, .pointer r9), (11, .int .i64 n11), (15, .int .i64 t15), (16, .int .i64 t16)] K =
    (cal eS Tryz.prog 101 #[.pointer r9, .int .i64 n11] fun (y1_ : List UInt8) => (cal (eT2 eI eV) Tryz.prog 100 #[.pointer (some b4), str y1_] fun (y2_ : (Int × Value)) => (K [(0, .pointer l0), (4, .pointer (some b4)), (5, .int .i64 run5), (11, .int .i64 n11), (15, .int .i64 t15), (16, .int .i64 t16)]))) := by kernel_rfl
@[go_sem] theorem c68_r14 (l0 : Option Addr) (b4 : Addr) (run5 : Int) (n11 : Int) (t15 : Int) (t16 : Int) (K : Env → W) : RP c68 14 [(0, .pointer l0), (4, .pointer (some b4)), (5, .int .i64 run5), (11, .int .i64 n11), (15, .int .i64 t15), (16, .int .i64 t16)] K =
    (K [(0, .pointer l0), (4, .pointer (some b4)), (5, .int .i64 run5), (15, .int .i64 t15), (16, .int .i64 t16), (63, .bool ((decide (n11 < (58 : Int)))))]) := by kernel_rfl
@[go_sem] theorem c68_r15 (l0 : Option Addr) (b4 : Addr) (run5 : Int) (t15 : Int) (t16 : Int) (K : Env → W) : RP c68 15 [(0, .pointer l0), (4, .pointer (some b4)), (5, .int .i64 run5), (15, .int .i64 t15), (16, .int .i64 t16)] K =
    (K [(0, .pointer l0), (4, .pointer (some b4)), (5, .int .i64 run5), (15, .int .i64 t15), (16, .int .i64 ((IntKind.wrap .i64 (t16 + (1 : Int)))))]) := by kernel_rfl
@[go_sem] theorem c68_r16 (b4 : Addr) (K : Env → W) : RP c68 16 [(4, .pointer (some b4))] K =
    (cal eS Tryz.prog 102 #[.pointer (some b4)] fun (y1_ : List UInt8) => (K [(2, str y1_), (3, .int .i64 (0 : Int))])) := by kernel_rfl
@[go_sem] theorem c68_o : c68.lo 1000000 = [2, 3] := rfl
@[go_sem] theorem c68_e (t2 : List UInt8) (t3 : Int) (k : Value → W) : RTp c68 [(2, str t2), (3, .int .i64 t3)] k = (k (.tuple #[str t2, .int .i64 t3])) := by kernel_rfl
theorem c68_ok : (c68.P.follows .mixedOrders && okc c68 c68.body) = true := by kernel_rfl
theorem c68_fn {e : Enc} {args : Array Value} {G : e.α → W} {L : List HP} {ρ : Env} (hρ : envA 0 args.toList = ρ) (hs : Nat.ble args.size 66 = true) (h : E L (D c68 (.seq (.reg 0) (.seq (.reg 1) (.seq (.reg 2) (.seq (.seq (.reg 3) (.block 0 (.loop (.seq (.reg 4) (.seq (.cond (.tmp 17) (.skip) (.exit 0)) (.seq (.block 1 (.seq (.reg 5) (.seq (.reg 6) (.seq (.seq (.reg 7) (.cond (.tmp 34) (.seq (.reg 8) (.ret)) (.skip))) (.seq (.reg 9) (.seq (.reg 10) (.seq (.seq (.reg 11) (.cond (.tmp 56) (.exit 0) (.skip))) (.seq (.reg 12) (.seq (.reg 13) (.seq (.reg 14) (.cond (.tmp 63) (.exit 0) (.skip)))))))))))) (.reg 15))))))) (.seq (.reg 16) (.ret)))))) (fnQ c68 e G) ρ)) : E L (cal e Tryz.prog 68 args G) :=
  d_fn (c := c68) Tryz.func68 (by kernel_rfl) (by kernel_rfl) (by kernel_rfl) c68_ok (by kernel_rfl) (by kernel_rfl) hρ hs h
-- loop (first region 4): live slots 0:l0 4:b4 5:run5 15:t15 16:t16, of which it writes [5, 16]
/-! gharry.wal.whole -/
noncomputable def c69 : Cfg := { P := Tryz.prog, n := 20, T := TT, body := (Tryz.f69.body).getD .skip, res := Tryz.f69.results.toList, li := lk [] [(0, [0]), (1, [0]), (2, [0, 3]), (3, [0, 3, 5, 6]), (4, [3]), (5, [0, 3, 5])], lo := lk [] [(0, [0]), (1, [0, 3]), (2, [0, 3, 5, 6]), (3, [0, 3, 5, 15]), (4, [2]), (5, [0, 3]), (1000000, [2])], ord := lk (false, []) [] }
@[go_sem] theorem c69_i0 : c69.li 0 = [0] := rfl
@[go_sem] theorem c69_i1 : c69.li 1 = [0] := rfl
@[go_sem] theorem c69_i2 : c69.li 2 = [0, 3] := rfl
@[go_sem] theorem c69_i3 : c69.li 3 = [0, 3, 5, 6] := rfl
@[go_sem] theorem c69_i4 : c69.li 4 = [3] := rfl
@[go_sem] theorem c69_i5 : c69.li 5 = [0, 3, 5] := rfl
@[go_sem] theorem c69_r0 (s0 : List UInt8) (K : Env → W) : RP c69 0 [(0, str s0)] K =
    (K [(0, str s0)]) := by kernel_rfl
@[go_sem] theorem c69_r1 (s0 : List UInt8) (K : Env → W) : RP c69 1 [(0, str s0)] K =
    (K [(0, str s0), (3, .int .i64 (0 : Int))]) := by kernel_rfl
@[go_sem] theorem c69_r2 (s0 : List UInt8) (at3 : Int) (K : Env → W) : RP c69 2 [(0, str s0), (3, .int .i64 at3)] K =
    (cal (eT3 e_api_Rec eI eI) Tryz.prog 26 #[str s0, .int .i64 at3] fun (y1_ : (api_Rec × Int × Int)) => (nwc #[.int .i64 (0 : Int), .int .i64 (0 : Int), .int .i64 (0 : Int), .int .i64 (0 : Int), .int .i64 (0 : Int), str (([] : List UInt8)), str (([] : List UInt8)), str (([] : List UInt8)), .int .i64 (0 : Int), .slice none 0 0, .slice none 0 0, .int .i64 (0 : Int), .int .i64 (0 : Int)] 36 fun y2_ => (stl [.int .i64 y1_.1.Kind, .int .i64 y1_.1.Txn, .int .i64 y1_.1.Prev, .int .i64 y1_.1.Page, .int .i64 y1_.1.Act, str y1_.1.Key, str y1_.1.Old, str y1_.1.New, .int .i64 y1_.1.Next, .slice y1_.1.Images.1 y1_.1.Images.2.1 y1_.1.Images.2.2, .slice y1_.1.Table.1 y1_.1.Table.2.1 y1_.1.Table.2.2, .int .i64 y1_.1.Epoch, .int .i64 y1_.1.Node] y2_ 0 (K [(0, str s0), (3, .int .i64 at3), (5, .int .i64 y1_.2.1), (6, .int .i64 y1_.2.2)])))) := by kernel_rfl
@[go_sem] theorem c69_r3 (s0 : List UInt8) (at3 : Int) (n5 : Int) (e6 : Int) (K : Env → W) : RP c69 3 [(0, str s0), (3, .int .i64 at3), (5, .int .i64 n5), (6, .int .i64 e6)] K =
    (K [(0, str s0), (3, .int .i64 at3), (5, .int .i64 n5), (15, .bool ((e6 != (0 : Int))))]) := by kernel_rfl
@[go_sem] theorem c69_r4 (at3 : Int) (K : Env → W) : RP c69 4 [(3, .int .i64 at3)] K =
    (K [(2, .int .i64 at3)]) := by kernel_rfl
@[go_sem] theorem c69_r5 (s0 : List UInt8) (at3 : Int) (n5 : Int) (K : Env → W) : RP c69 5 [(0, str s0), (3, .int .i64 at3), (5, .int .i64 n5)] K =
    (K [(0, str s0), (3, .int .i64 ((IntKind.wrap .i64 (at3 + n5))))]) := by kernel_rfl
@[go_sem] theorem c69_o : c69.lo 1000000 = [2] := rfl
@[go_sem] theorem c69_e (t2 : Int) (k : Value → W) : RTp c69 [(2, .int .i64 t2)] k = (k (.int .i64 t2)) := by kernel_rfl
theorem c69_ok : (c69.P.follows .mixedOrders && okc c69 c69.body) = true := by kernel_rfl
theorem c69_fn {e : Enc} {args : Array Value} {G : e.α → W} {L : List HP} {ρ : Env} (hρ : envA 0 args.toList = ρ) (hs : Nat.ble args.size 20 = true) (h : E L (D c69 (.seq (.reg 0) (.seq (.reg 1) (.block 0 (.loop (.block 1 (.seq (.reg 2) (.seq (.seq (.reg 3) (.cond (.tmp 15) (.seq (.reg 4) (.ret)) (.skip))) (.reg 5)))))))) (fnQ c69 e G) ρ)) : E L (cal e Tryz.prog 69 args G) :=
  d_fn (c := c69) Tryz.func69 (by kernel_rfl) (by kernel_rfl) (by kernel_rfl) c69_ok (by kernel_rfl) (by kernel_rfl) hρ hs h
-- loop (first region 2): live slots 0:s0 3:at3, of which it writes [3]
/-! (*gharry.wal.Log).mend -/
noncomputable def c70 : Cfg := { P := Tryz.prog, n := 23, T := TT, body := (Tryz.f70.body).getD .skip, res := Tryz.f70.results.toList, li := lk [] [(0, [0]), (1, [0]), (2, [0, 3]), (3, [0, 3]), (4, [0])], lo := lk [] [(0, [0]), (1, [0, 3]), (2, [0, 3, 12]), (3, [2]), (4, [2]), (1000000, [2])], ord := lk (false, []) [] }
@[go_sem] theorem c70_i0 : c70.li 0 = [0] := rfl
@[go_sem] theorem c70_i1 : c70.li 1 = [0] := rfl
@[go_sem] theorem c70_i2 : c70.li 2 = [0, 3] := rfl
@[go_sem] theorem c70_i3 : c70.li 3 = [0, 3] := rfl
@[go_sem] theorem c70_i4 : c70.li 4 = [0] := rfl
@[go_sem] theorem c70_r0 (l0 : Option Addr) (K : Env → W) : RP c70 0 [(0, .pointer l0)] K =
    (K [(0, .pointer l0)]) := by kernel_rfl
@[go_sem] theorem c70_r1 (l0 : Option Addr) (K : Env → W) : RP c70 1 [(0, .pointer l0)] K =
    (nn l0 fun y1_ => (ld eI ((y1_.add 5)) fun (y2_ : Int) => (rq ((58 : Int) ≠ 0) (cal eI Tryz.prog 77 #[.pointer l0, .int .i64 ((IntKind.wrap .i64 ((y2_).tdiv (58 : Int))))] fun (y3_ : Int) => (K [(0, .pointer l0), (3, .int .i64 y3_)]))))) := by kernel_rfl
@[go_sem] theorem c70_r2 (l0 : Option Addr) (e3 : Int) (K : Env → W) : RP c70 2 [(0, .pointer l0), (3, .int .i64 e3)] K =
    (K [(0, .pointer l0), (3, .int .i64 e3), (12, .bool ((e3 != (0 : Int))))]) := by kernel_rfl
@[go_sem] theorem c70_r3 (l0 : Option Addr) (e3 : Int) (K : Env → W) : RP c70 3 [(0, .pointer l0), (3, .int .i64 e3)] K =
    (cal eI Tryz.prog 78 #[.pointer l0, .int .i64 e3] fun (y1_ : Int) => (K [(2, .int .i64 y1_)])) := by kernel_rfl
@[go_sem] theorem c70_r4 (l0 : Option Addr) (K : Env → W) : RP c70 4 [(0, .pointer l0)] K =
    (nn l0 fun y1_ => (ld eP y1_ fun (y2_ : Option Addr) => (cal eI Tryz.prog 79 #[.pointer y2_] fun (y3_ : Int) => (cal eI Tryz.prog 78 #[.pointer l0, .int .i64 y3_] fun (y4_ : Int) => (K [(2, .int .i64 y4_)]))))) := by kernel_rfl
@[go_sem] theorem c70_o : c70.lo 1000000 = [2] := rfl
@[go_sem] theorem c70_e (t2 : Int) (k : Value → W) : RTp c70 [(2, .int .i64 t2)] k = (k (.int .i64 t2)) := by kernel_rfl
theorem c70_ok : (c70.P.follows .mixedOrders && okc c70 c70.body) = true := by kernel_rfl
theorem c70_fn {e : Enc} {args : Array Value} {G : e.α → W} {L : List HP} {ρ : Env} (hρ : envA 0 args.toList = ρ) (hs : Nat.ble args.size 23 = true) (h : E L (D c70 (.seq (.reg 0) (.seq (.seq (.reg 1) (.seq (.reg 2) (.cond (.tmp 12) (.seq (.reg 3) (.ret)) (.skip)))) (.seq (.reg 4) (.ret)))) (fnQ c70 e G) ρ)) : E L (cal e Tryz.prog 70 args G) :=
  d_fn (c := c70) Tryz.func70 (by kernel_rfl) (by kernel_rfl) (by kernel_rfl) c70_ok (by kernel_rfl) (by kernel_rfl) hρ hs h
/-! (*gharry.wal.Log).off -/
noncomputable def c75 : Cfg := { P := Tryz.prog, n := 11, T := TT, body := (Tryz.f75.body).getD .skip, res := Tryz.f75.results.toList, li := lk [] [(0, [0]), (1, [0]), (2, []), (3, [0]), (4, []), (5, [])], lo := lk [] [(0, [0]), (1, [0, 3]), (2, [2]), (3, [6]), (4, [2]), (5, [2]), (1000000, [2])], ord := lk (false, []) [] }
@[go_sem] theorem c75_i0 : c75.li 0 = [0] := rfl
@[go_sem] theorem c75_i1 : c75.li 1 = [0] := rfl
@[go_sem] theorem c75_i2 : c75.li 2 = [] := rfl
@[go_sem] theorem c75_i3 : c75.li 3 = [0] := rfl
@[go_sem] theorem c75_i4 : c75.li 4 = [] := rfl
@[go_sem] theorem c75_i5 : c75.li 5 = [] := rfl
@[go_sem] theorem c75_r0 (l0 : Option Addr) (K : Env → W) : RP c75 0 [(0, .pointer l0)] K =
    (K [(0, .pointer l0)]) := by kernel_rfl
@[go_sem] theorem c75_r1 (l0 : Option Addr) (K : Env → W) : RP c75 1 [(0, .pointer l0)] K =
    (cal eB Tryz.prog 83 #[.pointer l0] fun (y1_ : Bool) => (K [(0, .pointer l0), (3, .bool y1_)])) := by kernel_rfl
@[go_sem] theorem c75_r2 (K : Env → W) : RP c75 2 [] K =
    (K [(2, .int .i64 (11 : Int))]) := by kernel_rfl
@[go_sem] theorem c75_r3 (l0 : Option Addr) (K : Env → W) : RP c75 3 [(0, .pointer l0)] K =
    (nn l0 fun y1_ => (ld eB ((y1_.add 6)) fun (y2_ : Bool) => (K [(6, .bool y2_)]))) := by kernel_rfl
@[go_sem] theorem c75_r4 (K : Env → W) : RP c75 4 [] K =
    (K [(2, .int .i64 (9 : Int))]) := by kernel_rfl
@[go_sem] theorem c75_r5 (K : Env → W) : RP c75 5 [] K =
    (K [(2, .int .i64 (0 : Int))]) := by kernel_rfl
@[go_sem] theorem c75_o : c75.lo 1000000 = [2] := rfl
@[go_sem] theorem c75_e (t2 : Int) (k : Value → W) : RTp c75 [(2, .int .i64 t2)] k = (k (.int .i64 t2)) := by kernel_rfl
theorem c75_ok : (c75.P.follows .mixedOrders && okc c75 c75.body) = true := by kernel_rfl
theorem c75_fn {e : Enc} {args : Array Value} {G : e.α → W} {L : List HP} {ρ : Env} (hρ : envA 0 args.toList = ρ) (hs : Nat.ble args.size 11 = true) (h : E L (D c75 (.seq (.reg 0) (.seq (.block 0 (.seq (.reg 1) (.cond (.tmp 3) (.seq (.reg 2) (.ret)) (.seq (.reg 3) (.cond (.tmp 6) (.seq (.reg 4) (.ret)) (.skip)))))) (.seq (.reg 5) (.ret)))) (fnQ c75 e G) ρ)) : E L (cal e Tryz.prog 75 args G) :=
  d_fn (c := c75) Tryz.func75 (by kernel_rfl) (by kernel_rfl) (by kernel_rfl) c75_ok (by kernel_rfl) (by kernel_rfl) hρ hs h
/-! (*gharry.wal.Log).add -/
noncomputable def c76 : Cfg := { P := Tryz.prog, n := 23, T := TT, body := (Tryz.f76.body).getD .skip, res := Tryz.f76.results.toList, li := lk [] [(0, [0, 1]), (1, [0, 1]), (2, []), (3, [0, 1]), (4, [0, 1, 6]), (5, [6])], lo := lk [] [(0, [0, 1]), (1, [0, 1, 11]), (2, [4, 5]), (3, [0, 1, 6]), (4, [6]), (5, [4, 5]), (1000000, [4, 5])], ord := lk (false, []) [] }
@[go_sem] theorem c76_i0 : c76.li 0 = [0, 1] := rfl
@[go_sem] theorem c76_i1 : c76.li 1 = [0, 1] := rfl
@[go_sem] theorem c76_i2 : c76.li 2 = [] := rfl
@[go_sem] theorem c76_i3 : c76.li 3 = [0, 1] := rfl
@[go_sem] theorem c76_i4 : c76.li 4 = [0, 1, 6] := rfl
@[go_sem] theorem c76_i5 : c76.li 5 = [6] := rfl
@[go_sem] theorem c76_r0 (l0 : Option Addr) (s1 : List UInt8) (K : Env → W) : RP c76 0 [(0, .pointer l0), (1, str s1)] K =
    (K [(0, .pointer l0), (1, str s1)]) := by kernel_rfl
@[go_sem] theorem c76_r1 (l0 : Option Addr) (s1 : List UInt8) (K : Env → W) : RP c76 1 [(0, .pointer l0), (1, str s1)] K =
    (cal eI Tryz.prog 30 #[.pointer l0] fun (y1_ : Int) => (K [(0, .pointer l0), (1, str s1), (11, .bool ((decide (y1_ < ((s1).length : Int)))))])) := by kernel_rfl
@[go_sem] theorem c76_r2 (K : Env → W) : RP c76 2 [] K =
    (K [(4, .int .i64 (0 : Int)), (5, .int .i64 (7 : Int))]) := by kernel_rfl
@[go_sem] theorem c76_r3 (l0 : Option Addr) (s1 : List UInt8) (K : Env → W) : RP c76 3 [(0, .pointer l0), (1, str s1)] K =
    (cal eI Tryz.prog 28 #[.pointer l0] fun (y1_ : Int) => (K [(0, .pointer l0), (1, str s1), (6, .int .i64 y1_)])) := by kernel_rfl
@[go_sem] theorem c76_r4 (l0 : Option Addr) (s1 : List UInt8) (at6 : Int) (K : Env → W) : RP c76 4 [(0, .pointer l0), (1, str s1), (6, .int .i64 at6)] K =
    (nn l0 fun y1_ => (ld eS ((y1_.add 4)) fun (y2_ : List UInt8) => (rq (((y2_).length : Int) + ((s1).length : Int) ≤ 9223372036854775807) (nn l0 fun y3_ => (st ((y3_.add 4)) (str ((y2_ ++ s1))) (K [(6, .int .i64 at6)])))))) := by kernel_rfl
@[go_sem] theorem c76_r5 (at6 : Int) (K : Env → W) : RP c76 5 [(6, .int .i64 at6)] K =
    (K [(4, .int .i64 at6), (5, .int .i64 (0 : Int))]) := by kernel_rfl
@[go_sem] theorem c76_o : c76.lo 1000000 = [4, 5] := rfl
@[go_sem] theorem c76_e (t4 : Int) (t5 : Int) (k : Value → W) : RTp c76 [(4, .int .i64 t4), (5, .int .i64 t5)] k = (k (.tuple #[.int .i64 t4, .int .i64 t5])) := by kernel_rfl
theorem c76_ok : (c76.P.follows .mixedOrders && okc c76 c76.body) = true := by kernel_rfl
theorem c76_fn {e : Enc} {args : Array Value} {G : e.α → W} {L : List HP} {ρ : Env} (hρ : envA 0 args.toList = ρ) (hs : Nat.ble args.size 23 = true) (h : E L (D c76 (.seq (.reg 0) (.seq (.seq (.reg 1) (.cond (.tmp 11) (.seq (.reg 2) (.ret)) (.skip))) (.seq (.reg 3) (.seq (.reg 4) (.seq (.reg 5) (.ret)))))) (fnQ c76 e G) ρ)) : E L (cal e Tryz.prog 76 args G) :=
  d_fn (c := c76) Tryz.func76 (by kernel_rfl) (by kernel_rfl) (by kernel_rfl) c76_ok (by kernel_rfl) (by kernel_rfl) hρ hs h
/-! (*gharry.wal.Log).write -/
noncomputable def c77 : Cfg := { P := Tryz.prog, n := 68, T := TT, body := (Tryz.f77.body).getD .skip, res := Tryz.f77.results.toList, li := lk [] [(0, [0, 1]), (1, [0, 1]), (2, []), (3, [0, 1]), (4, [0, 1, 5]), (5, [0, 1, 5, 6]), (6, [0, 1, 5, 6]), (7, [0, 1, 5, 6]), (8, [0, 1, 5, 7])], lo := lk [] [(0, [0, 1]), (1, [0, 1, 14]), (2, [4]), (3, [0, 1, 5]), (4, [0, 1, 5, 6]), (5, [0, 1, 5, 6]), (6, [0, 1, 5, 6]), (7, [0, 1, 5, 7]), (8, [4]), (1000000, [4])], ord := lk (false, []) [(3, (true, [(0, 1), (1, 1), (2, 1), (3, 0), (4, 1), (5, 1), (6, 1), (7, 1), (8, 1), (9, 0), (10, 1), (11, 1), (12, 1), (13, 1), (14, 1), (15, 1), (16, 1), (17, 1), (18, 0), (19, 1), (20, 1), (21, 1), (22, 1)])), (8, (true, [(0, 1), (1, 1), (2, 1), (3, 0), (4, 1), (5, 1), (6, 1), (7, 0), (8, 1), (9, 1), (10, 1), (11, 1), (12, 1), (13, 4), (14, 1)]))] }
@[go_sem] theorem c77_i0 : c77.li 0 = [0, 1] := rfl
@[go_sem] theorem c77_i1 : c77.li 1 = [0, 1] := rfl
@[go_sem] theorem c77_i2 : c77.li 2 = [] := rfl
@[go_sem] theorem c77_i3 : c77.li 3 = [0, 1] := rfl
@[go_sem] theorem c77_i4 : c77.li 4 = [0, 1, 5] := rfl
@[go_sem] theorem c77_i5 : c77.li 5 = [0, 1, 5, 6] := rfl
@[go_sem] theorem c77_i6 : c77.li 6 = [0, 1, 5, 6] := rfl
@[go_sem] theorem c77_i7 : c77.li 7 = [0, 1, 5, 6] := rfl
@[go_sem] theorem c77_i8 : c77.li 8 = [0, 1, 5, 7] := rfl
@[go_sem] theorem c77_r0 (l0 : Option Addr) (i1 : Int) (K : Env → W) : RP c77 0 [(0, .pointer l0), (1, .int .i64 i1)] K =
    (K [(0, .pointer l0), (1, .int .i64 i1)]) := by kernel_rfl
@[go_sem] theorem c77_r1 (l0 : Option Addr) (i1 : Int) (K : Env → W) : RP c77 1 [(0, .pointer l0), (1, .int .i64 i1)] K =
    (nn l0 fun y1_ => (ld eI ((y1_.add 2)) fun (y2_ : Int) => (K [(0, .pointer l0), (1, .int .i64 i1), (14, .bool ((decide (y2_ ≤ i1))))]))) := by kernel_rfl
@[go_sem] theorem c77_r2 (K : Env → W) : RP c77 2 [] K =
    (K [(4, .int .i64 (0 : Int))]) := by kernel_rfl
@[go_sem] theorem c77_r3 (l0 : Option Addr) (i1 : Int) (K : Env → W) : RP c77 3 [(0, .pointer l0), (1, .int .i64 i1)] K =
    (ph fun S0 => (nn l0 fun y1_ => (ldq S0 eS ((y1_.add 4)) fun (y2_ : List UInt8) => (nn l0 fun y3_ => (ldq S0 eS ((y3_.add 4)) fun (y4_ : List UInt8) => (nn l0 fun y5_ => (ldq S0 eS ((y5_.add 4)) fun (y6_ : List UInt8) => (rq (0 ≤ ((if ((y4_).length : Int) < (IntKind.wrap .i64 (i1 * (58 : Int))) then ((y4_).length : Int) else (IntKind.wrap .i64 (i1 * (58 : Int)))) : Int) ∧ (if ((y4_).length : Int) < (IntKind.wrap .i64 (i1 * (58 : Int))) then ((y4_).length : Int) else (IntKind.wrap .i64 (i1 * (58 : Int)))) ≤ (if ((y6_).length : Int) < (IntKind.wrap .i64 ((IntKind.wrap .i64 (i1 + (1 : Int))) * (58 : Int))) then ((y6_).length : Int) else (IntKind.wrap .i64 ((IntKind.wrap .i64 (i1 + (1 : Int))) * (58 : Int)))) ∧ (if ((y6_).length : Int) < (IntKind.wrap .i64 ((IntKind.wrap .i64 (i1 + (1 : Int))) * (58 : Int))) then ((y6_).length : Int) else (IntKind.wrap .i64 ((IntKind.wrap .i64 (i1 + (1 : Int))) * (58 : Int)))) ≤ ((y2_).length : Int)) (K [(0, .pointer l0), (1, .int .i64 i1), (5, str ((ss y2_ ((if ((y4_).length : Int) < (IntKind.wrap .i64 (i1 * (58 : Int))) then ((y4_).length : Int) else (IntKind.wrap .i64 (i1 * (58 : Int))))) ((if ((y6_).length : Int) < (IntKind.wrap .i64 ((IntKind.wrap .i64 (i1 + (1 : Int))) * (58 : Int))) then ((y6_).length : Int) else (IntKind.wrap .i64 ((IntKind.wrap .i64 (i1 + (1 : Int))) * (58 : Int))))))))]))))))))) := by kernel_rfl
@[go_sem] theorem c77_r4 (l0 : Option Addr) (i1 : Int) (part5 : List UInt8) (K : Env → W) : RP c77 4 [(0, .pointer l0), (1, .int .i64 i1), (5, str part5)] K =
    (nwc #[str (([] : List UInt8)), .int .i64 (0 : Int)] 153 fun y1_ => (K [(0, .pointer l0), (1, .int .i64 i1), (5, str part5), (6, .pointer (some y1_))])) := by kernel_rfl
@[go_sem] theorem c77_r5 (l0 : Option Addr) (i1 : Int) (part5 : List UInt8) (w6 : Addr) (K : Env → W) : RP c77 5 [(0, .pointer l0), (1, .int .i64 i1), (5, str part5), (6, .pointer (some w6))] K =
    (nn l0 fun y1_ => (ld eI ((y1_.add 3)) fun (y2_ : Int) => (cal eN Tryz.prog 103 #[.pointer (some w6), .int .i64 y2_, .int .i64 (4 : Int)] fun (y3_ : Unit) => (K [(0, .pointer l0), (1, .int .i64 i1), (5, str part5), (6, .pointer (some w6))])))) := by kernel_rfl
@[go_sem] theorem c77_r6 (l0 : Option Addr) (i1 : Int) (part5 : List UInt8) (w6 : Addr) (K : Env → W) : RP c77 6 [(0, .pointer l0), (1, .int .i64 i1), (5, str part5), (6, .pointer (some w6))] K =
    (cal eN Tryz.prog 103 #[.pointer (some w6), .int .i64 (((part5).length : Int)), .int .i64 (2 : Int)] fun (y1_ : Unit) => (K [(0, .pointer l0), (1, .int .i64 i1), (5, str part5), (6, .pointer (some w6))])) := by kernel_rfl
@[go_sem] theorem c77_r7 (l0 : Option Addr) (i1 : Int) (part5 : List UInt8) (w6 : Addr) (K : Env → W) : RP c77 7 [(0, .pointer l0), (1, .int .i64 i1), (5, str part5), (6, .pointer (some w6))] K =
    (cal (eT2 eS eI) Tryz.prog 108 #[.pointer (some w6)] fun (y1_ : ((List UInt8) × Int)) => (K [(0, .pointer l0), (1, .int .i64 i1), (5, str part5), (7, str y1_.1)])) := by kernel_rfl
@[go_sem] theorem c77_r8 (l0 : Option Addr) (i1 : Int) (part5 : List UInt8) (s7 : List UInt8) (K : Env → W) : RP c77 8 [(0, .pointer l0), (1, .int .i64 i1), (5, str part5), (7, str s7)] K =
    (ph fun S0 => (nn l0 fun y1_ => (ldq S0 eP y1_ fun (y2_ : Option Addr) => (nn l0 fun y3_ => (ldq S0 eI ((y3_.add 1)) fun (y4_ : Int) => (rq (((s7).length : Int) + ((part5).length : Int) ≤ 9223372036854775807) (cal eI Tryz.prog 24 #[.pointer y2_, .int .i64 ((IntKind.wrap .i64 (y4_ + i1))), str ((s7 ++ part5))] fun (y5_ : Int) => (K [(4, .int .i64 y5_)])))))))) := by kernel_rfl
@[go_sem] theorem c77_o : c77.lo 1000000 = [4] := rfl
@[go_sem] theorem c77_e (t4 : Int) (k : Value → W) : RTp c77 [(4, .int .i64 t4)] k = (k (.int .i64 t4)) := by kernel_rfl
theorem c77_ok : (c77.P.follows .mixedOrders && okc c77 c77.body) = true := by kernel_rfl
theorem c77_fn {e : Enc} {args : Array Value} {G : e.α → W} {L : List HP} {ρ : Env} (hρ : envA 0 args.toList = ρ) (hs : Nat.ble args.size 68 = true) (h : E L (D c77 (.seq (.reg 0) (.seq (.seq (.reg 1) (.cond (.tmp 14) (.seq (.reg 2) (.ret)) (.skip))) (.seq (.reg 3) (.seq (.reg 4) (.seq (.reg 5) (.seq (.reg 6) (.seq (.reg 7) (.seq (.reg 8) (.ret))))))))) (fnQ c77 e G) ρ)) : E L (cal e Tryz.prog 77 args G) :=
  d_fn (c := c77) Tryz.func77 (by kernel_rfl) (by kernel_rfl) (by kernel_rfl) c77_ok (by kernel_rfl) (by kernel_rfl) hρ hs h
/-! (*gharry.wal.Log).down -/
noncomputable def c78 : Cfg := { P := Tryz.prog, n := 11, T := TT, body := (Tryz.f78.body).getD .skip, res := Tryz.f78.results.toList, li := lk [] [(0, [0, 1]), (1, [0, 1]), (2, [0, 1]), (3, [1])], lo := lk [] [(0, [0, 1]), (1, [0, 1, 6]), (2, [1]), (3, [4]), (1000000, [4])], ord := lk (false, []) [] }
@[go_sem] theorem c78_i0 : c78.li 0 = [0, 1] := rfl
@[go_sem] theorem c78_i1 : c78.li 1 = [0, 1] := rfl
@[go_sem] theorem c78_i2 : c78.li 2 = [0, 1] := rfl
@[go_sem] theorem c78_i3 : c78.li 3 = [1] := rfl
@[go_sem] theorem c78_r0 (l0 : Option Addr) (e1 : Int) (K : Env → W) : RP c78 0 [(0, .pointer l0), (1, .int .i64 e1)] K =
    (K [(0, .pointer l0), (1, .int .i64 e1)]) := by kernel_rfl
@[go_sem] theorem c78_r1 (l0 : Option Addr) (e1 : Int) (K : Env → W) : RP c78 1 [(0, .pointer l0), (1, .int .i64 e1)] K =
    (K [(0, .pointer l0), (1, .int .i64 e1), (6, .bool ((e1 != (0 : Int))))]) := by kernel_rfl
@[go_sem] theorem c78_r2 (l0 : Option Addr) (e1 : Int) (K : Env → W) : RP c78 2 [(0, .pointer l0), (1, .int .i64 e1)] K =
    (nn l0 fun y1_ => (st ((y1_.add 6)) (.bool true) (K [(1, .int .i64 e1)]))) := by kernel_rfl
@[go_sem] theorem c78_r3 (e1 : Int) (K : Env → W) : RP c78 3 [(1, .int .i64 e1)] K =
    (K [(4, .int .i64 e1)]) := by kernel_rfl
@[go_sem] theorem c78_o : c78.lo 1000000 = [4] := rfl
@[go_sem] theorem c78_e (t4 : Int) (k : Value → W) : RTp c78 [(4, .int .i64 t4)] k = (k (.int .i64 t4)) := by kernel_rfl
theorem c78_ok : (c78.P.follows .mixedOrders && okc c78 c78.body) = true := by kernel_rfl
theorem c78_fn {e : Enc} {args : Array Value} {G : e.α → W} {L : List HP} {ρ : Env} (hρ : envA 0 args.toList = ρ) (hs : Nat.ble args.size 11 = true) (h : E L (D c78 (.seq (.reg 0) (.seq (.seq (.reg 1) (.cond (.tmp 6) (.reg 2) (.skip))) (.seq (.reg 3) (.ret)))) (fnQ c78 e G) ρ)) : E L (cal e Tryz.prog 78 args G) :=
  d_fn (c := c78) Tryz.func78 (by kernel_rfl) (by kernel_rfl) (by kernel_rfl) c78_ok (by kernel_rfl) (by kernel_rfl) hρ hs h
/-! (*gharry.wal.Log).none -/
noncomputable def c83 : Cfg := { P := Tryz.prog, n := 12, T := TT, body := (Tryz.f83.body).getD .skip, res := Tryz.f83.results.toList, li := lk [] [(0, [0]), (1, [0])], lo := lk [] [(0, [0]), (1, [2]), (1000000, [2])], ord := lk (false, []) [] }
@[go_sem] theorem c83_i0 : c83.li 0 = [0] := rfl
@[go_sem] theorem c83_i1 : c83.li 1 = [0] := rfl
@[go_sem] theorem c83_r0 (l0 : Option Addr) (K : Env → W) : RP c83 0 [(0, .pointer l0)] K =
    (K [(0, .pointer l0)]) := by kernel_rfl
@[go_sem] theorem c83_r1 (l0 : Option Addr) (K : Env → W) : RP c83 1 [(0, .pointer l0)] K =
    (cnd ((l0).isNone) (K [(2, .bool true)]) (nn l0 fun y1_ => (ld eP y1_ fun (y2_ : Option Addr) => (K [(2, .bool ((y2_).isNone))])))) := by kernel_rfl
@[go_sem] theorem c83_o : c83.lo 1000000 = [2] := rfl
@[go_sem] theorem c83_e (t2 : Bool) (k : Value → W) : RTp c83 [(2, .bool t2)] k = (k (.bool t2)) := by kernel_rfl
theorem c83_ok : (c83.P.follows .mixedOrders && okc c83 c83.body) = true := by kernel_rfl
theorem c83_fn {e : Enc} {args : Array Value} {G : e.α → W} {L : List HP} {ρ : Env} (hρ : envA 0 args.toList = ρ) (hs : Nat.ble args.size 12 = true) (h : E L (D c83 (.seq (.reg 0) (.seq (.reg 1) (.ret))) (fnQ c83 e G) ρ)) : E L (cal e Tryz.prog 83 args G) :=
  d_fn (c := c83) Tryz.func83 (by kernel_rfl) (by kernel_rfl) (by kernel_rfl) c83_ok (by kernel_rfl) (by kernel_rfl) hρ hs h
end Go.Sp
/- What each region of the Go functions does. Written by my own generator. -/
namespace Go.Sp
open Go
set_option maxRecDepth 100000
set_option linter.unusedVariables false
open Go.Proofs
/-! gharry.wal.Open -/
noncomputable def c17 : Cfg := { P := Tryz.prog, n := 58, T := TT, body := (Tryz.f17.body).getD .skip, res := Tryz.f17.results.toList, li := lk [] [(0, [0, 1, 2, 3]), (1, [0, 1, 2, 3]), (2, [0, 1, 2, 3, 10]), (3, [10]), (4, [0, 1, 2, 3]), (5, [11]), (6, [11, 12, 13]), (7, [13]), (8, [11, 12]), (9, [11]), (10, [11]), (11, [11, 14]), (12, [14]), (13, [11])], lo := lk [] [(0, [0, 1, 2, 3]), (1, [0, 1, 2, 3, 10]), (2, [0, 1, 2, 3, 10, 21]), (3, [8, 9]), (4, [11]), (5, [11, 12, 13]), (6, [11, 12, 13, 35]), (7, [8, 9]), (8, [11]), (9, [11]), (10, [11, 14]), (11, [11, 14, 55]), (12, [8, 9]), (13, [8, 9]), (1000000, [8, 9])], ord := lk (false, []) [] }
@[go_sem] theorem c17_i0 : c17.li 0 = [0, 1, 2, 3] := rfl
@[go_sem] theorem c17_i1 : c17.li 1 = [0, 1, 2, 3] := rfl
@[go_sem] theorem c17_i2 : c17.li 2 = [0, 1, 2, 3, 10] := rfl
@[go_sem] theorem c17_i3 : c17.li 3 = [10] := rfl
@[go_sem] theorem c17_i4 : c17.li 4 = [0, 1, 2, 3] := rfl
@[go_sem] theorem c17_i5 : c17.li 5 = [11] := rfl
@[go_sem] theorem c17_i6 : c17.li 6 = [11, 12, 13] := rfl
@[go_sem] theorem c17_i7 : c17.li 7 = [13] := rfl
@[go_sem] theorem c17_i8 : c17.li 8 = [11, 12] := rfl
@[go_sem] theorem c17_i9 : c17.li 9 = [11] := rfl
@[go_sem] theorem c17_i10 : c17.li 10 = [11] := rfl
@[go_sem] theorem c17_i11 : c17.li 11 = [11, 14] := rfl
@[go_sem] theorem c17_i12 : c17.li 12 = [14] := rfl
@[go_sem] theorem c17_i13 : c17.li 13 = [11] := rfl
@[go_sem] theorem c17_r0 (d0 : Option Addr) (base1 : Int) (sectors2 : Int) (run3 : Int) (K : Env → W) : RP c17 0 [(0, .pointer d0), (1, .int .i64 base1), (2, .int .i64 sectors2), (3, .int .i64 run3)] K =
    (K [(0, .pointer d0), (1, .int .i64 base1), (2, .int .i64 sectors2), (3, .int .i64 run3)]) := by kernel_rfl
@[go_sem] theorem c17_r1 (d0 : Option Addr) (base1 : Int) (sectors2 : Int) (run3 : Int) (K : Env → W) : RP c17 1 [(0, .pointer d0), (1, .int .i64 base1), (2, .int .i64 sectors2), (3, .int .i64 run3)] K =
    (cal eI Tryz.prog 67 #[.pointer d0, .int .i64 base1, .int .i64 sectors2, .int .i64 run3] fun (y1_ : Int) => (K [(0, .pointer d0), (1, .int .i64 base1), (2, .int .i64 sectors2), (3, .int .i64 run3), (10, .int .i64 y1_)])) := by kernel_rfl
@[go_sem] theorem c17_r2 (d0 : Option Addr) (base1 : Int) (sectors2 : Int) (run3 : Int) (e10 : Int) (K : Env → W) : RP c17 2 [(0, .pointer d0), (1, .int .i64 base1), (2, .int .i64 sectors2), (3, .int .i64 run3), (10, .int .i64 e10)] K =
    (K [(0, .pointer d0), (1, .int .i64 base1), (2, .int .i64 sectors2), (3, .int .i64 run3), (10, .int .i64 e10), (21, .bool ((e10 != (0 : Int))))]) := by kernel_rfl
@[go_sem] theorem c17_r3 (e10 : Int) (K : Env → W) : RP c17 3 [(10, .int .i64 e10)] K =
    (K [(8, .pointer none), (9, .int .i64 e10)]) := by kernel_rfl
@[go_sem] theorem c17_r4 (d0 : Option Addr) (base1 : Int) (sectors2 : Int) (run3 : Int) (K : Env → W) : RP c17 4 [(0, .pointer d0), (1, .int .i64 base1), (2, .int .i64 sectors2), (3, .int .i64 run3)] K =
    (nwc #[.pointer (d0), .int .i64 (base1), .int .i64 (sectors2), .int .i64 (run3), str (([] : List UInt8)), .int .i64 (0 : Int), .bool (false)] 66 fun y1_ => (K [(11, .pointer (some y1_))])) := by kernel_rfl
@[go_sem] theorem c17_r5 (l11 : Addr) (K : Env → W) : RP c17 5 [(11, .pointer (some l11))] K =
    (cal (eT2 eS eI) Tryz.prog 68 #[.pointer (some l11)] fun (y1_ : ((List UInt8) × Int)) => (K [(11, .pointer (some l11)), (12, str y1_.1), (13, .int .i64 y1_.2)])) := by kernel_rfl
@[go_sem] theorem c17_r6 (l11 : Addr) (s12 : List UInt8) (e13 : Int) (K : Env → W) : RP c17 6 [(11, .pointer (some l11)), (12, str s12), (13, .int .i64 e13)] K =
    (K [(11, .pointer (some l11)), (12, str s12), (13, .int .i64 e13), (35, .bool ((e13 != (0 : Int))))]) := by kernel_rfl
@[go_sem] theorem c17_r7 (e13 : Int) (K : Env → W) : RP c17 7 [(13, .int .i64 e13)] K =
    (K [(8, .pointer none), (9, .int .i64 e13)]) := by kernel_rfl
@[go_sem] theorem c17_r8 (l11 : Addr) (s12 : List UInt8) (K : Env → W) : RP c17 8 [(11, .pointer (some l11)), (12, str s12)] K =
    (cal eI Tryz.prog 69 #[str s12] fun (y1_ : Int) => (rq (0 ≤ (0 : Int) ∧ 0 ≤ y1_ ∧ y1_ ≤ ((s12).length : Int)) (st ((l11.add 4)) (str ((ss s12 0 y1_))) (K [(11, .pointer (some l11))])))) := by kernel_rfl
@[go_sem] theorem c17_r9 (l11 : Addr) (K : Env → W) : RP c17 9 [(11, .pointer (some l11))] K =
    (ld eS ((l11.add 4)) fun (y1_ : List UInt8) => (st ((l11.add 5)) (.int .i64 (((y1_).length : Int))) (K [(11, .pointer (some l11))]))) := by kernel_rfl
@[go_sem] theorem c17_r10 (l11 : Addr) (K : Env → W) : RP c17 10 [(11, .pointer (some l11))] K =
    (cal eI Tryz.prog 70 #[.pointer (some l11)] fun (y1_ : Int) => (K [(11, .pointer (some l11)), (14, .int .i64 y1_)])) := by kernel_rfl
@[go_sem] theorem c17_r11 (l11 : Addr) (e14 : Int) (K : Env → W) : RP c17 11 [(11, .pointer (some l11)), (14, .int .i64 e14)] K =
    (K [(11, .pointer (some l11)), (14, .int .i64 e14), (55, .bool ((e14 != (0 : Int))))]) := by kernel_rfl
@[go_sem] theorem c17_r12 (e14 : Int) (K : Env → W) : RP c17 12 [(14, .int .i64 e14)] K =
    (K [(8, .pointer none), (9, .int .i64 e14)]) := by kernel_rfl
@[go_sem] theorem c17_r13 (l11 : Addr) (K : Env → W) : RP c17 13 [(11, .pointer (some l11))] K =
    (K [(8, .pointer (some l11)), (9, .int .i64 (0 : Int))]) := by kernel_rfl
@[go_sem] theorem c17_o : c17.lo 1000000 = [8, 9] := rfl
@[go_sem] theorem c17_e (t8 : Option Addr) (t9 : Int) (k : Value → W) : RTp c17 [(8, .pointer t8), (9, .int .i64 t9)] k = (k (.tuple #[.pointer t8, .int .i64 t9])) := by kernel_rfl
theorem c17_ok : (c17.P.follows .mixedOrders && okc c17 c17.body) = true := by kernel_rfl
theorem c17_fn {e : Enc} {args : Array Value} {G : e.α → W} {L : List HP} {ρ : Env} (hρ : envA 0 args.toList = ρ) (hs : Nat.ble args.size 58 = true) (h : E L (D c17 (.seq (.reg 0) (.seq (.seq (.reg 1) (.seq (.reg 2) (.cond (.tmp 21) (.seq (.reg 3) (.ret)) (.skip)))) (.seq (.reg 4) (.seq (.reg 5) (.seq (.seq (.reg 6) (.cond (.tmp 35) (.seq (.reg 7) (.ret)) (.skip))) (.seq (.reg 8) (.seq (.reg 9) (.seq (.seq (.reg 10) (.seq (.reg 11) (.cond (.tmp 55) (.seq (.reg 12) (.ret)) (.skip)))) (.seq (.reg 13) (.ret)))))))))) (fnQ c17 e G) ρ)) : E L (cal e Tryz.prog 17 args G) :=
  d_fn (c := c17) Tryz.func17 (by kernel_rfl) (by kernel_rfl) (by kernel_rfl) c17_ok (by kernel_rfl) (by kernel_rfl) hρ hs h
/-! (*gharry.wal.Log).Append -/
noncomputable def c20 : Cfg := { P := Tryz.prog, n := 27, T := TT, body := (Tryz.f20.body).getD .skip, res := Tryz.f20.results.toList, li := lk [] [(0, [0, 1]), (1, [0, 3]), (2, [0, 3, 6]), (3, [6]), (4, [0, 3]), (5, [0, 7, 8]), (6, [8]), (7, [0, 7])], lo := lk [] [(0, [0, 3]), (1, [0, 3, 6]), (2, [0, 3, 6, 12]), (3, [4, 5]), (4, [0, 7, 8]), (5, [0, 7, 8, 20]), (6, [4, 5]), (7, [4, 5]), (1000000, [4, 5])], ord := lk (false, []) [] }
@[go_sem] theorem c20_i0 : c20.li 0 = [0, 1] := rfl
@[go_sem] theorem c20_i1 : c20.li 1 = [0, 3] := rfl
@[go_sem] theorem c20_i2 : c20.li 2 = [0, 3, 6] := rfl
@[go_sem] theorem c20_i3 : c20.li 3 = [6] := rfl
@[go_sem] theorem c20_i4 : c20.li 4 = [0, 3] := rfl
@[go_sem] theorem c20_i5 : c20.li 5 = [0, 7, 8] := rfl
@[go_sem] theorem c20_i6 : c20.li 6 = [8] := rfl
@[go_sem] theorem c20_i7 : c20.li 7 = [0, 7] := rfl
@[go_sem] theorem c20_r0 (l0 : Option Addr) (r1 : api_Rec) (K : Env → W) : RP c20 0 [(0, .pointer l0), (1, v_api_Rec r1)] K =
    (nwc #[.int .i64 r1.Kind, .int .i64 r1.Txn, .int .i64 r1.Prev, .int .i64 r1.Page, .int .i64 r1.Act, str r1.Key, str r1.Old, str r1.New, .int .i64 r1.Next, .slice r1.Images.1 r1.Images.2.1 r1.Images.2.2, .slice r1.Table.1 r1.Table.2.1 r1.Table.2.2, .int .i64 r1.Epoch, .int .i64 r1.Node] 36 fun y1_ => (K [(0, .pointer l0), (3, .pointer (some y1_))])) := by kernel_rfl
@[go_sem] theorem c20_r1 (l0 : Option Addr) (r3 : Addr) (K : Env → W) : RP c20 1 [(0, .pointer l0), (3, .pointer (some r3))] K =
    (cal eI Tryz.prog 75 #[.pointer l0] fun (y1_ : Int) => (K [(0, .pointer l0), (3, .pointer (some r3)), (6, .int .i64 y1_)])) := by kernel_rfl
@[go_sem] theorem c20_r2 (l0 : Option Addr) (r3 : Addr) (e6 : Int) (K : Env → W) : RP c20 2 [(0, .pointer l0), (3, .pointer (some r3)), (6, .int .i64 e6)] K =
    (K [(0, .pointer l0), (3, .pointer (some r3)), (6, .int .i64 e6), (12, .bool ((e6 != (0 : Int))))]) := by kernel_rfl
@[go_sem] theorem c20_r3 (e6 : Int) (K : Env → W) : RP c20 3 [(6, .int .i64 e6)] K =
    (K [(4, .int .i64 (0 : Int)), (5, .int .i64 e6)]) := by kernel_rfl
@[go_sem] theorem c20_r4 (l0 : Option Addr) (r3 : Addr) (K : Env → W) : RP c20 4 [(0, .pointer l0), (3, .pointer (some r3))] K =
    (ldn e_api_Rec 13 r3 fun (y1_ : api_Rec) => (cal (eT2 eS eI) Tryz.prog 18 #[v_api_Rec y1_] fun (y2_ : ((List UInt8) × Int)) => (K [(0, .pointer l0), (7, str y2_.1), (8, .int .i64 y2_.2)]))) := by kernel_rfl
@[go_sem] theorem c20_r5 (l0 : Option Addr) (s7 : List UInt8) (e8 : Int) (K : Env → W) : RP c20 5 [(0, .pointer l0), (7, str s7), (8, .int .i64 e8)] K =
    (K [(0, .pointer l0), (7, str s7), (8, .int .i64 e8), (20, .bool ((e8 != (0 : Int))))]) := by kernel_rfl
@[go_sem] theorem c20_r6 (e8 : Int) (K : Env → W) : RP c20 6 [(8, .int .i64 e8)] K =
    (K [(4, .int .i64 (0 : Int)), (5, .int .i64 e8)]) := by kernel_rfl
@[go_sem] theorem c20_r7 (l0 : Option Addr) (s7 : List UInt8) (K : Env → W) : RP c20 7 [(0, .pointer l0), (7, str s7)] K =
    (cal (eT2 eI eI) Tryz.prog 76 #[.pointer l0, str s7] fun (y1_ : (Int × Int)) => (K [(4, .int .i64 y1_.1), (5, .int .i64 y1_.2)])) := by kernel_rfl
@[go_sem] theorem c20_o : c20.lo 1000000 = [4, 5] := rfl
@[go_sem] theorem c20_e (t4 : Int) (t5 : Int) (k : Value → W) : RTp c20 [(4, .int .i64 t4), (5, .int .i64 t5)] k = (k (.tuple #[.int .i64 t4, .int .i64 t5])) := by kernel_rfl
theorem c20_ok : (c20.P.follows .mixedOrders && okc c20 c20.body) = true := by kernel_rfl
theorem c20_fn {e : Enc} {args : Array Value} {G : e.α → W} {L : List HP} {ρ : Env} (hρ : envA 0 args.toList = ρ) (hs : Nat.ble args.size 27 = true) (h : E L (D c20 (.seq (.reg 0) (.seq (.seq (.reg 1) (.seq (.reg 2) (.cond (.tmp 12) (.seq (.reg 3) (.ret)) (.skip)))) (.seq (.reg 4) (.seq (.seq (.reg 5) (.cond (.tmp 20) (.seq (.reg 6) (.ret)) (.skip))) (.seq (.reg 7) (.ret)))))) (fnQ c20 e G) ρ)) : E L (cal e Tryz.prog 20 args G) :=
  d_fn (c := c20) Tryz.func20 (by kernel_rfl) (by kernel_rfl) (by kernel_rfl) c20_ok (by kernel_rfl) (by kernel_rfl) hρ hs h
/-! (*gharry.wal.Log).Flush -/
noncomputable def c21 : Cfg := { P := Tryz.prog, n := 63, T := TT, body := (Tryz.f21.body).getD .skip, res := Tryz.f21.results.toList, li := lk [] [(0, [0]), (1, [0]), (2, [0, 3]), (3, [3]), (4, [0]), (5, []), (6, [0]), (7, [0, 4]), (8, [0, 4]), (9, [0, 4]), (10, [0, 4, 5]), (11, [0, 5]), (12, [0]), (13, [0, 6]), (14, [0, 6]), (15, [0]), (16, [])], lo := lk [] [(0, [0]), (1, [0, 3]), (2, [0, 3, 10]), (3, [2]), (4, [0, 21]), (5, [2]), (6, [0, 4]), (7, [0, 4, 34]), (8, [0, 4]), (9, [0, 4, 5]), (10, [0, 4, 5, 41]), (11, [2]), (12, [0, 6]), (13, [0, 6, 51]), (14, [2]), (15, []), (16, [2]), (1000000, [2])], ord := lk (false, []) [(4, (true, [(0, 1), (1, 1), (2, 1), (3, 0), (4, 1), (5, 1), (6, 1), (7, 0), (8, 1), (9, 1)]))] }
@[go_sem] theorem c21_i0 : c21.li 0 = [0] := rfl
@[go_sem] theorem c21_i1 : c21.li 1 = [0] := rfl
@[go_sem] theorem c21_i2 : c21.li 2 = [0, 3] := rfl
@[go_sem] theorem c21_i3 : c21.li 3 = [3] := rfl
@[go_sem] theorem c21_i4 : c21.li 4 = [0] := rfl
@[go_sem] theorem c21_i5 : c21.li 5 = [] := rfl
@[go_sem] theorem c21_i6 : c21.li 6 = [0] := rfl
@[go_sem] theorem c21_i7 : c21.li 7 = [0, 4] := rfl
@[go_sem] theorem c21_i8 : c21.li 8 = [0, 4] := rfl
@[go_sem] theorem c21_i9 : c21.li 9 = [0, 4] := rfl
@[go_sem] theorem c21_i10 : c21.li 10 = [0, 4, 5] := rfl
@[go_sem] theorem c21_i11 : c21.li 11 = [0, 5] := rfl
@[go_sem] theorem c21_i12 : c21.li 12 = [0] := rfl
@[go_sem] theorem c21_i13 : c21.li 13 = [0, 6] := rfl
@[go_sem] theorem c21_i14 : c21.li 14 = [0, 6] := rfl
@[go_sem] theorem c21_i15 : c21.li 15 = [0] := rfl
@[go_sem] theorem c21_i16 : c21.li 16 = [] := rfl
@[go_sem] theorem c21_r0 (l0 : Option Addr) (K : Env → W) : RP c21 0 [(0, .pointer l0)] K =
    (K [(0, .pointer l0)]) := by kernel_rfl
@[go_sem] theorem c21_r1 (l0 : Option Addr) (K : Env → W) : RP c21 1 [(0, .pointer l0)] K =
    (cal eI Tryz.prog 75 #[.pointer l0] fun (y1_ : Int) => (K [(0, .pointer l0), (3, .int .i64 y1_)])) := by kernel_rfl
@[go_sem] theorem c21_r2 (l0 : Option Addr) (e3 : Int) (K : Env → W) : RP c21 2 [(0, .pointer l0), (3, .int .i64 e3)] K =
    (K [(0, .pointer l0), (3, .int .i64 e3), (10, .bool ((e3 != (0 : Int))))]) := by kernel_rfl
@[go_sem] theorem c21_r3 (e3 : Int) (K : Env → W) : RP c21 3 [(3, .int .i64 e3)] K =
    (K [(2, .int .i64 e3)]) := by kernel_rfl
@[go_sem] theorem c21_r4 (l0 : Option Addr) (K : Env → W) : RP c21 4 [(0, .pointer l0)] K =
    (ph fun S0 => (nn l0 fun y1_ => (ldq S0 eI ((y1_.add 5)) fun (y2_ : Int) => (nn l0 fun y3_ => (ldq S0 eS ((y3_.add 4)) fun (y4_ : List UInt8) => (K [(0, .pointer l0), (21, .bool ((y2_ == ((y4_).length : Int))))])))))) := by kernel_rfl
@[go_sem] theorem c21_r5 (K : Env → W) : RP c21 5 [] K =
    (K [(2, .int .i64 (0 : Int))]) := by kernel_rfl
@[go_sem] theorem c21_r6 (l0 : Option Addr) (K : Env → W) : RP c21 6 [(0, .pointer l0)] K =
    (nn l0 fun y1_ => (ld eI ((y1_.add 5)) fun (y2_ : Int) => (rq ((58 : Int) ≠ 0) (K [(0, .pointer l0), (4, .int .i64 ((IntKind.wrap .i64 ((y2_).tdiv (58 : Int)))))])))) := by kernel_rfl
@[go_sem] theorem c21_r7 (l0 : Option Addr) (i4 : Int) (K : Env → W) : RP c21 7 [(0, .pointer l0), (4, .int .i64 i4)] K =
    (nn l0 fun y1_ => (ld eS ((y1_.add 4)) fun (y2_ : List UInt8) => (K [(0, .pointer l0), (4, .int .i64 i4), (34, .bool ((decide ((IntKind.wrap .i64 (i4 * (58 : Int))) < ((y2_).length : Int)))))]))) := by kernel_rfl
@[go_sem] theorem c21_r8 (l0 : Option Addr) (i4 : Int) (K : Env → W) : RP c21 8 [(0, .pointer l0), (4, .int .i64 i4)] K =
    (K [(0, .pointer l0), (4, .int .i64 ((IntKind.wrap .i64 (i4 + (1 : Int)))))]) := by kernel_rfl
@[go_sem] theorem c21_r9 (l0 : Option Addr) (i4 : Int) (K : Env → W) : RP c21 9 [(0, .pointer l0), (4, .int .i64 i4)] K =
    (cal eI Tryz.prog 77 #[.pointer l0, .int .i64 i4] fun (y1_ : Int) => (K [(0, .pointer l0), (4, .int .i64 i4), (5, .int .i64 y1_)])) := by kernel_rfl
@[go_sem] theorem c21_r10 (l0 : Option Addr) (i4 : Int) (e5 : Int) (K : Env → W) : RP c21 10 [(0, .pointer l0), (4, .int .i64 i4), (5, .int .i64 e5)] K =
    (K [(0, .pointer l0), (4, .int .i64 i4), (5, .int .i64 e5), (41, .bool ((e5 != (0 : Int))))]) := by kernel_rfl
@[go_sem] theorem c21_r11 (l0 : Option Addr) (e5 : Int) (K : Env → W) : RP c21 11 [(0, .pointer l0), (5, .int .i64 e5)] K =
    (cal eI Tryz.prog 78 #[.pointer l0, .int .i64 e5] fun (y1_ : Int) => (K [(2, .int .i64 y1_)])) := by kernel_rfl
@[go_sem] theorem c21_r12 (l0 : Option Addr) (K : Env → W) : RP c21 12 [(0, .pointer l0)] K =
    (nn l0 fun y1_ => (ld eP y1_ fun (y2_ : Option Addr) => (cal eI Tryz.prog 79 #[.pointer y2_] fun (y3_ : Int) => (K [(0, .pointer l0), (6, .int .i64 y3_)])))) := by kernel_rfl
@[go_sem] theorem c21_r13 (l0 : Option Addr) (e6 : Int) (K : Env → W) : RP c21 13 [(0, .pointer l0), (6, .int .i64 e6)] K =
    (K [(0, .pointer l0), (6, .int .i64 e6), (51, .bool ((e6 != (0 : Int))))]) := by kernel_rfl
@[go_sem] theorem c21_r14 (l0 : Option Addr) (e6 : Int) (K : Env → W) : RP c21 14 [(0, .pointer l0), (6, .int .i64 e6)] K =
    (cal eI Tryz.prog 78 #[.pointer l0, .int .i64 e6] fun (y1_ : Int) => (K [(2, .int .i64 y1_)])) := by kernel_rfl
@[go_sem] theorem c21_r15 (l0 : Option Addr) (K : Env → W) : RP c21 15 [(0, .pointer l0)] K =
    (nn l0 fun y1_ => (ld eS ((y1_.add 4)) fun (y2_ : List UInt8) => (nn l0 fun y3_ => (st ((y3_.add 5)) (.int .i64 (((y2_).length : Int))) (K []))))) := by kernel_rfl
@[go_sem] theorem c21_r16 (K : Env → W) : RP c21 16 [] K =
    (K [(2, .int .i64 (0 : Int))]) := by kernel_rfl
@[go_sem] theorem c21_o : c21.lo 1000000 = [2] := rfl
@[go_sem] theorem c21_e (t2 : Int) (k : Value → W) : RTp c21 [(2, .int .i64 t2)] k = (k (.int .i64 t2)) := by kernel_rfl
theorem c21_ok : (c21.P.follows .mixedOrders && okc c21 c21.body) = true := by kernel_rfl
theorem c21_fn {e : Enc} {args : Array Value} {G : e.α → W} {L : List HP} {ρ : Env} (hρ : envA 0 args.toList = ρ) (hs : Nat.ble args.size 63 = true) (h : E L (D c21 (.seq (.reg 0) (.seq (.seq (.reg 1) (.seq (.reg 2) (.cond (.tmp 10) (.seq (.reg 3) (.ret)) (.skip)))) (.seq (.seq (.reg 4) (.cond (.tmp 21) (.seq (.reg 5) (.ret)) (.skip))) (.seq (.seq (.reg 6) (.block 0 (.loop (.seq (.seq (.reg 7) (.cond (.tmp 34) (.skip) (.exit 0))) (.seq (.block 1 (.seq (.reg 9) (.seq (.reg 10) (.cond (.tmp 41) (.seq (.reg 11) (.ret)) (.skip))))) (.reg 8)))))) (.seq (.seq (.reg 12) (.seq (.reg 13) (.cond (.tmp 51) (.seq (.reg 14) (.ret)) (.skip)))) (.seq (.reg 15) (.seq (.reg 16) (.ret)))))))) (fnQ c21 e G) ρ)) : E L (cal e Tryz.prog 21 args G) :=
  d_fn (c := c21) Tryz.func21 (by kernel_rfl) (by kernel_rfl) (by kernel_rfl) c21_ok (by kernel_rfl) (by kernel_rfl) hρ hs h
-- loop (first region 7): live slots 0:l0 4:i4, of which it writes [4]
/-! (*gharry.wal.Log).Records -/
noncomputable def c25 : Cfg := { P := Tryz.prog, n := 39, T := TT, body := (Tryz.f25.body).getD .skip, res := Tryz.f25.results.toList, li := lk [] [(0, [0]), (1, [0]), (2, []), (3, [0]), (4, [0, 4]), (5, [0, 4, 5]), (6, [0, 4, 5, 6]), (7, [0, 4, 5, 6]), (8, [0, 4, 5, 6, 7, 8, 9]), (9, [0, 4, 5, 6, 7, 8]), (10, [0, 4, 5, 8]), (11, [4, 5])], lo := lk [] [(0, [0]), (1, [0, 11]), (2, [2, 3]), (3, [0, 4]), (4, [0, 4, 5]), (5, [0, 4, 5, 6]), (6, [0, 4, 5, 6, 18]), (7, [0, 4, 5, 6, 7, 8, 9]), (8, [0, 4, 5, 6, 7, 8, 27]), (9, [0, 4, 5, 8]), (10, [0, 4, 5, 6]), (11, [2, 3]), (1000000, [2, 3])], ord := lk (false, []) [] }
@[go_sem] theorem c25_i0 : c25.li 0 = [0] := rfl
@[go_sem] theorem c25_i1 : c25.li 1 = [0] := rfl
@[go_sem] theorem c25_i2 : c25.li 2 = [] := rfl
@[go_sem] theorem c25_i3 : c25.li 3 = [0] := rfl
@[go_sem] theorem c25_i4 : c25.li 4 = [0, 4] := rfl
@[go_sem] theorem c25_i5 : c25.li 5 = [0, 4, 5] := rfl
@[go_sem] theorem c25_i6 : c25.li 6 = [0, 4, 5, 6] := rfl
@[go_sem] theorem c25_i7 : c25.li 7 = [0, 4, 5, 6] := rfl
@[go_sem] theorem c25_i8 : c25.li 8 = [0, 4, 5, 6, 7, 8, 9] := rfl
@[go_sem] theorem c25_i9 : c25.li 9 = [0, 4, 5, 6, 7, 8] := rfl
@[go_sem] theorem c25_i10 : c25.li 10 = [0, 4, 5, 8] := rfl
@[go_sem] theorem c25_i11 : c25.li 11 = [4, 5] := rfl
@[go_sem] theorem c25_r0 (l0 : Option Addr) (K : Env → W) : RP c25 0 [(0, .pointer l0)] K =
    (K [(0, .pointer l0)]) := by kernel_rfl
@[go_sem] theorem c25_r1 (l0 : Option Addr) (K : Env → W) : RP c25 1 [(0, .pointer l0)] K =
    (cal eB Tryz.prog 83 #[.pointer l0] fun (y1_ : Bool) => (K [(0, .pointer l0), (11, .bool y1_)])) := by kernel_rfl
@[go_sem] theorem c25_r2 (K : Env → W) : RP c25 2 [] K =
    (K [(2, .slice none 0 0), (3, .slice none 0 0)]) := by kernel_rfl
@[go_sem] theorem c25_r3 (l0 : Option Addr) (K : Env → W) : RP c25 3 [(0, .pointer l0)] K =
    (K [(0, .pointer l0), (4, .slice none 0 0)]) := by kernel_rfl
@[go_sem] theorem c25_r4 (l0 : Option Addr) (out4p : Option Addr) (out4n out4c : Nat) (K : Env → W) : RP c25 4 [(0, .pointer l0), (4, .slice out4p out4n out4c)] K =
    (K [(0, .pointer l0), (4, .slice out4p out4n out4c), (5, .slice none 0 0)]) := by kernel_rfl
@[go_sem] theorem c25_r5 (l0 : Option Addr) (out4p : Option Addr) (out4n out4c : Nat) (at5p : Option Addr) (at5n at5c : Nat) (K : Env → W) : RP c25 5 [(0, .pointer l0), (4, .slice out4p out4n out4c), (5, .slice at5p at5n at5c)] K =
    (K [(0, .pointer l0), (4, .slice out4p out4n out4c), (5, .slice at5p at5n at5c), (6, .int .i64 (1 : Int))]) := by kernel_rfl
@[go_sem] theorem c25_r6 (l0 : Option Addr) (out4p : Option Addr) (out4n out4c : Nat) (at5p : Option Addr) (at5n at5c : Nat) (lsn6 : Int) (K : Env → W) : RP c25 6 [(0, .pointer l0), (4, .slice out4p out4n out4c), (5, .slice at5p at5n at5c), (6, .int .i64 lsn6)] K =
    (nn l0 fun y1_ => (ld eS ((y1_.add 4)) fun (y2_ : List UInt8) => (K [(0, .pointer l0), (4, .slice out4p out4n out4c), (5, .slice at5p at5n at5c), (6, .int .i64 lsn6), (18, .bool ((decide (lsn6 ≤ ((y2_).length : Int)))))]))) := by kernel_rfl
@[go_sem] theorem c25_r7 (l0 : Option Addr) (out4p : Option Addr) (out4n out4c : Nat) (at5p : Option Addr) (at5n at5c : Nat) (lsn6 : Int) (K : Env → W) : RP c25 7 [(0, .pointer l0), (4, .slice out4p out4n out4c), (5, .slice at5p at5n at5c), (6, .int .i64 lsn6)] K =
    (cal (eT3 e_api_Rec eI eI) Tryz.prog 35 #[.pointer l0, .int .i64 lsn6] fun (y1_ : (api_Rec × Int × Int)) => (nwc #[.int .i64 (0 : Int), .int .i64 (0 : Int), .int .i64 (0 : Int), .int .i64 (0 : Int), .int .i64 (0 : Int), str (([] : List UInt8)), str (([] : List UInt8)), str (([] : List UInt8)), .int .i64 (0 : Int), .slice none 0 0, .slice none 0 0, .int .i64 (0 : Int), .int .i64 (0 : Int)] 36 fun y2_ => (stl [.int .i64 y1_.1.Kind, .int .i64 y1_.1.Txn, .int .i64 y1_.1.Prev, .int .i64 y1_.1.Page, .int .i64 y1_.1.Act, str y1_.1.Key, str y1_.1.Old, str y1_.1.New, .int .i64 y1_.1.Next, .slice y1_.1.Images.1 y1_.1.Images.2.1 y1_.1.Images.2.2, .slice y1_.1.Table.1 y1_.1.Table.2.1 y1_.1.Table.2.2, .int .i64 y1_.1.Epoch, .int .i64 y1_.1.Node] y2_ 0 (K [(0, .pointer l0), (4, .slice out4p out4n out4c), (5, .slice at5p at5n at5c), (6, .int .i64 lsn6), (7, .pointer (some y2_)), (8, .int .i64 y1_.2.1), (9, .int .i64 y1_.2.2)])))) := by kernel_rfl
@[go_sem] theorem c25_r8 (l0 : Option Addr) (out4p : Option Addr) (out4n out4c : Nat) (at5p : Option Addr) (at5n at5c : Nat) (lsn6 : Int) (r7 : Addr) (next8 : Int) (e9 : Int) (K : Env → W) : RP c25 8 [(0, .pointer l0), (4, .slice out4p out4n out4c), (5, .slice at5p at5n at5c), (6, .int .i64 lsn6), (7, .pointer (some r7)), (8, .int .i64 next8), (9, .int .i64 e9)] K =
    (K [(0, .pointer l0), (4, .slice out4p out4n out4c), (5, .slice at5p at5n at5c), (6, .int .i64 lsn6), (7, .pointer (some r7)), (8, .int .i64 next8), (27, .bool ((e9 != (0 : Int))))]) := by kernel_rfl
@[go_sem] theorem c25_r9 (l0 : Option Addr) (out4p : Option Addr) (out4n out4c : Nat) (at5p : Option Addr) (at5n at5c : Nat) (lsn6 : Int) (r7 : Addr) (next8 : Int) (K : Env → W) : RP c25 9 [(0, .pointer l0), (4, .slice out4p out4n out4c), (5, .slice at5p at5n at5c), (6, .int .i64 lsn6), (7, .pointer (some r7)), (8, .int .i64 next8)] K =
    (ldn e_api_Rec 13 r7 fun (y1_ : api_Rec) => (nwc #[.int .i64 y1_.Kind, .int .i64 y1_.Txn, .int .i64 y1_.Prev, .int .i64 y1_.Page, .int .i64 y1_.Act, str y1_.Key, str y1_.Old, str y1_.New, .int .i64 y1_.Next, .slice y1_.Images.1 y1_.Images.2.1 y1_.Images.2.2, .slice y1_.Table.1 y1_.Table.2.1 y1_.Table.2.2, .int .i64 y1_.Epoch, .int .i64 y1_.Node] 36 fun y2_ => (val eSl Tryz.prog (oB_append #[22, 22] 22 #[.slice out4p out4n out4c, .slice ((some y2_)) 1 1]) fun (y3_ : (Option Addr × Nat × Nat)) => (nwc #[.int .i64 lsn6] 3 fun y4_ => (val eSl Tryz.prog (oB_append #[45, 45] 45 #[.slice at5p at5n at5c, .slice ((some y4_)) 1 1]) fun (y5_ : (Option Addr × Nat × Nat)) => (K [(0, .pointer l0), (4, .slice y3_.1 y3_.2.1 y3_.2.2), (5, .slice y5_.1 y5_.2.1 y5_.2.2), (8, .int .i64 next8)])))))) := by kernel_rfl
@[go_sem] theorem c25_r10 (l0 : Option Addr) (out4p : Option Addr) (out4n out4c : Nat) (at5p : Option Addr) (at5n at5c : Nat) (next8 : Int) (K : Env → W) : RP c25 10 [(0, .pointer l0), (4, .slice out4p out4n out4c), (5, .slice at5p at5n at5c), (8, .int .i64 next8)] K =
    (K [(0, .pointer l0), (4, .slice out4p out4n out4c), (5, .slice at5p at5n at5c), (6, .int .i64 next8)]) := by kernel_rfl
@[go_sem] theorem c25_r11 (out4p : Option Addr) (out4n out4c : Nat) (at5p : Option Addr) (at5n at5c : Nat) (K : Env → W) : RP c25 11 [(4, .slice out4p out4n out4c), (5, .slice at5p at5n at5c)] K =
    (K [(2, .slice out4p out4n out4c), (3, .slice at5p at5n at5c)]) := by kernel_rfl
@[go_sem] theorem c25_o : c25.lo 1000000 = [2, 3] := rfl
@[go_sem] theorem c25_e (t2p : Option Addr) (t2n t2c : Nat) (t3p : Option Addr) (t3n t3c : Nat) (k : Value → W) : RTp c25 [(2, .slice t2p t2n t2c), (3, .slice t3p t3n t3c)] k = (k (.tuple #[.slice t2p t2n t2c, .slice t3p t3n t3c])) := by kernel_rfl
theorem c25_ok : (c25.P.follows .mixedOrders && okc c25 c25.body) = true := by kernel_rfl
theorem c25_fn {e : Enc} {args : Array Value} {G : e.α → W} {L : List HP} {ρ : Env} (hρ : envA 0 args.toList = ρ) (hs : Nat.ble args.size 39 = true) (h : E L (D c25 (.seq (.reg 0) (.seq (.seq (.reg 1) (.cond (.tmp 11) (.seq (.reg 2) (.ret)) (.skip))) (.seq (.reg 3) (.seq (.reg 4) (.seq (.seq (.reg 5) (.block 0 (.loop (.seq (.seq (.reg 6) (.cond (.tmp 18) (.skip) (.exit 0))) (.block 1 (.seq (.reg 7) (.seq (.seq (.reg 8) (.cond (.tmp 27) (.exit 0) (.skip))) (.seq (.reg 9) (.reg 10))))))))) (.seq (.reg 11) (.ret))))))) (fnQ c25 e G) ρ)) : E L (cal e Tryz.prog 25 args G) :=
  d_fn (c := c25) Tryz.func25 (by kernel_rfl) (by kernel_rfl) (by kernel_rfl) c25_ok (by kernel_rfl) (by kernel_rfl) hρ hs h
-- loop (first region 6): live slots 0:l0 4:out4 5:at5 6:lsn6, of which it writes [4, 5, 6]
/-! (*gharry.wal.Log).End -/
noncomputable def c28 : Cfg := { P := Tryz.prog, n := 11, T := TT, body := (Tryz.f28.body).getD .skip, res := Tryz.f28.results.toList, li := lk [] [(0, [0]), (1, [0]), (2, []), (3, [0])], lo := lk [] [(0, [0]), (1, [0, 4]), (2, [2]), (3, [2]), (1000000, [2])], ord := lk (false, []) [] }
@[go_sem] theorem c28_i0 : c28.li 0 = [0] := rfl
@[go_sem] theorem c28_i1 : c28.li 1 = [0] := rfl
@[go_sem] theorem c28_i2 : c28.li 2 = [] := rfl
@[go_sem] theorem c28_i3 : c28.li 3 = [0] := rfl
@[go_sem] theorem c28_r0 (l0 : Option Addr) (K : Env → W) : RP c28 0 [(0, .pointer l0)] K =
    (K [(0, .pointer l0)]) := by kernel_rfl
@[go_sem] theorem c28_r1 (l0 : Option Addr) (K : Env → W) : RP c28 1 [(0, .pointer l0)] K =
    (cal eB Tryz.prog 83 #[.pointer l0] fun (y1_ : Bool) => (K [(0, .pointer l0), (4, .bool y1_)])) := by kernel_rfl
@[go_sem] theorem c28_r2 (K : Env → W) : RP c28 2 [] K =
    (K [(2, .int .i64 (0 : Int))]) := by kernel_rfl
@[go_sem] theorem c28_r3 (l0 : Option Addr) (K : Env → W) : RP c28 3 [(0, .pointer l0)] K =
    (nn l0 fun y1_ => (ld eS ((y1_.add 4)) fun (y2_ : List UInt8) => (K [(2, .int .i64 ((IntKind.wrap .i64 (((y2_).length : Int) + (1 : Int)))))]))) := by kernel_rfl
@[go_sem] theorem c28_o : c28.lo 1000000 = [2] := rfl
@[go_sem] theorem c28_e (t2 : Int) (k : Value → W) : RTp c28 [(2, .int .i64 t2)] k = (k (.int .i64 t2)) := by kernel_rfl
theorem c28_ok : (c28.P.follows .mixedOrders && okc c28 c28.body) = true := by kernel_rfl
theorem c28_fn {e : Enc} {args : Array Value} {G : e.α → W} {L : List HP} {ρ : Env} (hρ : envA 0 args.toList = ρ) (hs : Nat.ble args.size 11 = true) (h : E L (D c28 (.seq (.reg 0) (.seq (.seq (.reg 1) (.cond (.tmp 4) (.seq (.reg 2) (.ret)) (.skip))) (.seq (.reg 3) (.ret)))) (fnQ c28 e G) ρ)) : E L (cal e Tryz.prog 28 args G) :=
  d_fn (c := c28) Tryz.func28 (by kernel_rfl) (by kernel_rfl) (by kernel_rfl) c28_ok (by kernel_rfl) (by kernel_rfl) hρ hs h
/-! (*gharry.wal.Log).Durable -/
/-! (*gharry.wal.Log).Left -/
noncomputable def c30 : Cfg := { P := Tryz.prog, n := 16, T := TT, body := (Tryz.f30.body).getD .skip, res := Tryz.f30.results.toList, li := lk [] [(0, [0]), (1, [0]), (2, []), (3, [0])], lo := lk [] [(0, [0]), (1, [0, 4]), (2, [2]), (3, [2]), (1000000, [2])], ord := lk (false, []) [(3, (true, [(0, 1), (1, 1), (2, 1), (3, 0), (4, 1), (5, 1), (6, 1), (7, 1), (8, 0), (9, 1), (10, 1), (11, 1)]))] }
@[go_sem] theorem c30_i0 : c30.li 0 = [0] := rfl
@[go_sem] theorem c30_i1 : c30.li 1 = [0] := rfl
@[go_sem] theorem c30_i2 : c30.li 2 = [] := rfl
@[go_sem] theorem c30_i3 : c30.li 3 = [0] := rfl
@[go_sem] theorem c30_r0 (l0 : Option Addr) (K : Env → W) : RP c30 0 [(0, .pointer l0)] K =
    (K [(0, .pointer l0)]) := by kernel_rfl
@[go_sem] theorem c30_r1 (l0 : Option Addr) (K : Env → W) : RP c30 1 [(0, .pointer l0)] K =
    (cal eB Tryz.prog 83 #[.pointer l0] fun (y1_ : Bool) => (K [(0, .pointer l0), (4, .bool y1_)])) := by kernel_rfl
@[go_sem] theorem c30_r2 (K : Env → W) : RP c30 2 [] K =
    (K [(2, .int .i64 (0 : Int))]) := by kernel_rfl
@[go_sem] theorem c30_r3 (l0 : Option Addr) (K : Env → W) : RP c30 3 [(0, .pointer l0)] K =
    (ph fun S0 => (nn l0 fun y1_ => (ldq S0 eI ((y1_.add 2)) fun (y2_ : Int) => (nn l0 fun y3_ => (ldq S0 eS ((y3_.add 4)) fun (y4_ : List UInt8) => (K [(2, .int .i64 ((IntKind.wrap .i64 ((IntKind.wrap .i64 (y2_ * (58 : Int))) - ((y4_).length : Int)))))])))))) := by kernel_rfl
@[go_sem] theorem c30_o : c30.lo 1000000 = [2] := rfl
@[go_sem] theorem c30_e (t2 : Int) (k : Value → W) : RTp c30 [(2, .int .i64 t2)] k = (k (.int .i64 t2)) := by kernel_rfl
theorem c30_ok : (c30.P.follows .mixedOrders && okc c30 c30.body) = true := by kernel_rfl
theorem c30_fn {e : Enc} {args : Array Value} {G : e.α → W} {L : List HP} {ρ : Env} (hρ : envA 0 args.toList = ρ) (hs : Nat.ble args.size 16 = true) (h : E L (D c30 (.seq (.reg 0) (.seq (.seq (.reg 1) (.cond (.tmp 4) (.seq (.reg 2) (.ret)) (.skip))) (.seq (.reg 3) (.ret)))) (fnQ c30 e G) ρ)) : E L (cal e Tryz.prog 30 args G) :=
  d_fn (c := c30) Tryz.func30 (by kernel_rfl) (by kernel_rfl) (by kernel_rfl) c30_ok (by kernel_rfl) (by kernel_rfl) hρ hs h
/-! (*gharry.wal.Log).Run -/
/-! (*gharry.wal.Log).Bound -/
noncomputable def c32 : Cfg := { P := Tryz.prog, n := 31, T := TT, body := (Tryz.f32.body).getD .skip, res := Tryz.f32.results.toList, li := lk [] [(0, [0, 1]), (1, [0, 1])], lo := lk [] [(0, [0, 1]), (1, [4]), (1000000, [4])], ord := lk (false, []) [] }
@[go_sem] theorem c32_i0 : c32.li 0 = [0, 1] := rfl
@[go_sem] theorem c32_i1 : c32.li 1 = [0, 1] := rfl
@[go_sem] theorem c32_r0 (l0 : Option Addr) (lsn1 : Int) (K : Env → W) : RP c32 0 [(0, .pointer l0), (1, .int .i64 lsn1)] K =
    (K [(0, .pointer l0), (1, .int .i64 lsn1)]) := by kernel_rfl
@[go_sem] theorem c32_r1 (l0 : Option Addr) (lsn1 : Int) (K : Env → W) : RP c32 1 [(0, .pointer l0), (1, .int .i64 lsn1)] K =
    (cal eB Tryz.prog 83 #[.pointer l0] fun (y1_ : Bool) => (cnd ((!y1_)) (cnd ((decide ((1 : Int) ≤ lsn1))) (cal eI Tryz.prog 28 #[.pointer l0] fun (y2_ : Int) => (cnd ((decide (lsn1 ≤ y2_))) (nn l0 fun y3_ => (ld eS ((y3_.add 4)) fun (y4_ : List UInt8) => (rq (0 ≤ (0 : Int) ∧ 0 ≤ (IntKind.wrap .i64 (lsn1 - (1 : Int))) ∧ (IntKind.wrap .i64 (lsn1 - (1 : Int))) ≤ ((y4_).length : Int)) (cal eI Tryz.prog 69 #[str ((ss y4_ 0 ((IntKind.wrap .i64 (lsn1 - (1 : Int))))))] fun (y5_ : Int) => (K [(4, .bool ((y5_ == (IntKind.wrap .i64 (lsn1 - (1 : Int))))))]))))) (K [(4, .bool false)]))) (K [(4, .bool false)])) (K [(4, .bool false)]))) := by kernel_rfl
@[go_sem] theorem c32_o : c32.lo 1000000 = [4] := rfl
@[go_sem] theorem c32_e (t4 : Bool) (k : Value → W) : RTp c32 [(4, .bool t4)] k = (k (.bool t4)) := by kernel_rfl
theorem c32_ok : (c32.P.follows .mixedOrders && okc c32 c32.body) = true := by kernel_rfl
theorem c32_fn {e : Enc} {args : Array Value} {G : e.α → W} {L : List HP} {ρ : Env} (hρ : envA 0 args.toList = ρ) (hs : Nat.ble args.size 31 = true) (h : E L (D c32 (.seq (.reg 0) (.seq (.reg 1) (.ret))) (fnQ c32 e G) ρ)) : E L (cal e Tryz.prog 32 args G) :=
  d_fn (c := c32) Tryz.func32 (by kernel_rfl) (by kernel_rfl) (by kernel_rfl) c32_ok (by kernel_rfl) (by kernel_rfl) hρ hs h
/-! (*gharry.wal.Log).Cut -/
noncomputable def c33 : Cfg := { P := Tryz.prog, n := 83, T := TT, body := (Tryz.f33.body).getD .skip, res := Tryz.f33.results.toList, li := lk [] [(0, [0, 1, 2]), (1, [0, 1, 2]), (2, [0, 1, 2, 7]), (3, [7]), (4, [0, 1, 2]), (5, []), (6, [0, 1, 2]), (7, []), (8, [0, 1, 2]), (9, []), (10, [0, 1, 2]), (11, [0]), (12, [0]), (13, [0]), (14, [0, 8]), (15, [8]), (16, [0])], lo := lk [] [(0, [0, 1, 2]), (1, [0, 1, 2, 7]), (2, [0, 1, 2, 7, 12]), (3, [6]), (4, [0, 1, 2, 14]), (5, [6]), (6, [0, 1, 2, 25]), (7, [6]), (8, [0, 1, 2, 34]), (9, [6]), (10, [0]), (11, [0]), (12, [0, 75]), (13, [0, 8]), (14, [0, 8, 79]), (15, [6]), (16, [6]), (1000000, [6])], ord := lk (false, []) [(11, (true, [(0, 1), (1, 1), (2, 1), (3, 1), (4, 0), (5, 1), (6, 1), (7, 1), (8, 0), (9, 1), (10, 1), (11, 1), (12, 1), (13, 4)])), (12, (true, [(0, 1), (1, 1), (2, 1), (3, 0), (4, 1), (5, 1), (6, 1), (7, 0), (8, 1), (9, 1)]))] }
@[go_sem] theorem c33_i0 : c33.li 0 = [0, 1, 2] := rfl
@[go_sem] theorem c33_i1 : c33.li 1 = [0, 1, 2] := rfl
@[go_sem] theorem c33_i2 : c33.li 2 = [0, 1, 2, 7] := rfl
@[go_sem] theorem c33_i3 : c33.li 3 = [7] := rfl
@[go_sem] theorem c33_i4 : c33.li 4 = [0, 1, 2] := rfl
@[go_sem] theorem c33_i5 : c33.li 5 = [] := rfl
@[go_sem] theorem c33_i6 : c33.li 6 = [0, 1, 2] := rfl
@[go_sem] theorem c33_i7 : c33.li 7 = [] := rfl
@[go_sem] theorem c33_i8 : c33.li 8 = [0, 1, 2] := rfl
@[go_sem] theorem c33_i9 : c33.li 9 = [] := rfl
@[go_sem] theorem c33_i10 : c33.li 10 = [0, 1, 2] := rfl
@[go_sem] theorem c33_i11 : c33.li 11 = [0] := rfl
@[go_sem] theorem c33_i12 : c33.li 12 = [0] := rfl
@[go_sem] theorem c33_i13 : c33.li 13 = [0] := rfl
@[go_sem] theorem c33_i14 : c33.li 14 = [0, 8] := rfl
@[go_sem] theorem c33_i15 : c33.li 15 = [8] := rfl
@[go_sem] theorem c33_i16 : c33.li 16 = [0] := rfl
@[go_sem] theorem c33_r0 (l0 : Option Addr) (lsn1 : Int) (run2 : Int) (K : Env → W) : RP c33 0 [(0, .pointer l0), (1, .int .i64 lsn1), (2, .int .i64 run2)] K =
    (K [(0, .pointer l0), (1, .int .i64 lsn1), (2, .int .i64 run2)]) := by kernel_rfl
@[go_sem] theorem c33_r1 (l0 : Option Addr) (lsn1 : Int) (run2 : Int) (K : Env → W) : RP c33 1 [(0, .pointer l0), (1, .int .i64 lsn1), (2, .int .i64 run2)] K =
    (cal eI Tryz.prog 75 #[.pointer l0] fun (y1_ : Int) => (K [(0, .pointer l0), (1, .int .i64 lsn1), (2, .int .i64 run2), (7, .int .i64 y1_)])) := by kernel_rfl
@[go_sem] theorem c33_r2 (l0 : Option Addr) (lsn1 : Int) (run2 : Int) (e7 : Int) (K : Env → W) : RP c33 2 [(0, .pointer l0), (1, .int .i64 lsn1), (2, .int .i64 run2), (7, .int .i64 e7)] K =
    (K [(0, .pointer l0), (1, .int .i64 lsn1), (2, .int .i64 run2), (7, .int .i64 e7), (12, .bool ((e7 != (0 : Int))))]) := by kernel_rfl
@[go_sem] theorem c33_r3 (e7 : Int) (K : Env → W) : RP c33 3 [(7, .int .i64 e7)] K =
    (K [(6, .int .i64 e7)]) := by kernel_rfl
@[go_sem] theorem c33_r4 (l0 : Option Addr) (lsn1 : Int) (run2 : Int) (K : Env → W) : RP c33 4 [(0, .pointer l0), (1, .int .i64 lsn1), (2, .int .i64 run2)] K =
    (nn l0 fun y1_ => (ld eI ((y1_.add 3)) fun (y2_ : Int) => (cnd ((decide (run2 ≤ y2_))) (K [(0, .pointer l0), (1, .int .i64 lsn1), (2, .int .i64 run2), (14, .bool true)]) (K [(0, .pointer l0), (1, .int .i64 lsn1), (2, .int .i64 run2), (14, .bool ((decide ((4294967296 : Int) ≤ run2))))])))) := by kernel_rfl
@[go_sem] theorem c33_r5 (K : Env → W) : RP c33 5 [] K =
    (K [(6, .int .i64 (1 : Int))]) := by kernel_rfl
@[go_sem] theorem c33_r6 (l0 : Option Addr) (lsn1 : Int) (run2 : Int) (K : Env → W) : RP c33 6 [(0, .pointer l0), (1, .int .i64 lsn1), (2, .int .i64 run2)] K =
    (cnd ((decide (lsn1 < (1 : Int)))) (K [(0, .pointer l0), (1, .int .i64 lsn1), (2, .int .i64 run2), (25, .bool true)]) (cal eI Tryz.prog 28 #[.pointer l0] fun (y1_ : Int) => (K [(0, .pointer l0), (1, .int .i64 lsn1), (2, .int .i64 run2), (25, .bool ((decide (y1_ < lsn1))))]))) := by kernel_rfl
@[go_sem] theorem c33_r7 (K : Env → W) : RP c33 7 [] K =
    (K [(6, .int .i64 (6 : Int))]) := by kernel_rfl
@[go_sem] theorem c33_r8 (l0 : Option Addr) (lsn1 : Int) (run2 : Int) (K : Env → W) : RP c33 8 [(0, .pointer l0), (1, .int .i64 lsn1), (2, .int .i64 run2)] K =
    (cal eB Tryz.prog 32 #[.pointer l0, .int .i64 lsn1] fun (y1_ : Bool) => (K [(0, .pointer l0), (1, .int .i64 lsn1), (2, .int .i64 run2), (34, .bool ((!y1_)))])) := by kernel_rfl
@[go_sem] theorem c33_r9 (K : Env → W) : RP c33 9 [] K =
    (K [(6, .int .i64 (4 : Int))]) := by kernel_rfl
@[go_sem] theorem c33_r10 (l0 : Option Addr) (lsn1 : Int) (run2 : Int) (K : Env → W) : RP c33 10 [(0, .pointer l0), (1, .int .i64 lsn1), (2, .int .i64 run2)] K =
    (nn l0 fun y1_ => (ld eS ((y1_.add 4)) fun (y2_ : List UInt8) => (rq (0 ≤ (0 : Int) ∧ 0 ≤ (IntKind.wrap .i64 (lsn1 - (1 : Int))) ∧ (IntKind.wrap .i64 (lsn1 - (1 : Int))) ≤ ((y2_).length : Int)) (nn l0 fun y3_ => (st ((y3_.add 4)) (str ((ss y2_ 0 ((IntKind.wrap .i64 (lsn1 - (1 : Int))))))) (nn l0 fun y4_ => (st ((y4_.add 3)) (.int .i64 run2) (K [(0, .pointer l0)])))))))) := by kernel_rfl
@[go_sem] theorem c33_r11 (l0 : Option Addr) (K : Env → W) : RP c33 11 [(0, .pointer l0)] K =
    (ph fun S0 => (nn l0 fun y1_ => (ldq S0 eI ((y1_.add 5)) fun (y2_ : Int) => (nn l0 fun y3_ => (ldq S0 eS ((y3_.add 4)) fun (y4_ : List UInt8) => (nn l0 fun y5_ => (st ((y5_.add 5)) (.int .i64 ((if ((y4_).length : Int) < y2_ then ((y4_).length : Int) else y2_))) (K [(0, .pointer l0)])))))))) := by kernel_rfl
@[go_sem] theorem c33_r12 (l0 : Option Addr) (K : Env → W) : RP c33 12 [(0, .pointer l0)] K =
    (ph fun S0 => (nn l0 fun y1_ => (ldq S0 eI ((y1_.add 5)) fun (y2_ : Int) => (nn l0 fun y3_ => (ldq S0 eS ((y3_.add 4)) fun (y4_ : List UInt8) => (K [(0, .pointer l0), (75, .bool ((decide (y2_ < ((y4_).length : Int)))))])))))) := by kernel_rfl
@[go_sem] theorem c33_r13 (l0 : Option Addr) (K : Env → W) : RP c33 13 [(0, .pointer l0)] K =
    (cal eI Tryz.prog 21 #[.pointer l0] fun (y1_ : Int) => (K [(0, .pointer l0), (8, .int .i64 y1_)])) := by kernel_rfl
@[go_sem] theorem c33_r14 (l0 : Option Addr) (e8 : Int) (K : Env → W) : RP c33 14 [(0, .pointer l0), (8, .int .i64 e8)] K =
    (K [(0, .pointer l0), (8, .int .i64 e8), (79, .bool ((e8 != (0 : Int))))]) := by kernel_rfl
@[go_sem] theorem c33_r15 (e8 : Int) (K : Env → W) : RP c33 15 [(8, .int .i64 e8)] K =
    (K [(6, .int .i64 e8)]) := by kernel_rfl
@[go_sem] theorem c33_r16 (l0 : Option Addr) (K : Env → W) : RP c33 16 [(0, .pointer l0)] K =
    (cal eI Tryz.prog 70 #[.pointer l0] fun (y1_ : Int) => (K [(6, .int .i64 y1_)])) := by kernel_rfl
@[go_sem] theorem c33_o : c33.lo 1000000 = [6] := rfl
@[go_sem] theorem c33_e (t6 : Int) (k : Value → W) : RTp c33 [(6, .int .i64 t6)] k = (k (.int .i64 t6)) := by kernel_rfl
theorem c33_ok : (c33.P.follows .mixedOrders && okc c33 c33.body) = true := by kernel_rfl
theorem c33_fn {e : Enc} {args : Array Value} {G : e.α → W} {L : List HP} {ρ : Env} (hρ : envA 0 args.toList = ρ) (hs : Nat.ble args.size 83 = true) (h : E L (D c33 (.seq (.reg 0) (.seq (.seq (.reg 1) (.seq (.reg 2) (.cond (.tmp 12) (.seq (.reg 3) (.ret)) (.skip)))) (.seq (.block 0 (.seq (.reg 4) (.cond (.tmp 14) (.seq (.reg 5) (.ret)) (.seq (.reg 6) (.cond (.tmp 25) (.seq (.reg 7) (.ret)) (.seq (.reg 8) (.cond (.tmp 34) (.seq (.reg 9) (.ret)) (.skip)))))))) (.seq (.reg 10) (.seq (.reg 11) (.seq (.seq (.reg 12) (.cond (.tmp 75) (.seq (.reg 13) (.seq (.reg 14) (.cond (.tmp 79) (.seq (.reg 15) (.ret)) (.skip)))) (.skip))) (.seq (.reg 16) (.ret)))))))) (fnQ c33 e G) ρ)) : E L (cal e Tryz.prog 33 args G) :=
  d_fn (c := c33) Tryz.func33 (by kernel_rfl) (by kernel_rfl) (by kernel_rfl) c33_ok (by kernel_rfl) (by kernel_rfl) hρ hs h
/-! (*gharry.wal.Log).Read -/
noncomputable def c35 : Cfg := { P := Tryz.prog, n := 46, T := TT, body := (Tryz.f35.body).getD .skip, res := Tryz.f35.results.toList, li := lk [] [(0, [0, 1]), (1, [0, 1, 4]), (2, [4]), (3, [0, 1, 4]), (4, [4]), (5, [0, 1, 4]), (6, [1, 4, 7, 8, 9]), (7, [4, 9]), (8, [1, 4, 7, 8])], lo := lk [] [(0, [0, 1, 4]), (1, [0, 1, 4, 10]), (2, [4, 5, 6]), (3, [0, 1, 4, 14]), (4, [4, 5, 6]), (5, [1, 4, 7, 8, 9]), (6, [1, 4, 7, 8, 9, 39]), (7, [4, 5, 6]), (8, [4, 5, 6]), (1000000, [4, 5, 6])], ord := lk (false, []) [] }
@[go_sem] theorem c35_i0 : c35.li 0 = [0, 1] := rfl
@[go_sem] theorem c35_i1 : c35.li 1 = [0, 1, 4] := rfl
@[go_sem] theorem c35_i2 : c35.li 2 = [4] := rfl
@[go_sem] theorem c35_i3 : c35.li 3 = [0, 1, 4] := rfl
@[go_sem] theorem c35_i4 : c35.li 4 = [4] := rfl
@[go_sem] theorem c35_i5 : c35.li 5 = [0, 1, 4] := rfl
@[go_sem] theorem c35_i6 : c35.li 6 = [1, 4, 7, 8, 9] := rfl
@[go_sem] theorem c35_i7 : c35.li 7 = [4, 9] := rfl
@[go_sem] theorem c35_i8 : c35.li 8 = [1, 4, 7, 8] := rfl
@[go_sem] theorem c35_r0 (l0 : Option Addr) (lsn1 : Int) (K : Env → W) : RP c35 0 [(0, .pointer l0), (1, .int .i64 lsn1)] K =
    (nwc #[.int .i64 (0 : Int), .int .i64 (0 : Int), .int .i64 (0 : Int), .int .i64 (0 : Int), .int .i64 (0 : Int), str (([] : List UInt8)), str (([] : List UInt8)), str (([] : List UInt8)), .int .i64 (0 : Int), .slice none 0 0, .slice none 0 0, .int .i64 (0 : Int), .int .i64 (0 : Int)] 36 fun y1_ => (K [(0, .pointer l0), (1, .int .i64 lsn1), (4, .pointer (some y1_))])) := by kernel_rfl
@[go_sem] theorem c35_r1 (l0 : Option Addr) (lsn1 : Int) (t4 : Addr) (K : Env → W) : RP c35 1 [(0, .pointer l0), (1, .int .i64 lsn1), (4, .pointer (some t4))] K =
    (cal eB Tryz.prog 83 #[.pointer l0] fun (y1_ : Bool) => (K [(0, .pointer l0), (1, .int .i64 lsn1), (4, .pointer (some t4)), (10, .bool y1_)])) := by kernel_rfl
@[go_sem] theorem c35_r2 (t4 : Addr) (K : Env → W) : RP c35 2 [(4, .pointer (some t4))] K =
    (stl [.int .i64 (0 : Int), .int .i64 (0 : Int), .int .i64 (0 : Int), .int .i64 (0 : Int), .int .i64 (0 : Int), str (([] : List UInt8)), str (([] : List UInt8)), str (([] : List UInt8)), .int .i64 (0 : Int), .slice none 0 0, .slice none 0 0, .int .i64 (0 : Int), .int .i64 (0 : Int)] t4 0 (K [(4, .pointer (some t4)), (5, .int .i64 (0 : Int)), (6, .int .i64 (11 : Int))])) := by kernel_rfl
@[go_sem] theorem c35_r3 (l0 : Option Addr) (lsn1 : Int) (t4 : Addr) (K : Env → W) : RP c35 3 [(0, .pointer l0), (1, .int .i64 lsn1), (4, .pointer (some t4))] K =
    (cnd ((decide (lsn1 < (1 : Int)))) (K [(0, .pointer l0), (1, .int .i64 lsn1), (4, .pointer (some t4)), (14, .bool true)]) (nn l0 fun y1_ => (ld eS ((y1_.add 4)) fun (y2_ : List UInt8) => (K [(0, .pointer l0), (1, .int .i64 lsn1), (4, .pointer (some t4)), (14, .bool ((decide (((y2_).length : Int) < lsn1))))])))) := by kernel_rfl
@[go_sem] theorem c35_r4 (t4 : Addr) (K : Env → W) : RP c35 4 [(4, .pointer (some t4))] K =
    (stl [.int .i64 (0 : Int), .int .i64 (0 : Int), .int .i64 (0 : Int), .int .i64 (0 : Int), .int .i64 (0 : Int), str (([] : List UInt8)), str (([] : List UInt8)), str (([] : List UInt8)), .int .i64 (0 : Int), .slice none 0 0, .slice none 0 0, .int .i64 (0 : Int), .int .i64 (0 : Int)] t4 0 (K [(4, .pointer (some t4)), (5, .int .i64 (0 : Int)), (6, .int .i64 (8 : Int))])) := by kernel_rfl
@[go_sem] theorem c35_r5 (l0 : Option Addr) (lsn1 : Int) (t4 : Addr) (K : Env → W) : RP c35 5 [(0, .pointer l0), (1, .int .i64 lsn1), (4, .pointer (some t4))] K =
    (nn l0 fun y1_ => (ld eS ((y1_.add 4)) fun (y2_ : List UInt8) => (cal (eT3 e_api_Rec eI eI) Tryz.prog 26 #[str y2_, .int .i64 ((IntKind.wrap .i64 (lsn1 - (1 : Int))))] fun (y3_ : (api_Rec × Int × Int)) => (nwc #[.int .i64 (0 : Int), .int .i64 (0 : Int), .int .i64 (0 : Int), .int .i64 (0 : Int), .int .i64 (0 : Int), str (([] : List UInt8)), str (([] : List UInt8)), str (([] : List UInt8)), .int .i64 (0 : Int), .slice none 0 0, .slice none 0 0, .int .i64 (0 : Int), .int .i64 (0 : Int)] 36 fun y4_ => (stl [.int .i64 y3_.1.Kind, .int .i64 y3_.1.Txn, .int .i64 y3_.1.Prev, .int .i64 y3_.1.Page, .int .i64 y3_.1.Act, str y3_.1.Key, str y3_.1.Old, str y3_.1.New, .int .i64 y3_.1.Next, .slice y3_.1.Images.1 y3_.1.Images.2.1 y3_.1.Images.2.2, .slice y3_.1.Table.1 y3_.1.Table.2.1 y3_.1.Table.2.2, .int .i64 y3_.1.Epoch, .int .i64 y3_.1.Node] y4_ 0 (K [(1, .int .i64 lsn1), (4, .pointer (some t4)), (7, .pointer (some y4_)), (8, .int .i64 y3_.2.1), (9, .int .i64 y3_.2.2)])))))) := by kernel_rfl
@[go_sem] theorem c35_r6 (lsn1 : Int) (t4 : Addr) (r7 : Addr) (n8 : Int) (e9 : Int) (K : Env → W) : RP c35 6 [(1, .int .i64 lsn1), (4, .pointer (some t4)), (7, .pointer (some r7)), (8, .int .i64 n8), (9, .int .i64 e9)] K =
    (K [(1, .int .i64 lsn1), (4, .pointer (some t4)), (7, .pointer (some r7)), (8, .int .i64 n8), (9, .int .i64 e9), (39, .bool ((e9 != (0 : Int))))]) := by kernel_rfl
@[go_sem] theorem c35_r7 (t4 : Addr) (e9 : Int) (K : Env → W) : RP c35 7 [(4, .pointer (some t4)), (9, .int .i64 e9)] K =
    (stl [.int .i64 (0 : Int), .int .i64 (0 : Int), .int .i64 (0 : Int), .int .i64 (0 : Int), .int .i64 (0 : Int), str (([] : List UInt8)), str (([] : List UInt8)), str (([] : List UInt8)), .int .i64 (0 : Int), .slice none 0 0, .slice none 0 0, .int .i64 (0 : Int), .int .i64 (0 : Int)] t4 0 (K [(4, .pointer (some t4)), (5, .int .i64 (0 : Int)), (6, .int .i64 e9)])) := by kernel_rfl
@[go_sem] theorem c35_r8 (lsn1 : Int) (t4 : Addr) (r7 : Addr) (n8 : Int) (K : Env → W) : RP c35 8 [(1, .int .i64 lsn1), (4, .pointer (some t4)), (7, .pointer (some r7)), (8, .int .i64 n8)] K =
    (ldn e_api_Rec 13 r7 fun (y1_ : api_Rec) => (stl [.int .i64 y1_.Kind, .int .i64 y1_.Txn, .int .i64 y1_.Prev, .int .i64 y1_.Page, .int .i64 y1_.Act, str y1_.Key, str y1_.Old, str y1_.New, .int .i64 y1_.Next, .slice y1_.Images.1 y1_.Images.2.1 y1_.Images.2.2, .slice y1_.Table.1 y1_.Table.2.1 y1_.Table.2.2, .int .i64 y1_.Epoch, .int .i64 y1_.Node] t4 0 (K [(4, .pointer (some t4)), (5, .int .i64 ((IntKind.wrap .i64 (lsn1 + n8)))), (6, .int .i64 (0 : Int))]))) := by kernel_rfl
@[go_sem] theorem c35_o : c35.lo 1000000 = [4, 5, 6] := rfl
@[go_sem] theorem c35_e (t4 : Addr) (t5 : Int) (t6 : Int) (k : Value → W) : RTp c35 [(4, .pointer (some t4)), (5, .int .i64 t5), (6, .int .i64 t6)] k = (ldn e_api_Rec 13 t4 fun (y1_ : api_Rec) => (k (.tuple #[v_api_Rec y1_, .int .i64 t5, .int .i64 t6]))) := by kernel_rfl
theorem c35_ok : (c35.P.follows .mixedOrders && okc c35 c35.body) = true := by kernel_rfl
theorem c35_fn {e : Enc} {args : Array Value} {G : e.α → W} {L : List HP} {ρ : Env} (hρ : envA 0 args.toList = ρ) (hs : Nat.ble args.size 46 = true) (h : E L (D c35 (.seq (.reg 0) (.seq (.block 0 (.seq (.reg 1) (.cond (.tmp 10) (.seq (.reg 2) (.ret)) (.seq (.reg 3) (.cond (.tmp 14) (.seq (.reg 4) (.ret)) (.skip)))))) (.seq (.reg 5) (.seq (.seq (.reg 6) (.cond (.tmp 39) (.seq (.reg 7) (.ret)) (.skip))) (.seq (.reg 8) (.ret)))))) (fnQ c35 e G) ρ)) : E L (cal e Tryz.prog 35 args G) :=
  d_fn (c := c35) Tryz.func35 (by kernel_rfl) (by kernel_rfl) (by kernel_rfl) c35_ok (by kernel_rfl) (by kernel_rfl) hρ hs h
/-! (*gharry.wal.Log).Put -/
/-! (*gharry.wal.Log).From -/
/-! (*gharry.wal.Log).Need -/
end Go.Sp
