/- Texts of a proof, one behind the other: Gx0 Gk0 E1 E2 N2 Gj0 N3 Gm0 M1 Gr0. No condition. -/
import Derived.Test.YtaidhghnflnmnaaGreatM5b477d79
/- What each region of the Go functions does. Written by my own generator. -/
namespace Go.Sp
open Go
set_option maxRecDepth 100000
set_option linter.unusedVariables false
open Go.Proofs
/-! gharry.gharrylaw08.awake -/
noncomputable def c15 : Cfg := { P := Tryz.prog, n := 72, T := TT, body := (Tryz.f15.body).getD .skip, res := Tryz.f15.results.toList, li := lk [] [(0, []), (1, []), (2, [1, 2]), (3, []), (4, [1]), (5, [1, 3, 4]), (6, []), (7, [1, 3]), (8, [1, 3]), (9, [1, 3]), (10, []), (11, [1, 3]), (12, [1]), (13, [1]), (14, [1]), (15, [5, 6]), (16, []), (17, [5]), (18, [7])], lo := lk [] [(0, []), (1, [1, 2]), (2, [1, 18]), (3, [0]), (4, [1, 3, 4]), (5, [1, 3, 29]), (6, [0]), (7, [1, 3]), (8, [1, 3]), (9, [1, 3, 38]), (10, [0]), (11, [1]), (12, [1]), (13, [1]), (14, [5, 6]), (15, [5, 56]), (16, [0]), (17, [7]), (18, [0]), (1000000, [0])], ord := lk (false, []) [] }
@[go_sem] theorem c15_i0 : c15.li 0 = [] := rfl
@[go_sem] theorem c15_i1 : c15.li 1 = [] := rfl
@[go_sem] theorem c15_i2 : c15.li 2 = [1, 2] := rfl
@[go_sem] theorem c15_i3 : c15.li 3 = [] := rfl
@[go_sem] theorem c15_i4 : c15.li 4 = [1] := rfl
@[go_sem] theorem c15_i5 : c15.li 5 = [1, 3, 4] := rfl
@[go_sem] theorem c15_i6 : c15.li 6 = [] := rfl
@[go_sem] theorem c15_i7 : c15.li 7 = [1, 3] := rfl
@[go_sem] theorem c15_i8 : c15.li 8 = [1, 3] := rfl
@[go_sem] theorem c15_i9 : c15.li 9 = [1, 3] := rfl
@[go_sem] theorem c15_i10 : c15.li 10 = [] := rfl
@[go_sem] theorem c15_i11 : c15.li 11 = [1, 3] := rfl
@[go_sem] theorem c15_i12 : c15.li 12 = [1] := rfl
@[go_sem] theorem c15_i13 : c15.li 13 = [1] := rfl
@[go_sem] theorem c15_i14 : c15.li 14 = [1] := rfl
@[go_sem] theorem c15_i15 : c15.li 15 = [5, 6] := rfl
@[go_sem] theorem c15_i16 : c15.li 16 = [] := rfl
@[go_sem] theorem c15_i17 : c15.li 17 = [5] := rfl
@[go_sem] theorem c15_i18 : c15.li 18 = [7] := rfl
@[go_sem] theorem c15_r0 (K : Env → W) : RP c15 0 [] K =
    (K []) := by kernel_rfl
@[go_sem] theorem c15_r1 (K : Env → W) : RP c15 1 [] K =
    (cal (eT2 eP eI) Tryz.prog 16 #[.int .i64 (20 : Int)] fun (y1_ : ((Option Addr) × Int)) => (K [(1, .pointer y1_.1), (2, .int .i64 y1_.2)])) := by kernel_rfl
@[go_sem] theorem c15_r2 (d1 : Option Addr) (e2 : Int) (K : Env → W) : RP c15 2 [(1, .pointer d1), (2, .int .i64 e2)] K =
    (cnd ((e2 != (0 : Int))) (K [(1, .pointer d1), (18, .bool true)]) (K [(1, .pointer d1), (18, .bool ((d1).isNone))])) := by kernel_rfl
@[go_sem] theorem c15_r3 (K : Env → W) : RP c15 3 [] K =
    (K [(0, .bool false)]) := by kernel_rfl
@[go_sem] theorem c15_r4 (d1 : Option Addr) (K : Env → W) : RP c15 4 [(1, .pointer d1)] K =
    (cal (eT2 eP eI) Tryz.prog 17 #[.pointer d1, .int .i64 (1 : Int), .int .i64 (10 : Int), .int .i64 (1 : Int)] fun (y1_ : ((Option Addr) × Int)) => (K [(1, .pointer d1), (3, .pointer y1_.1), (4, .int .i64 y1_.2)])) := by kernel_rfl
@[go_sem] theorem c15_r5 (d1 : Option Addr) (l3 : Option Addr) (f4 : Int) (K : Env → W) : RP c15 5 [(1, .pointer d1), (3, .pointer l3), (4, .int .i64 f4)] K =
    (cnd ((f4 != (0 : Int))) (K [(1, .pointer d1), (3, .pointer l3), (29, .bool true)]) (K [(1, .pointer d1), (3, .pointer l3), (29, .bool ((l3).isNone))])) := by kernel_rfl
@[go_sem] theorem c15_r6 (K : Env → W) : RP c15 6 [] K =
    (K [(0, .bool false)]) := by kernel_rfl
@[go_sem] theorem c15_r7 (d1 : Option Addr) (l3 : Option Addr) (K : Env → W) : RP c15 7 [(1, .pointer d1), (3, .pointer l3)] K =
    (cal e_api_Rec Tryz.prog 37 #[.int .i64 (1 : Int)] fun (y1_ : api_Rec) => (cal (eT2 eI eI) Tryz.prog 20 #[.pointer l3, v_api_Rec y1_] fun (y2_ : (Int × Int)) => (K [(1, .pointer d1), (3, .pointer l3)]))) := by kernel_rfl
@[go_sem] theorem c15_r8 (d1 : Option Addr) (l3 : Option Addr) (K : Env → W) : RP c15 8 [(1, .pointer d1), (3, .pointer l3)] K =
    (cal e_api_Rec Tryz.prog 37 #[.int .i64 (2 : Int)] fun (y1_ : api_Rec) => (cal (eT2 eI eI) Tryz.prog 20 #[.pointer l3, v_api_Rec y1_] fun (y2_ : (Int × Int)) => (K [(1, .pointer d1), (3, .pointer l3)]))) := by kernel_rfl
@[go_sem] theorem c15_r9 (d1 : Option Addr) (l3 : Option Addr) (K : Env → W) : RP c15 9 [(1, .pointer d1), (3, .pointer l3)] K =
    (cal eI Tryz.prog 21 #[.pointer l3] fun (y1_ : Int) => (K [(1, .pointer d1), (3, .pointer l3), (38, .bool ((y1_ != (0 : Int))))])) := by kernel_rfl
@[go_sem] theorem c15_r10 (K : Env → W) : RP c15 10 [] K =
    (K [(0, .bool false)]) := by kernel_rfl
@[go_sem] theorem c15_r11 (d1 : Option Addr) (l3 : Option Addr) (K : Env → W) : RP c15 11 [(1, .pointer d1), (3, .pointer l3)] K =
    (cal e_api_Rec Tryz.prog 37 #[.int .i64 (3 : Int)] fun (y1_ : api_Rec) => (cal (eT2 eI eI) Tryz.prog 20 #[.pointer l3, v_api_Rec y1_] fun (y2_ : (Int × Int)) => (K [(1, .pointer d1)]))) := by kernel_rfl
@[go_sem] theorem c15_r12 (d1 : Option Addr) (K : Env → W) : RP c15 12 [(1, .pointer d1)] K =
    (cal eI Tryz.prog 62 #[.pointer d1, .int .u64 (0 : Int)] fun (y1_ : Int) => (K [(1, .pointer d1)])) := by kernel_rfl
@[go_sem] theorem c15_r13 (d1 : Option Addr) (K : Env → W) : RP c15 13 [(1, .pointer d1)] K =
    (cal eI Tryz.prog 64 #[.pointer d1] fun (y1_ : Int) => (K [(1, .pointer d1)])) := by kernel_rfl
@[go_sem] theorem c15_r14 (d1 : Option Addr) (K : Env → W) : RP c15 14 [(1, .pointer d1)] K =
    (cal (eT2 eP eI) Tryz.prog 17 #[.pointer d1, .int .i64 (1 : Int), .int .i64 (10 : Int), .int .i64 (2 : Int)] fun (y1_ : ((Option Addr) × Int)) => (K [(5, .pointer y1_.1), (6, .int .i64 y1_.2)])) := by kernel_rfl
@[go_sem] theorem c15_r15 (m5 : Option Addr) (g6 : Int) (K : Env → W) : RP c15 15 [(5, .pointer m5), (6, .int .i64 g6)] K =
    (cnd ((g6 != (0 : Int))) (K [(5, .pointer m5), (56, .bool true)]) (K [(5, .pointer m5), (56, .bool ((m5).isNone))])) := by kernel_rfl
@[go_sem] theorem c15_r16 (K : Env → W) : RP c15 16 [] K =
    (K [(0, .bool false)]) := by kernel_rfl
@[go_sem] theorem c15_r17 (m5 : Option Addr) (K : Env → W) : RP c15 17 [(5, .pointer m5)] K =
    (cal (eT2 eSl eSl) Tryz.prog 25 #[.pointer m5] fun (y1_ : ((Option Addr × Nat × Nat) × (Option Addr × Nat × Nat))) => (K [(7, .slice y1_.1.1 y1_.1.2.1 y1_.1.2.2)])) := by kernel_rfl
@[go_sem] theorem c15_r18 (r7p : Option Addr) (r7n r7c : Nat) (K : Env → W) : RP c15 18 [(7, .slice r7p r7n r7c)] K =
    (cnd (((r7n : Int) == (2 : Int))) (rq (0 ≤ (1 : Int) ∧ (1 : Int) < (r7n : Int)) (nn r7p fun y1_ => (ld eI ((((Addr.add y1_ 13)).add 1)) fun (y2_ : Int) => (K [(0, .bool ((y2_ == (2 : Int))))])))) (K [(0, .bool false)])) := by kernel_rfl
@[go_sem] theorem c15_o : c15.lo 1000000 = [0] := rfl
@[go_sem] theorem c15_e (t0 : Bool) (k : Value → W) : RTp c15 [(0, .bool t0)] k = (k (.bool t0)) := by kernel_rfl
theorem c15_ok : (c15.P.follows .mixedOrders && okc c15 c15.body) = true := by kernel_rfl
theorem c15_fn {e : Enc} {args : Array Value} {G : e.α → W} {L : List HP} {ρ : Env} (hρ : envA 0 args.toList = ρ) (hs : Nat.ble args.size 72 = true) (h : E L (D c15 (.seq (.reg 0) (.seq (.reg 1) (.seq (.seq (.reg 2) (.cond (.tmp 18) (.seq (.reg 3) (.ret)) (.skip))) (.seq (.reg 4) (.seq (.seq (.reg 5) (.cond (.tmp 29) (.seq (.reg 6) (.ret)) (.skip))) (.seq (.reg 7) (.seq (.reg 8) (.seq (.seq (.reg 9) (.cond (.tmp 38) (.seq (.reg 10) (.ret)) (.skip))) (.seq (.reg 11) (.seq (.reg 12) (.seq (.reg 13) (.seq (.reg 14) (.seq (.seq (.reg 15) (.cond (.tmp 56) (.seq (.reg 16) (.ret)) (.skip))) (.seq (.reg 17) (.seq (.reg 18) (.ret)))))))))))))))) (fnQ c15 e G) ρ)) : E L (cal e Tryz.prog 15 args G) :=
  d_fn (c := c15) Tryz.func15 (by kernel_rfl) (by kernel_rfl) (by kernel_rfl) c15_ok (by kernel_rfl) (by kernel_rfl) hρ hs h
/-! gharry.gharrylaw08.commit -/
noncomputable def c37 : Cfg := { P := Tryz.prog, n := 5, T := TT, body := (Tryz.f37.body).getD .skip, res := Tryz.f37.results.toList, li := lk [] [(0, [0]), (1, [0, 2])], lo := lk [] [(0, [0, 2]), (1, [2]), (1000000, [2])], ord := lk (false, []) [] }
@[go_sem] theorem c37_i0 : c37.li 0 = [0] := rfl
@[go_sem] theorem c37_i1 : c37.li 1 = [0, 2] := rfl
@[go_sem] theorem c37_r0 (n0 : Int) (K : Env → W) : RP c37 0 [(0, .int .i64 n0)] K =
    (nwc #[.int .i64 (0 : Int), .int .i64 (0 : Int), .int .i64 (0 : Int), .int .i64 (0 : Int), .int .i64 (0 : Int), str (([] : List UInt8)), str (([] : List UInt8)), str (([] : List UInt8)), .int .i64 (0 : Int), .slice none 0 0, .slice none 0 0, .int .i64 (0 : Int), .int .i64 (0 : Int)] 36 fun y1_ => (K [(0, .int .i64 n0), (2, .pointer (some y1_))])) := by kernel_rfl
@[go_sem] theorem c37_r1 (n0 : Int) (t2 : Addr) (K : Env → W) : RP c37 1 [(0, .int .i64 n0), (2, .pointer (some t2))] K =
    (stl [.int .i64 (7 : Int), .int .i64 (n0), .int .i64 (1 : Int), .int .i64 (0 : Int), .int .i64 (0 : Int), str (([] : List UInt8)), str (([] : List UInt8)), str (([] : List UInt8)), .int .i64 (0 : Int), .slice none 0 0, .slice none 0 0, .int .i64 (0 : Int), .int .i64 (0 : Int)] t2 0 (K [(2, .pointer (some t2))])) := by kernel_rfl
@[go_sem] theorem c37_o : c37.lo 1000000 = [2] := rfl
@[go_sem] theorem c37_e (t2 : Addr) (k : Value → W) : RTp c37 [(2, .pointer (some t2))] k = (ldn e_api_Rec 13 t2 fun (y1_ : api_Rec) => (k (v_api_Rec y1_))) := by kernel_rfl
theorem c37_ok : (c37.P.follows .mixedOrders && okc c37 c37.body) = true := by kernel_rfl
theorem c37_fn {e : Enc} {args : Array Value} {G : e.α → W} {L : List HP} {ρ : Env} (hρ : envA 0 args.toList = ρ) (hs : Nat.ble args.size 5 = true) (h : E L (D c37 (.seq (.reg 0) (.seq (.reg 1) (.ret))) (fnQ c37 e G) ρ)) : E L (cal e Tryz.prog 37 args G) :=
  d_fn (c := c37) Tryz.func37 (by kernel_rfl) (by kernel_rfl) (by kernel_rfl) c37_ok (by kernel_rfl) (by kernel_rfl) hρ hs h
end Go.Sp
/- What each region of the Go functions does. Written by my own generator. -/
namespace Go.Sp
open Go
set_option maxRecDepth 100000
set_option linter.unusedVariables false
open Go.Proofs
/-! gharry.pack.Read -/
noncomputable def c84 : Cfg := { P := Tryz.prog, n := 6, T := TT, body := (Tryz.f84.body).getD .skip, res := Tryz.f84.results.toList, li := lk [] [(0, [0]), (1, [0])], lo := lk [] [(0, [0]), (1, [2]), (1000000, [2])], ord := lk (false, []) [] }
@[go_sem] theorem c84_i0 : c84.li 0 = [0] := rfl
@[go_sem] theorem c84_i1 : c84.li 1 = [0] := rfl
@[go_sem] theorem c84_r0 (s0 : List UInt8) (K : Env → W) : RP c84 0 [(0, str s0)] K =
    (K [(0, str s0)]) := by kernel_rfl
@[go_sem] theorem c84_r1 (s0 : List UInt8) (K : Env → W) : RP c84 1 [(0, str s0)] K =
    (nwc #[str (s0), .int .i64 (0 : Int), .int .i64 (0 : Int)] 163 fun y1_ => (K [(2, .pointer (some y1_))])) := by kernel_rfl
@[go_sem] theorem c84_o : c84.lo 1000000 = [2] := rfl
@[go_sem] theorem c84_e (t2 : Option Addr) (k : Value → W) : RTp c84 [(2, .pointer t2)] k = (k (.pointer t2)) := by kernel_rfl
theorem c84_ok : (c84.P.follows .mixedOrders && okc c84 c84.body) = true := by kernel_rfl
theorem c84_fn {e : Enc} {args : Array Value} {G : e.α → W} {L : List HP} {ρ : Env} (hρ : envA 0 args.toList = ρ) (hs : Nat.ble args.size 6 = true) (h : E L (D c84 (.seq (.reg 0) (.seq (.reg 1) (.ret))) (fnQ c84 e G) ρ)) : E L (cal e Tryz.prog 84 args G) :=
  d_fn (c := c84) Tryz.func84 (by kernel_rfl) (by kernel_rfl) (by kernel_rfl) c84_ok (by kernel_rfl) (by kernel_rfl) hρ hs h
/-! (*gharry.pack.Reader).Num -/
noncomputable def c85 : Cfg := { P := Tryz.prog, n := 37, T := TT, body := (Tryz.f85.body).getD .skip, res := Tryz.f85.results.toList, li := lk [] [(0, [0, 1]), (1, [0, 1]), (2, [0, 1]), (3, [0, 1]), (4, [0, 1, 5]), (5, [5, 24, 25, 26]), (6, [5, 24, 25, 26]), (7, [5, 7, 24, 25, 26]), (8, [5, 24, 25, 26]), (9, [5])], lo := lk [] [(0, [0, 1]), (1, [0, 1, 18]), (2, [0, 1]), (3, [0, 1, 5]), (4, [5, 24, 25, 26]), (5, [5, 24, 25, 26, 27]), (6, [5, 7, 24, 25, 26]), (7, [5, 24, 25, 26]), (8, [5, 24, 25, 26]), (9, [4]), (1000000, [4])], ord := lk (false, []) [] }
@[go_sem] theorem c85_i0 : c85.li 0 = [0, 1] := rfl
@[go_sem] theorem c85_i1 : c85.li 1 = [0, 1] := rfl
@[go_sem] theorem c85_i2 : c85.li 2 = [0, 1] := rfl
@[go_sem] theorem c85_i3 : c85.li 3 = [0, 1] := rfl
@[go_sem] theorem c85_i4 : c85.li 4 = [0, 1, 5] := rfl
@[go_sem] theorem c85_i5 : c85.li 5 = [5, 24, 25, 26] := rfl
@[go_sem] theorem c85_i6 : c85.li 6 = [5, 24, 25, 26] := rfl
@[go_sem] theorem c85_i7 : c85.li 7 = [5, 7, 24, 25, 26] := rfl
@[go_sem] theorem c85_i8 : c85.li 8 = [5, 24, 25, 26] := rfl
@[go_sem] theorem c85_i9 : c85.li 9 = [5] := rfl
@[go_sem] theorem c85_r0 (r0 : Option Addr) (width1 : Int) (K : Env → W) : RP c85 0 [(0, .pointer r0), (1, .int .i64 width1)] K =
    (K [(0, .pointer r0), (1, .int .i64 width1)]) := by kernel_rfl
@[go_sem] theorem c85_r1 (r0 : Option Addr) (width1 : Int) (K : Env → W) : RP c85 1 [(0, .pointer r0), (1, .int .i64 width1)] K =
    (cal eB Tryz.prog 113 #[.pointer r0] fun (y1_ : Bool) => (cnd ((!y1_)) (cnd ((decide (width1 < (1 : Int)))) (K [(0, .pointer r0), (1, .int .i64 width1), (18, .bool true)]) (K [(0, .pointer r0), (1, .int .i64 width1), (18, .bool ((decide ((6 : Int) < width1))))])) (K [(0, .pointer r0), (1, .int .i64 width1), (18, .bool false)]))) := by kernel_rfl
@[go_sem] theorem c85_r2 (r0 : Option Addr) (width1 : Int) (K : Env → W) : RP c85 2 [(0, .pointer r0), (1, .int .i64 width1)] K =
    (cal eN Tryz.prog 114 #[.pointer r0, .int .i64 (1 : Int)] fun (y1_ : Unit) => (K [(0, .pointer r0), (1, .int .i64 width1)])) := by kernel_rfl
@[go_sem] theorem c85_r3 (r0 : Option Addr) (width1 : Int) (K : Env → W) : RP c85 3 [(0, .pointer r0), (1, .int .i64 width1)] K =
    (K [(0, .pointer r0), (1, .int .i64 width1), (5, .int .i64 (0 : Int))]) := by kernel_rfl
@[go_sem] theorem c85_r4 (r0 : Option Addr) (width1 : Int) (n5 : Int) (K : Env → W) : RP c85 4 [(0, .pointer r0), (1, .int .i64 width1), (5, .int .i64 n5)] K =
    (cal eS Tryz.prog 101 #[.pointer r0, .int .i64 width1] fun (y1_ : List UInt8) => (val eSl Tryz.prog (oConv 9 116 (str y1_)) fun (y2_ : (Option Addr × Nat × Nat)) => (K [(5, .int .i64 n5), (24, .slice y2_.1 y2_.2.1 y2_.2.2), (25, .int .i64 ((y2_.2.1 : Int))), (26, .int .i64 (0 : Int))]))) := by kernel_rfl
@[go_sem] theorem c85_r5 (n5 : Int) (t24p : Option Addr) (t24n t24c : Nat) (t25 : Int) (t26 : Int) (K : Env → W) : RP c85 5 [(5, .int .i64 n5), (24, .slice t24p t24n t24c), (25, .int .i64 t25), (26, .int .i64 t26)] K =
    (K [(5, .int .i64 n5), (24, .slice t24p t24n t24c), (25, .int .i64 t25), (26, .int .i64 t26), (27, .bool ((decide (t26 < t25))))]) := by kernel_rfl
@[go_sem] theorem c85_r6 (n5 : Int) (t24p : Option Addr) (t24n t24c : Nat) (t25 : Int) (t26 : Int) (K : Env → W) : RP c85 6 [(5, .int .i64 n5), (24, .slice t24p t24n t24c), (25, .int .i64 t25), (26, .int .i64 t26)] K =
    (rq (0 ≤ t26 ∧ t26 < (t24n : Int)) (nn t24p fun y1_ => (ld eU8 ((Addr.add y1_ ((t26).toNat * 1))) fun (y2_ : Int) => (K [(5, .int .i64 n5), (7, .int .u8 y2_), (24, .slice t24p t24n t24c), (25, .int .i64 t25), (26, .int .i64 t26)])))) := by kernel_rfl
@[go_sem] theorem c85_r7 (n5 : Int) (c7 : Int) (t24p : Option Addr) (t24n t24c : Nat) (t25 : Int) (t26 : Int) (K : Env → W) : RP c85 7 [(5, .int .i64 n5), (7, .int .u8 c7), (24, .slice t24p t24n t24c), (25, .int .i64 t25), (26, .int .i64 t26)] K =
    (rq (0 ≤ (8 : Int)) (K [(5, .int .i64 ((bits .or .i64 ((IntKind.wrap .i64 (n5 * 2 ^ (min (8 : Int).toNat 64)))) ((IntKind.wrap .i64 c7))))), (24, .slice t24p t24n t24c), (25, .int .i64 t25), (26, .int .i64 t26)])) := by kernel_rfl
@[go_sem] theorem c85_r8 (n5 : Int) (t24p : Option Addr) (t24n t24c : Nat) (t25 : Int) (t26 : Int) (K : Env → W) : RP c85 8 [(5, .int .i64 n5), (24, .slice t24p t24n t24c), (25, .int .i64 t25), (26, .int .i64 t26)] K =
    (K [(5, .int .i64 n5), (24, .slice t24p t24n t24c), (25, .int .i64 t25), (26, .int .i64 ((IntKind.wrap .i64 (t26 + (1 : Int)))))]) := by kernel_rfl
@[go_sem] theorem c85_r9 (n5 : Int) (K : Env → W) : RP c85 9 [(5, .int .i64 n5)] K =
    (K [(4, .int .i64 n5)]) := by kernel_rfl
@[go_sem] theorem c85_o : c85.lo 1000000 = [4] := rfl
@[go_sem] theorem c85_e (t4 : Int) (k : Value → W) : RTp c85 [(4, .int .i64 t4)] k = (k (.int .i64 t4)) := by kernel_rfl
theorem c85_ok : (c85.P.follows .mixedOrders && okc c85 c85.body) = true := by kernel_rfl
theorem c85_fn {e : Enc} {args : Array Value} {G : e.α → W} {L : List HP} {ρ : Env} (hρ : envA 0 args.toList = ρ) (hs : Nat.ble args.size 37 = true) (h : E L (D c85 (.seq (.reg 0) (.seq (.seq (.reg 1) (.cond (.tmp 18) (.reg 2) (.skip))) (.seq (.reg 3) (.seq (.seq (.reg 4) (.block 0 (.loop (.seq (.reg 5) (.seq (.cond (.tmp 27) (.skip) (.exit 0)) (.seq (.block 1 (.seq (.reg 6) (.reg 7))) (.reg 8))))))) (.seq (.reg 9) (.ret)))))) (fnQ c85 e G) ρ)) : E L (cal e Tryz.prog 85 args G) :=
  d_fn (c := c85) Tryz.func85 (by kernel_rfl) (by kernel_rfl) (by kernel_rfl) c85_ok (by kernel_rfl) (by kernel_rfl) hρ hs h
-- loop (first region 5): live slots 5:n5 24:t24 25:t25 26:t26, of which it writes [5, 26]
/-! (*gharry.pack.Reader).Raw -/
noncomputable def c101 : Cfg := { P := Tryz.prog, n := 51, T := TT, body := (Tryz.f101.body).getD .skip, res := Tryz.f101.results.toList, li := lk [] [(0, [0, 1]), (1, [0, 1]), (2, []), (3, [0, 1]), (4, [0]), (5, []), (6, [0, 1]), (7, [0]), (8, []), (9, [0, 1]), (10, [0, 1])], lo := lk [] [(0, [0, 1]), (1, [0, 1, 5]), (2, [4]), (3, [0, 1, 8]), (4, []), (5, [4]), (6, [0, 1, 13]), (7, []), (8, [4]), (9, [0, 1]), (10, [4]), (1000000, [4])], ord := lk (false, []) [(6, (true, [(0, 1), (1, 1), (2, 1), (3, 1), (4, 0), (5, 1), (6, 1), (7, 1), (8, 1), (9, 0), (10, 1), (11, 1), (12, 1)])), (10, (true, [(0, 1), (1, 1), (2, 1), (3, 0), (4, 1), (5, 1), (6, 1), (7, 0), (8, 1), (9, 1), (10, 1), (11, 1), (12, 1), (13, 0), (14, 1), (15, 1)]))] }
@[go_sem] theorem c101_i0 : c101.li 0 = [0, 1] := rfl
@[go_sem] theorem c101_i1 : c101.li 1 = [0, 1] := rfl
@[go_sem] theorem c101_i2 : c101.li 2 = [] := rfl
@[go_sem] theorem c101_i3 : c101.li 3 = [0, 1] := rfl
@[go_sem] theorem c101_i4 : c101.li 4 = [0] := rfl
@[go_sem] theorem c101_i5 : c101.li 5 = [] := rfl
@[go_sem] theorem c101_i6 : c101.li 6 = [0, 1] := rfl
@[go_sem] theorem c101_i7 : c101.li 7 = [0] := rfl
@[go_sem] theorem c101_i8 : c101.li 8 = [] := rfl
@[go_sem] theorem c101_i9 : c101.li 9 = [0, 1] := rfl
@[go_sem] theorem c101_i10 : c101.li 10 = [0, 1] := rfl
@[go_sem] theorem c101_r0 (r0 : Option Addr) (n1 : Int) (K : Env → W) : RP c101 0 [(0, .pointer r0), (1, .int .i64 n1)] K =
    (K [(0, .pointer r0), (1, .int .i64 n1)]) := by kernel_rfl
@[go_sem] theorem c101_r1 (r0 : Option Addr) (n1 : Int) (K : Env → W) : RP c101 1 [(0, .pointer r0), (1, .int .i64 n1)] K =
    (cal eB Tryz.prog 113 #[.pointer r0] fun (y1_ : Bool) => (K [(0, .pointer r0), (1, .int .i64 n1), (5, .bool y1_)])) := by kernel_rfl
@[go_sem] theorem c101_r2 (K : Env → W) : RP c101 2 [] K =
    (K [(4, str (([] : List UInt8)))]) := by kernel_rfl
@[go_sem] theorem c101_r3 (r0 : Option Addr) (n1 : Int) (K : Env → W) : RP c101 3 [(0, .pointer r0), (1, .int .i64 n1)] K =
    (K [(0, .pointer r0), (1, .int .i64 n1), (8, .bool ((decide (n1 < (0 : Int)))))]) := by kernel_rfl
@[go_sem] theorem c101_r4 (r0 : Option Addr) (K : Env → W) : RP c101 4 [(0, .pointer r0)] K =
    (cal eN Tryz.prog 114 #[.pointer r0, .int .i64 (1 : Int)] fun (y1_ : Unit) => (K [])) := by kernel_rfl
@[go_sem] theorem c101_r5 (K : Env → W) : RP c101 5 [] K =
    (K [(4, str (([] : List UInt8)))]) := by kernel_rfl
@[go_sem] theorem c101_r6 (r0 : Option Addr) (n1 : Int) (K : Env → W) : RP c101 6 [(0, .pointer r0), (1, .int .i64 n1)] K =
    (ph fun S0 => (nn r0 fun y1_ => (ldq S0 eS y1_ fun (y2_ : List UInt8) => (nn r0 fun y3_ => (ldq S0 eI ((y3_.add 1)) fun (y4_ : Int) => (K [(0, .pointer r0), (1, .int .i64 n1), (13, .bool ((decide ((IntKind.wrap .i64 (((y2_).length : Int) - y4_)) < n1))))])))))) := by kernel_rfl
@[go_sem] theorem c101_r7 (r0 : Option Addr) (K : Env → W) : RP c101 7 [(0, .pointer r0)] K =
    (cal eN Tryz.prog 114 #[.pointer r0, .int .i64 (2 : Int)] fun (y1_ : Unit) => (K [])) := by kernel_rfl
@[go_sem] theorem c101_r8 (K : Env → W) : RP c101 8 [] K =
    (K [(4, str (([] : List UInt8)))]) := by kernel_rfl
@[go_sem] theorem c101_r9 (r0 : Option Addr) (n1 : Int) (K : Env → W) : RP c101 9 [(0, .pointer r0), (1, .int .i64 n1)] K =
    (nn r0 fun y1_ => (ld eI ((y1_.add 1)) fun (y2_ : Int) => (nn r0 fun y3_ => (st ((y3_.add 1)) (.int .i64 ((IntKind.wrap .i64 (y2_ + n1)))) (K [(0, .pointer r0), (1, .int .i64 n1)]))))) := by kernel_rfl
@[go_sem] theorem c101_r10 (r0 : Option Addr) (n1 : Int) (K : Env → W) : RP c101 10 [(0, .pointer r0), (1, .int .i64 n1)] K =
    (ph fun S0 => (nn r0 fun y1_ => (ldq S0 eS y1_ fun (y2_ : List UInt8) => (nn r0 fun y3_ => (ldq S0 eI ((y3_.add 1)) fun (y4_ : Int) => (nn r0 fun y5_ => (ldq S0 eI ((y5_.add 1)) fun (y6_ : Int) => (rq (0 ≤ ((IntKind.wrap .i64 (y4_ - n1)) : Int) ∧ (IntKind.wrap .i64 (y4_ - n1)) ≤ y6_ ∧ y6_ ≤ ((y2_).length : Int)) (K [(4, str ((ss y2_ ((IntKind.wrap .i64 (y4_ - n1))) y6_)))]))))))))) := by kernel_rfl
@[go_sem] theorem c101_o : c101.lo 1000000 = [4] := rfl
@[go_sem] theorem c101_e (t4 : List UInt8) (k : Value → W) : RTp c101 [(4, str t4)] k = (k (str t4)) := by kernel_rfl
theorem c101_ok : (c101.P.follows .mixedOrders && okc c101 c101.body) = true := by kernel_rfl
theorem c101_fn {e : Enc} {args : Array Value} {G : e.α → W} {L : List HP} {ρ : Env} (hρ : envA 0 args.toList = ρ) (hs : Nat.ble args.size 51 = true) (h : E L (D c101 (.seq (.reg 0) (.seq (.block 0 (.seq (.reg 1) (.cond (.tmp 5) (.seq (.reg 2) (.ret)) (.seq (.reg 3) (.cond (.tmp 8) (.seq (.reg 4) (.seq (.reg 5) (.ret))) (.seq (.reg 6) (.cond (.tmp 13) (.seq (.reg 7) (.seq (.reg 8) (.ret))) (.skip)))))))) (.seq (.reg 9) (.seq (.reg 10) (.ret))))) (fnQ c101 e G) ρ)) : E L (cal e Tryz.prog 101 args G) :=
  d_fn (c := c101) Tryz.func101 (by kernel_rfl) (by kernel_rfl) (by kernel_rfl) c101_ok (by kernel_rfl) (by kernel_rfl) hρ hs h
/-! (*gharry.pack.Reader).off -/
noncomputable def c113 : Cfg := { P := Tryz.prog, n := 12, T := TT, body := (Tryz.f113.body).getD .skip, res := Tryz.f113.results.toList, li := lk [] [(0, [0]), (1, [0])], lo := lk [] [(0, [0]), (1, [2]), (1000000, [2])], ord := lk (false, []) [] }
@[go_sem] theorem c113_i0 : c113.li 0 = [0] := rfl
@[go_sem] theorem c113_i1 : c113.li 1 = [0] := rfl
@[go_sem] theorem c113_r0 (r0 : Option Addr) (K : Env → W) : RP c113 0 [(0, .pointer r0)] K =
    (K [(0, .pointer r0)]) := by kernel_rfl
@[go_sem] theorem c113_r1 (r0 : Option Addr) (K : Env → W) : RP c113 1 [(0, .pointer r0)] K =
    (cnd ((r0).isNone) (K [(2, .bool true)]) (nn r0 fun y1_ => (ld eI ((y1_.add 2)) fun (y2_ : Int) => (K [(2, .bool ((y2_ != (0 : Int))))])))) := by kernel_rfl
@[go_sem] theorem c113_o : c113.lo 1000000 = [2] := rfl
@[go_sem] theorem c113_e (t2 : Bool) (k : Value → W) : RTp c113 [(2, .bool t2)] k = (k (.bool t2)) := by kernel_rfl
theorem c113_ok : (c113.P.follows .mixedOrders && okc c113 c113.body) = true := by kernel_rfl
theorem c113_fn {e : Enc} {args : Array Value} {G : e.α → W} {L : List HP} {ρ : Env} (hρ : envA 0 args.toList = ρ) (hs : Nat.ble args.size 12 = true) (h : E L (D c113 (.seq (.reg 0) (.seq (.reg 1) (.ret))) (fnQ c113 e G) ρ)) : E L (cal e Tryz.prog 113 args G) :=
  d_fn (c := c113) Tryz.func113 (by kernel_rfl) (by kernel_rfl) (by kernel_rfl) c113_ok (by kernel_rfl) (by kernel_rfl) hρ hs h
/-! (*gharry.pack.Reader).fail -/
noncomputable def c114 : Cfg := { P := Tryz.prog, n := 13, T := TT, body := (Tryz.f114.body).getD .skip, res := Tryz.f114.results.toList, li := lk [] [(0, [0, 1]), (1, [0, 1])], lo := lk [] [(0, [0, 1, 8]), (1, []), (1000000, [])], ord := lk (false, []) [] }
@[go_sem] theorem c114_i0 : c114.li 0 = [0, 1] := rfl
@[go_sem] theorem c114_i1 : c114.li 1 = [0, 1] := rfl
@[go_sem] theorem c114_r0 (r0 : Option Addr) (e1 : Int) (K : Env → W) : RP c114 0 [(0, .pointer r0), (1, .int .i64 e1)] K =
    (nn r0 fun y1_ => (ld eI ((y1_.add 2)) fun (y2_ : Int) => (K [(0, .pointer r0), (1, .int .i64 e1), (8, .bool ((y2_ == (0 : Int))))]))) := by kernel_rfl
@[go_sem] theorem c114_r1 (r0 : Option Addr) (e1 : Int) (K : Env → W) : RP c114 1 [(0, .pointer r0), (1, .int .i64 e1)] K =
    (nn r0 fun y1_ => (st ((y1_.add 2)) (.int .i64 e1) (K []))) := by kernel_rfl
@[go_sem] theorem c114_o : c114.lo 1000000 = [] := rfl
@[go_sem] theorem c114_e (k : Value → W) : RTp c114 [] k = (k (.tuple #[])) := by kernel_rfl
theorem c114_ok : (c114.P.follows .mixedOrders && okc c114 c114.body) = true := by kernel_rfl
theorem c114_fn {e : Enc} {args : Array Value} {G : e.α → W} {L : List HP} {ρ : Env} (hρ : envA 0 args.toList = ρ) (hs : Nat.ble args.size 13 = true) (h : E L (D c114 (.seq (.reg 0) (.cond (.tmp 8) (.reg 1) (.skip))) (fnQ c114 e G) ρ)) : E L (cal e Tryz.prog 114 args G) :=
  d_fn (c := c114) Tryz.func114 (by kernel_rfl) (by kernel_rfl) (by kernel_rfl) c114_ok (by kernel_rfl) (by kernel_rfl) hρ hs h
/-! (*gharry.pack.Reader).Err -/
noncomputable def c115 : Cfg := { P := Tryz.prog, n := 9, T := TT, body := (Tryz.f115.body).getD .skip, res := Tryz.f115.results.toList, li := lk [] [(0, [0]), (1, [0]), (2, []), (3, [0])], lo := lk [] [(0, [0]), (1, [0, 4]), (2, [2]), (3, [2]), (1000000, [2])], ord := lk (false, []) [] }
@[go_sem] theorem c115_i0 : c115.li 0 = [0] := rfl
@[go_sem] theorem c115_i1 : c115.li 1 = [0] := rfl
@[go_sem] theorem c115_i2 : c115.li 2 = [] := rfl
@[go_sem] theorem c115_i3 : c115.li 3 = [0] := rfl
@[go_sem] theorem c115_r0 (r0 : Option Addr) (K : Env → W) : RP c115 0 [(0, .pointer r0)] K =
    (K [(0, .pointer r0)]) := by kernel_rfl
@[go_sem] theorem c115_r1 (r0 : Option Addr) (K : Env → W) : RP c115 1 [(0, .pointer r0)] K =
    (K [(0, .pointer r0), (4, .bool ((r0).isNone))]) := by kernel_rfl
@[go_sem] theorem c115_r2 (K : Env → W) : RP c115 2 [] K =
    (K [(2, .int .i64 (11 : Int))]) := by kernel_rfl
@[go_sem] theorem c115_r3 (r0 : Option Addr) (K : Env → W) : RP c115 3 [(0, .pointer r0)] K =
    (nn r0 fun y1_ => (ld eI ((y1_.add 2)) fun (y2_ : Int) => (K [(2, .int .i64 y2_)]))) := by kernel_rfl
@[go_sem] theorem c115_o : c115.lo 1000000 = [2] := rfl
@[go_sem] theorem c115_e (t2 : Int) (k : Value → W) : RTp c115 [(2, .int .i64 t2)] k = (k (.int .i64 t2)) := by kernel_rfl
theorem c115_ok : (c115.P.follows .mixedOrders && okc c115 c115.body) = true := by kernel_rfl
theorem c115_fn {e : Enc} {args : Array Value} {G : e.α → W} {L : List HP} {ρ : Env} (hρ : envA 0 args.toList = ρ) (hs : Nat.ble args.size 9 = true) (h : E L (D c115 (.seq (.reg 0) (.seq (.seq (.reg 1) (.cond (.tmp 4) (.seq (.reg 2) (.ret)) (.skip))) (.seq (.reg 3) (.ret)))) (fnQ c115 e G) ρ)) : E L (cal e Tryz.prog 115 args G) :=
  d_fn (c := c115) Tryz.func115 (by kernel_rfl) (by kernel_rfl) (by kernel_rfl) c115_ok (by kernel_rfl) (by kernel_rfl) hρ hs h
/-! (*gharry.pack.Reader).End -/
noncomputable def c119 : Cfg := { P := Tryz.prog, n := 10, T := TT, body := (Tryz.f119.body).getD .skip, res := Tryz.f119.results.toList, li := lk [] [(0, [0]), (1, [0]), (2, [0]), (3, [0])], lo := lk [] [(0, [0]), (1, [0, 5]), (2, [0]), (3, [2]), (1000000, [2])], ord := lk (false, []) [] }
@[go_sem] theorem c119_i0 : c119.li 0 = [0] := rfl
@[go_sem] theorem c119_i1 : c119.li 1 = [0] := rfl
@[go_sem] theorem c119_i2 : c119.li 2 = [0] := rfl
@[go_sem] theorem c119_i3 : c119.li 3 = [0] := rfl
@[go_sem] theorem c119_r0 (r0 : Option Addr) (K : Env → W) : RP c119 0 [(0, .pointer r0)] K =
    (K [(0, .pointer r0)]) := by kernel_rfl
@[go_sem] theorem c119_r1 (r0 : Option Addr) (K : Env → W) : RP c119 1 [(0, .pointer r0)] K =
    (cal eI Tryz.prog 134 #[.pointer r0] fun (y1_ : Int) => (K [(0, .pointer r0), (5, .bool ((decide ((0 : Int) < y1_))))])) := by kernel_rfl
@[go_sem] theorem c119_r2 (r0 : Option Addr) (K : Env → W) : RP c119 2 [(0, .pointer r0)] K =
    (cal eN Tryz.prog 114 #[.pointer r0, .int .i64 (4 : Int)] fun (y1_ : Unit) => (K [(0, .pointer r0)])) := by kernel_rfl
@[go_sem] theorem c119_r3 (r0 : Option Addr) (K : Env → W) : RP c119 3 [(0, .pointer r0)] K =
    (cal eI Tryz.prog 115 #[.pointer r0] fun (y1_ : Int) => (K [(2, .int .i64 y1_)])) := by kernel_rfl
@[go_sem] theorem c119_o : c119.lo 1000000 = [2] := rfl
@[go_sem] theorem c119_e (t2 : Int) (k : Value → W) : RTp c119 [(2, .int .i64 t2)] k = (k (.int .i64 t2)) := by kernel_rfl
theorem c119_ok : (c119.P.follows .mixedOrders && okc c119 c119.body) = true := by kernel_rfl
theorem c119_fn {e : Enc} {args : Array Value} {G : e.α → W} {L : List HP} {ρ : Env} (hρ : envA 0 args.toList = ρ) (hs : Nat.ble args.size 10 = true) (h : E L (D c119 (.seq (.reg 0) (.seq (.seq (.reg 1) (.cond (.tmp 5) (.reg 2) (.skip))) (.seq (.reg 3) (.ret)))) (fnQ c119 e G) ρ)) : E L (cal e Tryz.prog 119 args G) :=
  d_fn (c := c119) Tryz.func119 (by kernel_rfl) (by kernel_rfl) (by kernel_rfl) c119_ok (by kernel_rfl) (by kernel_rfl) hρ hs h
/-! (*gharry.pack.Reader).Text -/
noncomputable def c133 : Cfg := { P := Tryz.prog, n := 21, T := TT, body := (Tryz.f133.body).getD .skip, res := Tryz.f133.results.toList, li := lk [] [(0, [0, 1]), (1, [0, 1]), (2, [0, 1, 5]), (3, [0, 5]), (4, [0, 5])], lo := lk [] [(0, [0, 1]), (1, [0, 1, 5]), (2, [0, 5, 15]), (3, [0, 5]), (4, [4]), (1000000, [4])], ord := lk (false, []) [] }
@[go_sem] theorem c133_i0 : c133.li 0 = [0, 1] := rfl
@[go_sem] theorem c133_i1 : c133.li 1 = [0, 1] := rfl
@[go_sem] theorem c133_i2 : c133.li 2 = [0, 1, 5] := rfl
@[go_sem] theorem c133_i3 : c133.li 3 = [0, 5] := rfl
@[go_sem] theorem c133_i4 : c133.li 4 = [0, 5] := rfl
@[go_sem] theorem c133_r0 (r0 : Option Addr) (most1 : Int) (K : Env → W) : RP c133 0 [(0, .pointer r0), (1, .int .i64 most1)] K =
    (K [(0, .pointer r0), (1, .int .i64 most1)]) := by kernel_rfl
@[go_sem] theorem c133_r1 (r0 : Option Addr) (most1 : Int) (K : Env → W) : RP c133 1 [(0, .pointer r0), (1, .int .i64 most1)] K =
    (cal eI Tryz.prog 85 #[.pointer r0, .int .i64 (2 : Int)] fun (y1_ : Int) => (K [(0, .pointer r0), (1, .int .i64 most1), (5, .int .i64 y1_)])) := by kernel_rfl
@[go_sem] theorem c133_r2 (r0 : Option Addr) (most1 : Int) (n5 : Int) (K : Env → W) : RP c133 2 [(0, .pointer r0), (1, .int .i64 most1), (5, .int .i64 n5)] K =
    (cal eB Tryz.prog 113 #[.pointer r0] fun (y1_ : Bool) => (cnd ((!y1_)) (K [(0, .pointer r0), (5, .int .i64 n5), (15, .bool ((decide (most1 < n5))))]) (K [(0, .pointer r0), (5, .int .i64 n5), (15, .bool false)]))) := by kernel_rfl
@[go_sem] theorem c133_r3 (r0 : Option Addr) (n5 : Int) (K : Env → W) : RP c133 3 [(0, .pointer r0), (5, .int .i64 n5)] K =
    (cal eN Tryz.prog 114 #[.pointer r0, .int .i64 (3 : Int)] fun (y1_ : Unit) => (K [(0, .pointer r0), (5, .int .i64 n5)])) := by kernel_rfl
@[go_sem] theorem c133_r4 (r0 : Option Addr) (n5 : Int) (K : Env → W) : RP c133 4 [(0, .pointer r0), (5, .int .i64 n5)] K =
    (cal eS Tryz.prog 101 #[.pointer r0, .int .i64 n5] fun (y1_ : List UInt8) => (K [(4, str y1_)])) := by kernel_rfl
@[go_sem] theorem c133_o : c133.lo 1000000 = [4] := rfl
@[go_sem] theorem c133_e (t4 : List UInt8) (k : Value → W) : RTp c133 [(4, str t4)] k = (k (str t4)) := by kernel_rfl
theorem c133_ok : (c133.P.follows .mixedOrders && okc c133 c133.body) = true := by kernel_rfl
theorem c133_fn {e : Enc} {args : Array Value} {G : e.α → W} {L : List HP} {ρ : Env} (hρ : envA 0 args.toList = ρ) (hs : Nat.ble args.size 21 = true) (h : E L (D c133 (.seq (.reg 0) (.seq (.reg 1) (.seq (.seq (.reg 2) (.cond (.tmp 15) (.reg 3) (.skip))) (.seq (.reg 4) (.ret))))) (fnQ c133 e G) ρ)) : E L (cal e Tryz.prog 133 args G) :=
  d_fn (c := c133) Tryz.func133 (by kernel_rfl) (by kernel_rfl) (by kernel_rfl) c133_ok (by kernel_rfl) (by kernel_rfl) hρ hs h
/-! (*gharry.pack.Reader).Left -/
noncomputable def c134 : Cfg := { P := Tryz.prog, n := 15, T := TT, body := (Tryz.f134.body).getD .skip, res := Tryz.f134.results.toList, li := lk [] [(0, [0]), (1, [0]), (2, []), (3, [0])], lo := lk [] [(0, [0]), (1, [0, 4]), (2, [2]), (3, [2]), (1000000, [2])], ord := lk (false, []) [(3, (true, [(0, 1), (1, 1), (2, 1), (3, 0), (4, 1), (5, 1), (6, 1), (7, 1), (8, 0), (9, 1), (10, 1)]))] }
@[go_sem] theorem c134_i0 : c134.li 0 = [0] := rfl
@[go_sem] theorem c134_i1 : c134.li 1 = [0] := rfl
@[go_sem] theorem c134_i2 : c134.li 2 = [] := rfl
@[go_sem] theorem c134_i3 : c134.li 3 = [0] := rfl
@[go_sem] theorem c134_r0 (r0 : Option Addr) (K : Env → W) : RP c134 0 [(0, .pointer r0)] K =
    (K [(0, .pointer r0)]) := by kernel_rfl
@[go_sem] theorem c134_r1 (r0 : Option Addr) (K : Env → W) : RP c134 1 [(0, .pointer r0)] K =
    (cal eB Tryz.prog 113 #[.pointer r0] fun (y1_ : Bool) => (K [(0, .pointer r0), (4, .bool y1_)])) := by kernel_rfl
@[go_sem] theorem c134_r2 (K : Env → W) : RP c134 2 [] K =
    (K [(2, .int .i64 (0 : Int))]) := by kernel_rfl
@[go_sem] theorem c134_r3 (r0 : Option Addr) (K : Env → W) : RP c134 3 [(0, .pointer r0)] K =
    (ph fun S0 => (nn r0 fun y1_ => (ldq S0 eS y1_ fun (y2_ : List UInt8) => (nn r0 fun y3_ => (ldq S0 eI ((y3_.add 1)) fun (y4_ : Int) => (K [(2, .int .i64 ((IntKind.wrap .i64 (((y2_).length : Int) - y4_))))])))))) := by kernel_rfl
@[go_sem] theorem c134_o : c134.lo 1000000 = [2] := rfl
@[go_sem] theorem c134_e (t2 : Int) (k : Value → W) : RTp c134 [(2, .int .i64 t2)] k = (k (.int .i64 t2)) := by kernel_rfl
theorem c134_ok : (c134.P.follows .mixedOrders && okc c134 c134.body) = true := by kernel_rfl
theorem c134_fn {e : Enc} {args : Array Value} {G : e.α → W} {L : List HP} {ρ : Env} (hρ : envA 0 args.toList = ρ) (hs : Nat.ble args.size 15 = true) (h : E L (D c134 (.seq (.reg 0) (.seq (.seq (.reg 1) (.cond (.tmp 4) (.seq (.reg 2) (.ret)) (.skip))) (.seq (.reg 3) (.ret)))) (fnQ c134 e G) ρ)) : E L (cal e Tryz.prog 134 args G) :=
  d_fn (c := c134) Tryz.func134 (by kernel_rfl) (by kernel_rfl) (by kernel_rfl) c134_ok (by kernel_rfl) (by kernel_rfl) hρ hs h
end Go.Sp
/- The reader of packed numbers and texts. -/
namespace Go.Sp
open Go Go.Proofs
set_option linter.unusedSimpArgs false
set_option linter.unusedVariables false
set_option maxRecDepth 10000
structure Rd where
  b : Nat
  s : List UInt8
  a : Nat
  e : Int
abbrev rdl (R : Rd) : List HP := [ar R.b 163 [str R.s, .int .i64 (R.a : Int), .int .i64 R.e]]
def Rd.fail (R : Rd) (x : Int) : Rd := if R.e = 0 then { R with e := x } else R
def Rd.raw (R : Rd) (n : Int) : List UInt8 × Rd :=
  if R.e = 0 then (if n < 0 then ([], { R with e := 1 }) else if (R.s.length : Int) - R.a < n then ([], { R with e := 2 }) else ((R.s.drop R.a).take n.toNat, { R with a := R.a + n.toNat })) else ([], R)
theorem f72 (s : List UInt8) : Fn eP Tryz.prog 84 #[str s] [] fun y X => ∃ b, y = some ⟨b, 0, none⟩ ∧ X = rdl ⟨b, s, 0, 0⟩ := fun L => by
  refine c84_fn rfl rfl ?_
  repeat' (first | (with_reducible first | (refine d_seq ?_; intro K hK) | (refine hK _ _ ?_; clear hK K) | (refine SG.p ?_; try intro b)) | ((with_reducible refine SC.p ?_); refine And.intro ?_ ?_) <;> intro hc <;> try simp only [push_cast, Int.reduceEq, Int.reduceLT, Int.reduceLE, Int.reduceNe] at hc | with_reducible refine r_rq (by first | decide | omega) ?_ | ((with_reducible refine SL.p ?_); first | refine ⟨_, rfl, ?_⟩ | refine ⟨_, _, _, rfl, ?_⟩ | (refine ⟨?_, rfl, ?_⟩; focus (simp; done))) | ((with_reducible first | apply i_ldn | apply i_ldnq); exact rfl; exact rfl; exact rfl) | ((try with_reducible refine d_reg ?_); simp only [go_sem, Nat.reduceAdd, Nat.reduceEqDiff, Int.reduceToNat, Nat.reduceMul, Nat.reduceSub]) | clear hK K)
  exact i_done (some ⟨b, 0, none⟩) (rdl ⟨b, s, 0, 0⟩) rfl ⟨b, rfl, rfl⟩
theorem f88 (R : Rd) : Fp eB Tryz.prog 113 #[.pointer (some ⟨R.b, 0, none⟩)] (rdl R) (R.e != 0) := fun L => by
  refine c113_fn rfl rfl ?_
  repeat' (first | (with_reducible first | (refine d_seq ?_; intro K hK) | (refine hK _ _ ?_; clear hK K) | (refine SG.p ?_; try intro b)) | ((with_reducible refine SC.p ?_); refine And.intro ?_ ?_) <;> intro hc <;> try simp only [push_cast, Int.reduceEq, Int.reduceLT, Int.reduceLE, Int.reduceNe] at hc | with_reducible refine r_rq (by first | decide | omega) ?_ | ((with_reducible refine SL.p ?_); first | refine ⟨_, rfl, ?_⟩ | refine ⟨_, _, _, rfl, ?_⟩ | (refine ⟨?_, rfl, ?_⟩; focus (simp; done))) | ((with_reducible first | apply i_ldn | apply i_ldnq); exact rfl; exact rfl; exact rfl) | ((try with_reducible refine d_reg ?_); simp only [go_sem, Nat.reduceAdd, Nat.reduceEqDiff, Int.reduceToNat, Nat.reduceMul, Nat.reduceSub]) | clear hK K)
  (with_reducible first | apply i_ret0 | apply i_ret2 | apply i_ret3 | apply i_ret); exact rfl
  rfl
theorem f74 (R : Rd) : Fp eI Tryz.prog 115 #[.pointer (some ⟨R.b, 0, none⟩)] (rdl R) R.e := fun L => by
  refine c115_fn rfl rfl ?_
  repeat' (first | (with_reducible first | (refine d_seq ?_; intro K hK) | (refine hK _ _ ?_; clear hK K) | (refine SG.p ?_; try intro b)) | ((with_reducible refine SC.p ?_); refine And.intro ?_ ?_) <;> intro hc <;> try simp only [push_cast, Int.reduceEq, Int.reduceLT, Int.reduceLE, Int.reduceNe] at hc | with_reducible refine r_rq (by first | decide | omega) ?_ | ((with_reducible refine SL.p ?_); first | refine ⟨_, rfl, ?_⟩ | refine ⟨_, _, _, rfl, ?_⟩ | (refine ⟨?_, rfl, ?_⟩; focus (simp; done))) | ((with_reducible first | apply i_ldn | apply i_ldnq); exact rfl; exact rfl; exact rfl) | ((try with_reducible refine d_reg ?_); simp only [go_sem, Nat.reduceAdd, Nat.reduceEqDiff, Int.reduceToNat, Nat.reduceMul, Nat.reduceSub]) | clear hK K)
  (with_reducible first | apply i_ret0 | apply i_ret2 | apply i_ret3 | apply i_ret); exact rfl
  rfl
theorem f89 (R : Rd) (x : Int) : Fq eN Tryz.prog 114 #[.pointer (some ⟨R.b, 0, none⟩), .int .i64 x] (rdl R) (rdl (R.fail x)) () := by
  by_cases h : R.e = 0
  all_goals
    unfold Rd.fail
    simp only [h, if_true, if_false]
    intro L
    refine c114_fn rfl rfl ?_
    repeat' (first | (with_reducible first | (refine d_seq ?_; intro K hK) | (refine hK _ _ ?_; clear hK K) | (refine SG.p ?_; try intro b)) | ((with_reducible refine SC.p ?_); refine And.intro ?_ ?_) <;> intro hc <;> try simp only [push_cast, Int.reduceEq, Int.reduceLT, Int.reduceLE, Int.reduceNe] at hc | with_reducible refine r_rq (by first | decide | omega) ?_ | ((with_reducible refine SL.p ?_); first | refine ⟨_, rfl, ?_⟩ | refine ⟨_, _, _, rfl, ?_⟩ | (refine ⟨?_, rfl, ?_⟩; focus (simp; done))) | ((with_reducible first | apply i_ldn | apply i_ldnq); exact rfl; exact rfl; exact rfl) | ((try with_reducible refine d_reg ?_); simp only [go_sem, Nat.reduceAdd, Nat.reduceEqDiff, Int.reduceToNat, Nat.reduceMul, Nat.reduceSub]) | clear hK K)
    all_goals first | contradiction | ((with_reducible first | apply i_ret0 | apply i_ret2 | apply i_ret3 | apply i_ret); exact rfl; rfl) | (with_reducible first | apply i_ret0 | apply i_ret2 | apply i_ret3 | apply i_ret); exact rfl
theorem ss_n (s : List UInt8) (a m : Nat) : ss s (a : Int) ((a + m : Nat) : Int) = (s.drop a).take m := by
  unfold ss
  simp only [Int.toNat_natCast]
  rw [List.drop_take]
  congr 1; omega
theorem f90 (R : Rd) (n : Int) (hl : R.s.length ≤ 4611686018427387904) (ha : R.a ≤ R.s.length) : Fq eS Tryz.prog 101 #[.pointer (some ⟨R.b, 0, none⟩), .int .i64 n] (rdl R) (rdl (R.raw n).2) (R.raw n).1 := by
  obtain ⟨b, s, a, e⟩ := R
  dsimp only at hl ha
  unfold Rd.raw
  by_cases h : e = 0
  · subst h
    by_cases h1 : n < 0
    · simp only [h1, if_true]
      intro L
      refine c101_fn rfl rfl ?_
      repeat' ((fail_if_success with_reducible refine nph ?_); first | (with_reducible first | (refine d_seq ?_; intro K hK) | (refine hK _ _ ?_; clear hK K) | (refine SG.p ?_; try intro b)) | ((with_reducible refine SC.p ?_); refine And.intro ?_ ?_) <;> intro hc <;> try simp only [push_cast, Int.reduceEq, Int.reduceLT, Int.reduceLE, Int.reduceNe] at hc | with_reducible refine r_rq (by first | decide | omega) ?_ | ((with_reducible refine SL.p ?_); first | refine ⟨_, rfl, ?_⟩ | refine ⟨_, _, _, rfl, ?_⟩ | (refine ⟨?_, rfl, ?_⟩; focus (simp; done))) | ((with_reducible first | apply i_ldn | apply i_ldnq); exact rfl; exact rfl; exact rfl) | ((try with_reducible refine d_reg ?_); simp only [go_sem, Nat.reduceAdd, Nat.reduceEqDiff, Int.reduceToNat, Nat.reduceMul, Nat.reduceSub]) | clear hK K)
      refine i_clp (f88 ⟨b, s, a, 0⟩) ?_
      repeat' ((fail_if_success with_reducible refine nph ?_); first | (with_reducible first | (refine d_seq ?_; intro K hK) | (refine hK _ _ ?_; clear hK K) | (refine SG.p ?_; try intro b)) | ((with_reducible refine SC.p ?_); refine And.intro ?_ ?_) <;> intro hc <;> try simp only [push_cast, Int.reduceEq, Int.reduceLT, Int.reduceLE, Int.reduceNe] at hc | with_reducible refine r_rq (by first | decide | omega) ?_ | ((with_reducible refine SL.p ?_); first | refine ⟨_, rfl, ?_⟩ | refine ⟨_, _, _, rfl, ?_⟩ | (refine ⟨?_, rfl, ?_⟩; focus (simp; done))) | ((with_reducible first | apply i_ldn | apply i_ldnq); exact rfl; exact rfl; exact rfl) | ((try with_reducible refine d_reg ?_); simp only [go_sem, Nat.reduceAdd, Nat.reduceEqDiff, Int.reduceToNat, Nat.reduceMul, Nat.reduceSub]) | clear hK K)
      all_goals try (first | contradiction | (exfalso; omega))
      refine i_clq (f89 ⟨b, s, a, 0⟩ 1) ?_
      unfold Rd.fail
      simp only [if_true]
      repeat' (first | (with_reducible first | (refine d_seq ?_; intro K hK) | (refine hK _ _ ?_; clear hK K) | (refine SG.p ?_; try intro b)) | ((with_reducible refine SC.p ?_); refine And.intro ?_ ?_) <;> intro hc <;> try simp only [push_cast, Int.reduceEq, Int.reduceLT, Int.reduceLE, Int.reduceNe] at hc | with_reducible refine r_rq (by first | decide | omega) ?_ | ((with_reducible refine SL.p ?_); first | refine ⟨_, rfl, ?_⟩ | refine ⟨_, _, _, rfl, ?_⟩ | (refine ⟨?_, rfl, ?_⟩; focus (simp; done))) | ((with_reducible first | apply i_ldn | apply i_ldnq); exact rfl; exact rfl; exact rfl) | ((try with_reducible refine d_reg ?_); simp only [go_sem, Nat.reduceAdd, Nat.reduceEqDiff, Int.reduceToNat, Nat.reduceMul, Nat.reduceSub]) | clear hK K)
      (with_reducible first | apply i_ret0 | apply i_ret2 | apply i_ret3 | apply i_ret); exact rfl
      rfl
    · by_cases h2 : (s.length : Int) - a < n
      all_goals
        simp only [h1, h2, if_true, if_false]
        intro L
        refine c101_fn rfl rfl ?_
        repeat' ((fail_if_success with_reducible refine nph ?_); first | (with_reducible first | (refine d_seq ?_; intro K hK) | (refine hK _ _ ?_; clear hK K) | (refine SG.p ?_; try intro b)) | ((with_reducible refine SC.p ?_); refine And.intro ?_ ?_) <;> intro hc <;> try simp only [push_cast, Int.reduceEq, Int.reduceLT, Int.reduceLE, Int.reduceNe] at hc | with_reducible refine r_rq (by first | decide | omega) ?_ | ((with_reducible refine SL.p ?_); first | refine ⟨_, rfl, ?_⟩ | refine ⟨_, _, _, rfl, ?_⟩ | (refine ⟨?_, rfl, ?_⟩; focus (simp; done))) | ((with_reducible first | apply i_ldn | apply i_ldnq); exact rfl; exact rfl; exact rfl) | ((try with_reducible refine d_reg ?_); simp only [go_sem, Nat.reduceAdd, Nat.reduceEqDiff, Int.reduceToNat, Nat.reduceMul, Nat.reduceSub]) | clear hK K)
        refine i_clp (f88 ⟨b, s, a, 0⟩) ?_
        repeat' ((fail_if_success with_reducible refine nph ?_); first | (with_reducible first | (refine d_seq ?_; intro K hK) | (refine hK _ _ ?_; clear hK K) | (refine SG.p ?_; try intro b)) | ((with_reducible refine SC.p ?_); refine And.intro ?_ ?_) <;> intro hc <;> try simp only [push_cast, Int.reduceEq, Int.reduceLT, Int.reduceLE, Int.reduceNe] at hc | with_reducible refine r_rq (by first | decide | omega) ?_ | ((with_reducible refine SL.p ?_); first | refine ⟨_, rfl, ?_⟩ | refine ⟨_, _, _, rfl, ?_⟩ | (refine ⟨?_, rfl, ?_⟩; focus (simp; done))) | ((with_reducible first | apply i_ldn | apply i_ldnq); exact rfl; exact rfl; exact rfl) | ((try with_reducible refine d_reg ?_); simp only [go_sem, Nat.reduceAdd, Nat.reduceEqDiff, Int.reduceToNat, Nat.reduceMul, Nat.reduceSub]) | clear hK K)
        all_goals try (first | contradiction | (exfalso; omega))
        repeat' ((fail_if_success with_reducible refine (id : E _ (D _ (.seq (.seq _ _) _) _ _) → E _ (D _ (.seq (.seq _ _) _) _ _)) ?_); first | (with_reducible first | (refine d_seq ?_; intro K hK) | (refine hK _ _ ?_; clear hK K) | (refine SG.p ?_; try intro b)) | ((with_reducible refine SC.p ?_); refine And.intro ?_ ?_) <;> intro hc <;> try simp only [push_cast, Int.reduceEq, Int.reduceLT, Int.reduceLE, Int.reduceNe] at hc | with_reducible refine r_rq (by first | decide | omega) ?_ | ((with_reducible refine SL.p ?_); first | refine ⟨_, rfl, ?_⟩ | refine ⟨_, _, _, rfl, ?_⟩ | (refine ⟨?_, rfl, ?_⟩; focus (simp; done))) | ((with_reducible first | apply i_ldn | apply i_ldnq); exact rfl; exact rfl; exact rfl) | ((try with_reducible refine d_reg ?_); simp only [go_sem, Nat.reduceAdd, Nat.reduceEqDiff, Int.reduceToNat, Nat.reduceMul, Nat.reduceSub]) | clear hK K)
        all_goals try (rw [w64 (by omega) (by omega)] at hc; exfalso; omega)
      · refine i_clq (f89 ⟨b, s, a, 0⟩ 2) ?_
        unfold Rd.fail
        simp only [if_true]
        repeat' (first | (with_reducible first | (refine d_seq ?_; intro K hK) | (refine hK _ _ ?_; clear hK K) | (refine SG.p ?_; try intro b)) | ((with_reducible refine SC.p ?_); refine And.intro ?_ ?_) <;> intro hc <;> try simp only [push_cast, Int.reduceEq, Int.reduceLT, Int.reduceLE, Int.reduceNe] at hc | with_reducible refine r_rq (by first | decide | omega) ?_ | ((with_reducible refine SL.p ?_); first | refine ⟨_, rfl, ?_⟩ | refine ⟨_, _, _, rfl, ?_⟩ | (refine ⟨?_, rfl, ?_⟩; focus (simp; done))) | ((with_reducible first | apply i_ldn | apply i_ldnq); exact rfl; exact rfl; exact rfl) | ((try with_reducible refine d_reg ?_); simp only [go_sem, Nat.reduceAdd, Nat.reduceEqDiff, Int.reduceToNat, Nat.reduceMul, Nat.reduceSub]) | clear hK K)
        (with_reducible first | apply i_ret0 | apply i_ret2 | apply i_ret3 | apply i_ret); exact rfl
        rfl
      · have e1 : IntKind.wrap .i64 ((a : Int) + n) = ((a + n.toNat : Nat) : Int) := by rw [w64 (by omega) (by omega)]; omega
        have e2 : IntKind.wrap .i64 (((a + n.toNat : Nat) : Int) - n) = (a : Int) := by rw [w64 (by omega) (by omega)]; omega
        repeat' (first | (simp only [e1, e2]) | first | (with_reducible first | (refine d_seq ?_; intro K hK) | (refine hK _ _ ?_; clear hK K) | (refine SG.p ?_; try intro b)) | ((with_reducible refine SC.p ?_); refine And.intro ?_ ?_) <;> intro hc <;> try simp only [push_cast, Int.reduceEq, Int.reduceLT, Int.reduceLE, Int.reduceNe] at hc | with_reducible refine r_rq (by first | decide | omega) ?_ | ((with_reducible refine SL.p ?_); first | refine ⟨_, rfl, ?_⟩ | refine ⟨_, _, _, rfl, ?_⟩ | (refine ⟨?_, rfl, ?_⟩; focus (simp; done))) | ((with_reducible first | apply i_ldn | apply i_ldnq); exact rfl; exact rfl; exact rfl) | ((try with_reducible refine d_reg ?_); simp only [go_sem, Nat.reduceAdd, Nat.reduceEqDiff, Int.reduceToNat, Nat.reduceMul, Nat.reduceSub]) | clear hK K)
        (with_reducible first | apply i_ret0 | apply i_ret2 | apply i_ret3 | apply i_ret); exact rfl
        exact ss_n _ _ _
  · simp only [h, if_false]
    intro L
    refine c101_fn rfl rfl ?_
    repeat' ((fail_if_success with_reducible refine nph ?_); first | (with_reducible first | (refine d_seq ?_; intro K hK) | (refine hK _ _ ?_; clear hK K) | (refine SG.p ?_; try intro b)) | ((with_reducible refine SC.p ?_); refine And.intro ?_ ?_) <;> intro hc <;> try simp only [push_cast, Int.reduceEq, Int.reduceLT, Int.reduceLE, Int.reduceNe] at hc | with_reducible refine r_rq (by first | decide | omega) ?_ | ((with_reducible refine SL.p ?_); first | refine ⟨_, rfl, ?_⟩ | refine ⟨_, _, _, rfl, ?_⟩ | (refine ⟨?_, rfl, ?_⟩; focus (simp; done))) | ((with_reducible first | apply i_ldn | apply i_ldnq); exact rfl; exact rfl; exact rfl) | ((try with_reducible refine d_reg ?_); simp only [go_sem, Nat.reduceAdd, Nat.reduceEqDiff, Int.reduceToNat, Nat.reduceMul, Nat.reduceSub]) | clear hK K)
    refine i_clp (f88 ⟨b, s, a, e⟩) ?_
    repeat' ((fail_if_success with_reducible refine nph ?_); first | (with_reducible first | (refine d_seq ?_; intro K hK) | (refine hK _ _ ?_; clear hK K) | (refine SG.p ?_; try intro b)) | ((with_reducible refine SC.p ?_); refine And.intro ?_ ?_) <;> intro hc <;> try simp only [push_cast, Int.reduceEq, Int.reduceLT, Int.reduceLE, Int.reduceNe] at hc | with_reducible refine r_rq (by first | decide | omega) ?_ | ((with_reducible refine SL.p ?_); first | refine ⟨_, rfl, ?_⟩ | refine ⟨_, _, _, rfl, ?_⟩ | (refine ⟨?_, rfl, ?_⟩; focus (simp; done))) | ((with_reducible first | apply i_ldn | apply i_ldnq); exact rfl; exact rfl; exact rfl) | ((try with_reducible refine d_reg ?_); simp only [go_sem, Nat.reduceAdd, Nat.reduceEqDiff, Int.reduceToNat, Nat.reduceMul, Nat.reduceSub]) | clear hK K)
    all_goals first | contradiction | ((with_reducible first | apply i_ret0 | apply i_ret2 | apply i_ret3 | apply i_ret); exact rfl; rfl)
end Go.Sp
/- The reader: numbers and texts. -/
namespace Go.Sp
open Go Go.Proofs
set_option linter.unusedSimpArgs false
set_option linter.unusedVariables false
set_option maxRecDepth 10000
theorem Rd.raw_len (R : Rd) (n : Int) : ((R.raw n).1.length : Int) ≤ max n 0 := by
  unfold Rd.raw
  split
  · split
    · simp; omega
    · split
      · simp; omega
      · simp only [List.length_take, List.length_drop]; omega
  · simp; omega
theorem be_take {t : List UInt8} {i : Nat} (h : i < t.length) : be (t.take (i + 1)) = be (t.take i) * 256 + bt t i := by
  rw [List.take_succ_eq_append_getElem h, be_snoc]
  simp [bt, h]
theorem num_bits {t : List UInt8} {i : Nat} (h : i < t.length) (h6 : t.length ≤ 6) : bits .or .i64 (IntKind.wrap .i64 ((be (t.take i) : Int) * 2 ^ min 8 64)) (bt t i : Int) = (be (t.take (i + 1)) : Int) := by
  have h1 := be_lt (t.take i)
  have h2 : 256 ^ (t.take i).length ≤ 256 ^ 5 := Nat.pow_le_pow_right (by decide) (by simp; omega)
  have h3 : (256 : Nat) ^ 5 = 1099511627776 := by decide
  have h4 := bt_lt t i
  rw [show (2 : Int) ^ min 8 64 = 256 from rfl, w64 (by omega) (by omega), or_b (by omega) (by omega) (by omega) (by omega), be_take h]
  omega
theorem f75 (R : Rd) (w : Int) (h1 : 1 ≤ w) (h6 : w ≤ 6) (hl : R.s.length ≤ 4611686018427387904) (ha : R.a ≤ R.s.length) : Fq eI Tryz.prog 85 #[.pointer (some ⟨R.b, 0, none⟩), .int .i64 w] (rdl R) (rdl (R.raw w).2) (be (R.raw w).1 : Int) := fun L => by
  have hlen := R.raw_len w
  refine c85_fn rfl rfl ?_
  repeat' ((fail_if_success with_reducible refine nph ?_); first | (with_reducible first | (refine d_seq ?_; intro K hK) | (refine hK _ _ ?_; clear hK K) | (refine SG.p ?_; try intro b)) | ((with_reducible refine SC.p ?_); refine And.intro ?_ ?_) <;> intro hc <;> try simp only [push_cast, Int.reduceEq, Int.reduceLT, Int.reduceLE, Int.reduceNe] at hc | with_reducible refine r_rq (by first | decide | omega) ?_ | ((with_reducible refine SL.p ?_); first | refine ⟨_, rfl, ?_⟩ | refine ⟨_, _, _, rfl, ?_⟩ | (refine ⟨?_, rfl, ?_⟩; focus (simp; done))) | ((with_reducible first | apply i_ldn | apply i_ldnq); exact rfl; exact rfl; exact rfl) | ((try with_reducible refine d_reg ?_); simp only [go_sem, Nat.reduceAdd, Nat.reduceEqDiff, Int.reduceToNat, Nat.reduceMul, Nat.reduceSub]) | clear hK K)
  refine i_clp (f88 R) ?_
  repeat' ((fail_if_success with_reducible refine nph ?_); first | (with_reducible first | (refine d_seq ?_; intro K hK) | (refine hK _ _ ?_; clear hK K) | (refine SG.p ?_; try intro b)) | ((with_reducible refine SC.p ?_); refine And.intro ?_ ?_) <;> intro hc <;> try simp only [push_cast, Int.reduceEq, Int.reduceLT, Int.reduceLE, Int.reduceNe] at hc | with_reducible refine r_rq (by first | decide | omega) ?_ | ((with_reducible refine SL.p ?_); first | refine ⟨_, rfl, ?_⟩ | refine ⟨_, _, _, rfl, ?_⟩ | (refine ⟨?_, rfl, ?_⟩; focus (simp; done))) | ((with_reducible first | apply i_ldn | apply i_ldnq); exact rfl; exact rfl; exact rfl) | ((try with_reducible refine d_reg ?_); simp only [go_sem, Nat.reduceAdd, Nat.reduceEqDiff, Int.reduceToNat, Nat.reduceMul, Nat.reduceSub]) | clear hK K)
  all_goals try (first | contradiction | (exfalso; omega))
  all_goals
    refine i_clq (f90 R w hl ha) ?_
    generalize R.raw w = T at *
    obtain ⟨t, R'⟩ := T
    dsimp only at hlen ⊢
    refine r_cvs (by kernel_rfl) fun tb tc => ?_
    repeat' ((fail_if_success with_reducible refine nph ?_); first | (with_reducible first | (refine d_seq ?_; intro K hK) | (refine hK _ _ ?_; clear hK K) | (refine SG.p ?_; try intro b)) | ((with_reducible refine SC.p ?_); refine And.intro ?_ ?_) <;> intro hc <;> try simp only [push_cast, Int.reduceEq, Int.reduceLT, Int.reduceLE, Int.reduceNe] at hc | with_reducible refine r_rq (by first | decide | omega) ?_ | ((with_reducible refine SL.p ?_); first | refine ⟨_, rfl, ?_⟩ | refine ⟨_, _, _, rfl, ?_⟩ | (refine ⟨?_, rfl, ?_⟩; focus (simp; done))) | ((with_reducible first | apply i_ldn | apply i_ldnq); exact rfl; exact rfl; exact rfl) | ((try with_reducible refine d_reg ?_); simp only [go_sem, Nat.reduceAdd, Nat.reduceEqDiff, Int.reduceToNat, Nat.reduceMul, Nat.reduceSub]) | clear hK K)
    refine d_lp [5, 24, 25, 26] (fun i : Nat => [(5, .int .i64 (be (t.take i) : Int)), (24, .slice (some ⟨tb, 0, none⟩) t.length tc), (25, .int .i64 (t.length : Int)), (26, .int .i64 (i : Int))])
      (fun _ => sb tb t :: (rdl R' ++ L)) (fun i => i ≤ t.length) (fun i => t.length - i) 0 rfl SX.p (by omega) ?_
    intro i hi
    repeat' ((fail_if_success with_reducible refine nph ?_); first | (with_reducible first | (refine d_seq ?_; intro K hK) | (refine hK _ _ ?_; clear hK K) | (refine SG.p ?_; try intro b)) | ((with_reducible refine SC.p ?_); refine And.intro ?_ ?_) <;> intro hc <;> try simp only [push_cast, Int.reduceEq, Int.reduceLT, Int.reduceLE, Int.reduceNe] at hc | with_reducible refine r_rq (by first | decide | omega) ?_ | ((with_reducible refine SL.p ?_); first | refine ⟨_, rfl, ?_⟩ | refine ⟨_, _, _, rfl, ?_⟩ | (refine ⟨?_, rfl, ?_⟩; focus (simp; done))) | ((with_reducible first | apply i_ldn | apply i_ldnq); exact rfl; exact rfl; exact rfl) | ((try with_reducible refine d_reg ?_); simp only [go_sem, Nat.reduceAdd, Nat.reduceEqDiff, Int.reduceToNat, Nat.reduceMul, Nat.reduceSub]) | clear hK K)
    · refine i_sb (by omega) ?_
      repeat' ((fail_if_success with_reducible refine nph ?_); first | (with_reducible first | (refine d_seq ?_; intro K hK) | (refine hK _ _ ?_; clear hK K) | (refine SG.p ?_; try intro b)) | ((with_reducible refine SC.p ?_); refine And.intro ?_ ?_) <;> intro hc <;> try simp only [push_cast, Int.reduceEq, Int.reduceLT, Int.reduceLE, Int.reduceNe] at hc | with_reducible refine r_rq (by first | decide | omega) ?_ | ((with_reducible refine SL.p ?_); first | refine ⟨_, rfl, ?_⟩ | refine ⟨_, _, _, rfl, ?_⟩ | (refine ⟨?_, rfl, ?_⟩; focus (simp; done))) | ((with_reducible first | apply i_ldn | apply i_ldnq); exact rfl; exact rfl; exact rfl) | ((try with_reducible refine d_reg ?_); simp only [go_sem, Nat.reduceAdd, Nat.reduceEqDiff, Int.reduceToNat, Nat.reduceMul, Nat.reduceSub]) | clear hK K)
      rw [num_bits (by omega) (by omega), w64 (n := (i : Int) + 1) (by omega) (by omega)]
      exact i_bk (i + 1) rfl (by omega) (by omega)
    · obtain rfl : i = t.length := by omega
      rw [List.take_length]
      (with_reducible first | apply i_ret0 | apply i_ret2 | apply i_ret3 | apply i_ret); exact rfl
      rfl
/-- A text of at most so many bytes: how long it is, in two bytes, and it. -/
def Rd.text (R : Rd) (most : Int) : List UInt8 × Rd :=
  (if (R.raw 2).2.e = 0 ∧ most < (be (R.raw 2).1 : Int) then (R.raw 2).2.fail 3 else (R.raw 2).2).raw (be (R.raw 2).1 : Int)
theorem Rd.raw_a {R : Rd} (n : Int) (h : R.a ≤ R.s.length) : (R.raw n).2.a ≤ (R.raw n).2.s.length ∧ (R.raw n).2.s = R.s ∧ (R.raw n).2.b = R.b := by
  unfold Rd.raw
  split
  · split
    · exact ⟨h, rfl, rfl⟩
    · split
      · exact ⟨h, rfl, rfl⟩
      · simp only [and_true]; omega
  · exact ⟨h, rfl, rfl⟩
theorem f73 (R : Rd) (most : Int) (hl : R.s.length ≤ 4611686018427387904) (ha : R.a ≤ R.s.length) : Fq eS Tryz.prog 133 #[.pointer (some ⟨R.b, 0, none⟩), .int .i64 most] (rdl R) (rdl (R.text most).2) (R.text most).1 := by
  have h0 := f75 R 2 (by omega) (by omega) hl ha
  have h1 := Rd.raw_a 2 ha
  unfold Rd.text
  generalize R.raw 2 = T at *
  obtain ⟨t, R1⟩ := T
  dsimp only at h0 h1 ⊢
  obtain ⟨h1, h2, h3⟩ := h1
  by_cases he : R1.e = 0
  · by_cases hm : most < (be t : Int)
    · simp only [he, hm, and_self, if_true]
      intro L
      refine c133_fn rfl rfl ?_
      repeat' ((fail_if_success with_reducible refine nph ?_); first | (with_reducible first | (refine d_seq ?_; intro K hK) | (refine hK _ _ ?_; clear hK K) | (refine SG.p ?_; try intro b)) | ((with_reducible refine SC.p ?_); refine And.intro ?_ ?_) <;> intro hc <;> try simp only [push_cast, Int.reduceEq, Int.reduceLT, Int.reduceLE, Int.reduceNe] at hc | with_reducible refine r_rq (by first | decide | omega) ?_ | ((with_reducible refine SL.p ?_); first | refine ⟨_, rfl, ?_⟩ | refine ⟨_, _, _, rfl, ?_⟩ | (refine ⟨?_, rfl, ?_⟩; focus (simp; done))) | ((with_reducible first | apply i_ldn | apply i_ldnq); exact rfl; exact rfl; exact rfl) | ((try with_reducible refine d_reg ?_); simp only [go_sem, Nat.reduceAdd, Nat.reduceEqDiff, Int.reduceToNat, Nat.reduceMul, Nat.reduceSub]) | clear hK K)
      refine i_clq h0 ?_
      repeat' ((fail_if_success with_reducible refine nph ?_); first | (with_reducible first | (refine d_seq ?_; intro K hK) | (refine hK _ _ ?_; clear hK K) | (refine SG.p ?_; try intro b)) | ((with_reducible refine SC.p ?_); refine And.intro ?_ ?_) <;> intro hc <;> try simp only [push_cast, Int.reduceEq, Int.reduceLT, Int.reduceLE, Int.reduceNe] at hc | with_reducible refine r_rq (by first | decide | omega) ?_ | ((with_reducible refine SL.p ?_); first | refine ⟨_, rfl, ?_⟩ | refine ⟨_, _, _, rfl, ?_⟩ | (refine ⟨?_, rfl, ?_⟩; focus (simp; done))) | ((with_reducible first | apply i_ldn | apply i_ldnq); exact rfl; exact rfl; exact rfl) | ((try with_reducible refine d_reg ?_); simp only [go_sem, Nat.reduceAdd, Nat.reduceEqDiff, Int.reduceToNat, Nat.reduceMul, Nat.reduceSub]) | clear hK K)
      rw [← h3]
      refine i_clp (f88 R1) ?_
      repeat' ((fail_if_success with_reducible refine nph ?_); first | (with_reducible first | (refine d_seq ?_; intro K hK) | (refine hK _ _ ?_; clear hK K) | (refine SG.p ?_; try intro b)) | ((with_reducible refine SC.p ?_); refine And.intro ?_ ?_) <;> intro hc <;> try simp only [push_cast, Int.reduceEq, Int.reduceLT, Int.reduceLE, Int.reduceNe] at hc | with_reducible refine r_rq (by first | decide | omega) ?_ | ((with_reducible refine SL.p ?_); first | refine ⟨_, rfl, ?_⟩ | refine ⟨_, _, _, rfl, ?_⟩ | (refine ⟨?_, rfl, ?_⟩; focus (simp; done))) | ((with_reducible first | apply i_ldn | apply i_ldnq); exact rfl; exact rfl; exact rfl) | ((try with_reducible refine d_reg ?_); simp only [go_sem, Nat.reduceAdd, Nat.reduceEqDiff, Int.reduceToNat, Nat.reduceMul, Nat.reduceSub]) | clear hK K)
      all_goals try (first | contradiction | (exfalso; omega))
      refine i_clq (f89 R1 3) ?_
      repeat' ((fail_if_success with_reducible refine nph ?_); first | (with_reducible first | (refine d_seq ?_; intro K hK) | (refine hK _ _ ?_; clear hK K) | (refine SG.p ?_; try intro b)) | ((with_reducible refine SC.p ?_); refine And.intro ?_ ?_) <;> intro hc <;> try simp only [push_cast, Int.reduceEq, Int.reduceLT, Int.reduceLE, Int.reduceNe] at hc | with_reducible refine r_rq (by first | decide | omega) ?_ | ((with_reducible refine SL.p ?_); first | refine ⟨_, rfl, ?_⟩ | refine ⟨_, _, _, rfl, ?_⟩ | (refine ⟨?_, rfl, ?_⟩; focus (simp; done))) | ((with_reducible first | apply i_ldn | apply i_ldnq); exact rfl; exact rfl; exact rfl) | ((try with_reducible refine d_reg ?_); simp only [go_sem, Nat.reduceAdd, Nat.reduceEqDiff, Int.reduceToNat, Nat.reduceMul, Nat.reduceSub]) | clear hK K)
      have hb : (R1.fail 3).b = R1.b ∧ (R1.fail 3).s = R1.s ∧ (R1.fail 3).a = R1.a := by unfold Rd.fail; split <;> exact ⟨rfl, rfl, rfl⟩
      rw [← hb.1]
      refine i_clq (f90 (R1.fail 3) _ (by rw [hb.2.1, h2]; exact hl) (by rw [hb.2.1, hb.2.2]; exact h1)) ?_
      repeat' ((fail_if_success with_reducible refine nph ?_); first | (with_reducible first | (refine d_seq ?_; intro K hK) | (refine hK _ _ ?_; clear hK K) | (refine SG.p ?_; try intro b)) | ((with_reducible refine SC.p ?_); refine And.intro ?_ ?_) <;> intro hc <;> try simp only [push_cast, Int.reduceEq, Int.reduceLT, Int.reduceLE, Int.reduceNe] at hc | with_reducible refine r_rq (by first | decide | omega) ?_ | ((with_reducible refine SL.p ?_); first | refine ⟨_, rfl, ?_⟩ | refine ⟨_, _, _, rfl, ?_⟩ | (refine ⟨?_, rfl, ?_⟩; focus (simp; done))) | ((with_reducible first | apply i_ldn | apply i_ldnq); exact rfl; exact rfl; exact rfl) | ((try with_reducible refine d_reg ?_); simp only [go_sem, Nat.reduceAdd, Nat.reduceEqDiff, Int.reduceToNat, Nat.reduceMul, Nat.reduceSub]) | clear hK K)
      (with_reducible first | apply i_ret0 | apply i_ret2 | apply i_ret3 | apply i_ret); exact rfl
      rfl
    · simp only [he, hm, and_false, if_false]
      intro L
      refine c133_fn rfl rfl ?_
      repeat' ((fail_if_success with_reducible refine nph ?_); first | (with_reducible first | (refine d_seq ?_; intro K hK) | (refine hK _ _ ?_; clear hK K) | (refine SG.p ?_; try intro b)) | ((with_reducible refine SC.p ?_); refine And.intro ?_ ?_) <;> intro hc <;> try simp only [push_cast, Int.reduceEq, Int.reduceLT, Int.reduceLE, Int.reduceNe] at hc | with_reducible refine r_rq (by first | decide | omega) ?_ | ((with_reducible refine SL.p ?_); first | refine ⟨_, rfl, ?_⟩ | refine ⟨_, _, _, rfl, ?_⟩ | (refine ⟨?_, rfl, ?_⟩; focus (simp; done))) | ((with_reducible first | apply i_ldn | apply i_ldnq); exact rfl; exact rfl; exact rfl) | ((try with_reducible refine d_reg ?_); simp only [go_sem, Nat.reduceAdd, Nat.reduceEqDiff, Int.reduceToNat, Nat.reduceMul, Nat.reduceSub]) | clear hK K)
      refine i_clq h0 ?_
      repeat' ((fail_if_success with_reducible refine nph ?_); first | (with_reducible first | (refine d_seq ?_; intro K hK) | (refine hK _ _ ?_; clear hK K) | (refine SG.p ?_; try intro b)) | ((with_reducible refine SC.p ?_); refine And.intro ?_ ?_) <;> intro hc <;> try simp only [push_cast, Int.reduceEq, Int.reduceLT, Int.reduceLE, Int.reduceNe] at hc | with_reducible refine r_rq (by first | decide | omega) ?_ | ((with_reducible refine SL.p ?_); first | refine ⟨_, rfl, ?_⟩ | refine ⟨_, _, _, rfl, ?_⟩ | (refine ⟨?_, rfl, ?_⟩; focus (simp; done))) | ((with_reducible first | apply i_ldn | apply i_ldnq); exact rfl; exact rfl; exact rfl) | ((try with_reducible refine d_reg ?_); simp only [go_sem, Nat.reduceAdd, Nat.reduceEqDiff, Int.reduceToNat, Nat.reduceMul, Nat.reduceSub]) | clear hK K)
      rw [← h3]
      refine i_clp (f88 R1) ?_
      repeat' ((fail_if_success with_reducible refine nph ?_); first | (with_reducible first | (refine d_seq ?_; intro K hK) | (refine hK _ _ ?_; clear hK K) | (refine SG.p ?_; try intro b)) | ((with_reducible refine SC.p ?_); refine And.intro ?_ ?_) <;> intro hc <;> try simp only [push_cast, Int.reduceEq, Int.reduceLT, Int.reduceLE, Int.reduceNe] at hc | with_reducible refine r_rq (by first | decide | omega) ?_ | ((with_reducible refine SL.p ?_); first | refine ⟨_, rfl, ?_⟩ | refine ⟨_, _, _, rfl, ?_⟩ | (refine ⟨?_, rfl, ?_⟩; focus (simp; done))) | ((with_reducible first | apply i_ldn | apply i_ldnq); exact rfl; exact rfl; exact rfl) | ((try with_reducible refine d_reg ?_); simp only [go_sem, Nat.reduceAdd, Nat.reduceEqDiff, Int.reduceToNat, Nat.reduceMul, Nat.reduceSub]) | clear hK K)
      all_goals try (first | contradiction | (exfalso; omega))
      refine i_clq (f90 R1 _ (by rw [h2]; exact hl) h1) ?_
      repeat' ((fail_if_success with_reducible refine nph ?_); first | (with_reducible first | (refine d_seq ?_; intro K hK) | (refine hK _ _ ?_; clear hK K) | (refine SG.p ?_; try intro b)) | ((with_reducible refine SC.p ?_); refine And.intro ?_ ?_) <;> intro hc <;> try simp only [push_cast, Int.reduceEq, Int.reduceLT, Int.reduceLE, Int.reduceNe] at hc | with_reducible refine r_rq (by first | decide | omega) ?_ | ((with_reducible refine SL.p ?_); first | refine ⟨_, rfl, ?_⟩ | refine ⟨_, _, _, rfl, ?_⟩ | (refine ⟨?_, rfl, ?_⟩; focus (simp; done))) | ((with_reducible first | apply i_ldn | apply i_ldnq); exact rfl; exact rfl; exact rfl) | ((try with_reducible refine d_reg ?_); simp only [go_sem, Nat.reduceAdd, Nat.reduceEqDiff, Int.reduceToNat, Nat.reduceMul, Nat.reduceSub]) | clear hK K)
      (with_reducible first | apply i_ret0 | apply i_ret2 | apply i_ret3 | apply i_ret); exact rfl
      rfl
  · simp only [he, false_and, if_false]
    intro L
    refine c133_fn rfl rfl ?_
    repeat' ((fail_if_success with_reducible refine nph ?_); first | (with_reducible first | (refine d_seq ?_; intro K hK) | (refine hK _ _ ?_; clear hK K) | (refine SG.p ?_; try intro b)) | ((with_reducible refine SC.p ?_); refine And.intro ?_ ?_) <;> intro hc <;> try simp only [push_cast, Int.reduceEq, Int.reduceLT, Int.reduceLE, Int.reduceNe] at hc | with_reducible refine r_rq (by first | decide | omega) ?_ | ((with_reducible refine SL.p ?_); first | refine ⟨_, rfl, ?_⟩ | refine ⟨_, _, _, rfl, ?_⟩ | (refine ⟨?_, rfl, ?_⟩; focus (simp; done))) | ((with_reducible first | apply i_ldn | apply i_ldnq); exact rfl; exact rfl; exact rfl) | ((try with_reducible refine d_reg ?_); simp only [go_sem, Nat.reduceAdd, Nat.reduceEqDiff, Int.reduceToNat, Nat.reduceMul, Nat.reduceSub]) | clear hK K)
    refine i_clq h0 ?_
    repeat' ((fail_if_success with_reducible refine nph ?_); first | (with_reducible first | (refine d_seq ?_; intro K hK) | (refine hK _ _ ?_; clear hK K) | (refine SG.p ?_; try intro b)) | ((with_reducible refine SC.p ?_); refine And.intro ?_ ?_) <;> intro hc <;> try simp only [push_cast, Int.reduceEq, Int.reduceLT, Int.reduceLE, Int.reduceNe] at hc | with_reducible refine r_rq (by first | decide | omega) ?_ | ((with_reducible refine SL.p ?_); first | refine ⟨_, rfl, ?_⟩ | refine ⟨_, _, _, rfl, ?_⟩ | (refine ⟨?_, rfl, ?_⟩; focus (simp; done))) | ((with_reducible first | apply i_ldn | apply i_ldnq); exact rfl; exact rfl; exact rfl) | ((try with_reducible refine d_reg ?_); simp only [go_sem, Nat.reduceAdd, Nat.reduceEqDiff, Int.reduceToNat, Nat.reduceMul, Nat.reduceSub]) | clear hK K)
    rw [← h3]
    refine i_clp (f88 R1) ?_
    repeat' ((fail_if_success with_reducible refine nph ?_); first | (with_reducible first | (refine d_seq ?_; intro K hK) | (refine hK _ _ ?_; clear hK K) | (refine SG.p ?_; try intro b)) | ((with_reducible refine SC.p ?_); refine And.intro ?_ ?_) <;> intro hc <;> try simp only [push_cast, Int.reduceEq, Int.reduceLT, Int.reduceLE, Int.reduceNe] at hc | with_reducible refine r_rq (by first | decide | omega) ?_ | ((with_reducible refine SL.p ?_); first | refine ⟨_, rfl, ?_⟩ | refine ⟨_, _, _, rfl, ?_⟩ | (refine ⟨?_, rfl, ?_⟩; focus (simp; done))) | ((with_reducible first | apply i_ldn | apply i_ldnq); exact rfl; exact rfl; exact rfl) | ((try with_reducible refine d_reg ?_); simp only [go_sem, Nat.reduceAdd, Nat.reduceEqDiff, Int.reduceToNat, Nat.reduceMul, Nat.reduceSub]) | clear hK K)
    all_goals try (first | contradiction | (exfalso; omega))
    refine i_clq (f90 R1 _ (by rw [h2]; exact hl) h1) ?_
    repeat' ((fail_if_success with_reducible refine nph ?_); first | (with_reducible first | (refine d_seq ?_; intro K hK) | (refine hK _ _ ?_; clear hK K) | (refine SG.p ?_; try intro b)) | ((with_reducible refine SC.p ?_); refine And.intro ?_ ?_) <;> intro hc <;> try simp only [push_cast, Int.reduceEq, Int.reduceLT, Int.reduceLE, Int.reduceNe] at hc | with_reducible refine r_rq (by first | decide | omega) ?_ | ((with_reducible refine SL.p ?_); first | refine ⟨_, rfl, ?_⟩ | refine ⟨_, _, _, rfl, ?_⟩ | (refine ⟨?_, rfl, ?_⟩; focus (simp; done))) | ((with_reducible first | apply i_ldn | apply i_ldnq); exact rfl; exact rfl; exact rfl) | ((try with_reducible refine d_reg ?_); simp only [go_sem, Nat.reduceAdd, Nat.reduceEqDiff, Int.reduceToNat, Nat.reduceMul, Nat.reduceSub]) | clear hK K)
    (with_reducible first | apply i_ret0 | apply i_ret2 | apply i_ret3 | apply i_ret); exact rfl
    rfl
end Go.Sp
/- The reader, where it goes well; a sign ahead. -/
namespace Go.Sp
open Go Go.Proofs
set_option linter.unusedSimpArgs false
set_option linter.unusedVariables false
set_option maxRecDepth 10000
theorem raw_go (b : Nat) (s : List UInt8) (a w : Nat) (h : a + w ≤ s.length) : (⟨b, s, a, 0⟩ : Rd).raw (w : Int) = ((s.drop a).take w, ⟨b, s, a + w, 0⟩) := by
  unfold Rd.raw
  simp only [if_true]
  rw [if_neg (by omega), if_neg (by omega)]
  simp
theorem num_go (b : Nat) (s : List UInt8) (a w : Nat) (h : a + w ≤ s.length) (h1 : 1 ≤ w) (h6 : w ≤ 6) (hl : s.length ≤ 4611686018427387904) :
    Fq eI Tryz.prog 85 #[.pointer (some ⟨b, 0, none⟩), .int .i64 (w : Int)] (rdl ⟨b, s, a, 0⟩) (rdl ⟨b, s, a + w, 0⟩) (be ((s.drop a).take w) : Int) := by
  have := f75 ⟨b, s, a, 0⟩ (w : Int) (by omega) (by omega) hl (by simp only; omega)
  rw [raw_go b s a w h] at this
  exact this
end Go.Sp
/- What each region of the Go functions does. Written by my own generator. -/
namespace Go.Sp
open Go
set_option maxRecDepth 100000
set_option linter.unusedVariables false
open Go.Proofs
/-! gharry.pack.Put -/
noncomputable def c73 : Cfg := { P := Tryz.prog, n := 49, T := TT, body := (Tryz.f73.body).getD .skip, res := Tryz.f73.results.toList, li := lk [] [(0, [0, 1, 2]), (1, [0, 1, 2]), (2, []), (3, [0, 1, 2]), (4, []), (5, [0, 1, 2]), (6, [0, 1, 2, 8]), (7, [0, 1, 2, 8, 29, 30]), (8, [0, 1, 2, 8, 29, 30]), (9, [0, 1, 2, 8, 9, 29, 30]), (10, [0, 1, 2, 8, 29, 30]), (11, [0, 8])], lo := lk [] [(0, [0, 1, 2]), (1, [0, 1, 2, 10]), (2, [6, 7]), (3, [0, 1, 2, 17]), (4, [6, 7]), (5, [0, 1, 2, 8]), (6, [0, 1, 2, 8, 29, 30]), (7, [0, 1, 2, 8, 29, 30, 31]), (8, [0, 1, 2, 8, 9, 29, 30]), (9, [0, 1, 2, 8, 29, 30]), (10, [0, 1, 2, 8, 29, 30]), (11, [6, 7]), (1000000, [6, 7])], ord := lk (false, []) [] }
@[go_sem] theorem c73_i0 : c73.li 0 = [0, 1, 2] := rfl
@[go_sem] theorem c73_i1 : c73.li 1 = [0, 1, 2] := rfl
@[go_sem] theorem c73_i2 : c73.li 2 = [] := rfl
@[go_sem] theorem c73_i3 : c73.li 3 = [0, 1, 2] := rfl
@[go_sem] theorem c73_i4 : c73.li 4 = [] := rfl
@[go_sem] theorem c73_i5 : c73.li 5 = [0, 1, 2] := rfl
@[go_sem] theorem c73_i6 : c73.li 6 = [0, 1, 2, 8] := rfl
@[go_sem] theorem c73_i7 : c73.li 7 = [0, 1, 2, 8, 29, 30] := rfl
@[go_sem] theorem c73_i8 : c73.li 8 = [0, 1, 2, 8, 29, 30] := rfl
@[go_sem] theorem c73_i9 : c73.li 9 = [0, 1, 2, 8, 9, 29, 30] := rfl
@[go_sem] theorem c73_i10 : c73.li 10 = [0, 1, 2, 8, 29, 30] := rfl
@[go_sem] theorem c73_i11 : c73.li 11 = [0, 8] := rfl
@[go_sem] theorem c73_r0 (s0 : List UInt8) (n1 : Int) (width2 : Int) (K : Env → W) : RP c73 0 [(0, str s0), (1, .int .i64 n1), (2, .int .i64 width2)] K =
    (K [(0, str s0), (1, .int .i64 n1), (2, .int .i64 width2)]) := by kernel_rfl
@[go_sem] theorem c73_r1 (s0 : List UInt8) (n1 : Int) (width2 : Int) (K : Env → W) : RP c73 1 [(0, str s0), (1, .int .i64 n1), (2, .int .i64 width2)] K =
    (cnd ((decide (width2 < (1 : Int)))) (K [(0, str s0), (1, .int .i64 n1), (2, .int .i64 width2), (10, .bool true)]) (K [(0, str s0), (1, .int .i64 n1), (2, .int .i64 width2), (10, .bool ((decide ((6 : Int) < width2))))])) := by kernel_rfl
@[go_sem] theorem c73_r2 (K : Env → W) : RP c73 2 [] K =
    (K [(6, str (([] : List UInt8))), (7, .int .i64 (1 : Int))]) := by kernel_rfl
@[go_sem] theorem c73_r3 (s0 : List UInt8) (n1 : Int) (width2 : Int) (K : Env → W) : RP c73 3 [(0, str s0), (1, .int .i64 n1), (2, .int .i64 width2)] K =
    (cnd ((decide (n1 < (0 : Int)))) (K [(0, str s0), (1, .int .i64 n1), (2, .int .i64 width2), (17, .bool true)]) (cal eI Tryz.prog 110 #[.int .i64 width2] fun (y1_ : Int) => (K [(0, str s0), (1, .int .i64 n1), (2, .int .i64 width2), (17, .bool ((decide (y1_ ≤ n1))))]))) := by kernel_rfl
@[go_sem] theorem c73_r4 (K : Env → W) : RP c73 4 [] K =
    (K [(6, str (([] : List UInt8))), (7, .int .i64 (6 : Int))]) := by kernel_rfl
@[go_sem] theorem c73_r5 (s0 : List UInt8) (n1 : Int) (width2 : Int) (K : Env → W) : RP c73 5 [(0, str s0), (1, .int .i64 n1), (2, .int .i64 width2)] K =
    (val eSl Tryz.prog (oMake 116 (.int .i64 width2) (.int .i64 width2)) fun (y1_ : (Option Addr × Nat × Nat)) => (K [(0, str s0), (1, .int .i64 n1), (2, .int .i64 width2), (8, .slice y1_.1 y1_.2.1 y1_.2.2)])) := by kernel_rfl
@[go_sem] theorem c73_r6 (s0 : List UInt8) (n1 : Int) (width2 : Int) (b8p : Option Addr) (b8n b8c : Nat) (K : Env → W) : RP c73 6 [(0, str s0), (1, .int .i64 n1), (2, .int .i64 width2), (8, .slice b8p b8n b8c)] K =
    (K [(0, str s0), (1, .int .i64 n1), (2, .int .i64 width2), (8, .slice b8p b8n b8c), (29, .int .i64 ((b8n : Int))), (30, .int .i64 (0 : Int))]) := by kernel_rfl
@[go_sem] theorem c73_r7 (s0 : List UInt8) (n1 : Int) (width2 : Int) (b8p : Option Addr) (b8n b8c : Nat) (t29 : Int) (t30 : Int) (K : Env → W) : RP c73 7 [(0, str s0), (1, .int .i64 n1), (2, .int .i64 width2), (8, .slice b8p b8n b8c), (29, .int .i64 t29), (30, .int .i64 t30)] K =
    (K [(0, str s0), (1, .int .i64 n1), (2, .int .i64 width2), (8, .slice b8p b8n b8c), (29, .int .i64 t29), (30, .int .i64 t30), (31, .bool ((decide (t30 < t29))))]) := by kernel_rfl
@[go_sem] theorem c73_r8 (s0 : List UInt8) (n1 : Int) (width2 : Int) (b8p : Option Addr) (b8n b8c : Nat) (t29 : Int) (t30 : Int) (K : Env → W) : RP c73 8 [(0, str s0), (1, .int .i64 n1), (2, .int .i64 width2), (8, .slice b8p b8n b8c), (29, .int .i64 t29), (30, .int .i64 t30)] K =
    (K [(0, str s0), (1, .int .i64 n1), (2, .int .i64 width2), (8, .slice b8p b8n b8c), (9, .int .i64 t30), (29, .int .i64 t29), (30, .int .i64 t30)]) := by kernel_rfl
@[go_sem] theorem c73_r9 (s0 : List UInt8) (n1 : Int) (width2 : Int) (b8p : Option Addr) (b8n b8c : Nat) (i9 : Int) (t29 : Int) (t30 : Int) (K : Env → W) : RP c73 9 [(0, str s0), (1, .int .i64 n1), (2, .int .i64 width2), (8, .slice b8p b8n b8c), (9, .int .i64 i9), (29, .int .i64 t29), (30, .int .i64 t30)] K =
    (rq (0 ≤ (IntKind.wrap .i64 ((8 : Int) * (IntKind.wrap .i64 ((IntKind.wrap .i64 (width2 - (1 : Int))) - i9))))) (rq (0 ≤ i9 ∧ i9 < (b8n : Int)) (nn b8p fun y1_ => (st ((Addr.add y1_ ((i9).toNat * 1))) (.int .u8 ((IntKind.wrap .u8 (((n1).fdiv (2 ^ (min ((IntKind.wrap .i64 ((8 : Int) * (IntKind.wrap .i64 ((IntKind.wrap .i64 (width2 - (1 : Int))) - i9))))).toNat 64))))))) (K [(0, str s0), (1, .int .i64 n1), (2, .int .i64 width2), (8, .slice b8p b8n b8c), (29, .int .i64 t29), (30, .int .i64 t30)]))))) := by kernel_rfl
@[go_sem] theorem c73_r10 (s0 : List UInt8) (n1 : Int) (width2 : Int) (b8p : Option Addr) (b8n b8c : Nat) (t29 : Int) (t30 : Int) (K : Env → W) : RP c73 10 [(0, str s0), (1, .int .i64 n1), (2, .int .i64 width2), (8, .slice b8p b8n b8c), (29, .int .i64 t29), (30, .int .i64 t30)] K =
    (K [(0, str s0), (1, .int .i64 n1), (2, .int .i64 width2), (8, .slice b8p b8n b8c), (29, .int .i64 t29), (30, .int .i64 ((IntKind.wrap .i64 (t30 + (1 : Int)))))]) := by kernel_rfl
@[go_sem] theorem c73_r11 (s0 : List UInt8) (b8p : Option Addr) (b8n b8c : Nat) (K : Env → W) : RP c73 11 [(0, str s0), (8, .slice b8p b8n b8c)] K =
    (val eS Tryz.prog (oConv 116 9 (.slice b8p b8n b8c)) fun (y1_ : List UInt8) => (rq (((s0).length : Int) + ((y1_).length : Int) ≤ 9223372036854775807) (K [(6, str ((s0 ++ y1_))), (7, .int .i64 (0 : Int))]))) := by kernel_rfl
@[go_sem] theorem c73_o : c73.lo 1000000 = [6, 7] := rfl
@[go_sem] theorem c73_e (t6 : List UInt8) (t7 : Int) (k : Value → W) : RTp c73 [(6, str t6), (7, .int .i64 t7)] k = (k (.tuple #[str t6, .int .i64 t7])) := by kernel_rfl
theorem c73_ok : (c73.P.follows .mixedOrders && okc c73 c73.body) = true := by kernel_rfl
theorem c73_fn {e : Enc} {args : Array Value} {G : e.α → W} {L : List HP} {ρ : Env} (hρ : envA 0 args.toList = ρ) (hs : Nat.ble args.size 49 = true) (h : E L (D c73 (.seq (.reg 0) (.seq (.block 0 (.seq (.reg 1) (.cond (.tmp 10) (.seq (.reg 2) (.ret)) (.seq (.reg 3) (.cond (.tmp 17) (.seq (.reg 4) (.ret)) (.skip)))))) (.seq (.reg 5) (.seq (.seq (.reg 6) (.block 1 (.loop (.seq (.reg 7) (.seq (.cond (.tmp 31) (.skip) (.exit 1)) (.seq (.block 2 (.seq (.reg 8) (.reg 9))) (.reg 10))))))) (.seq (.reg 11) (.ret)))))) (fnQ c73 e G) ρ)) : E L (cal e Tryz.prog 73 args G) :=
  d_fn (c := c73) Tryz.func73 (by kernel_rfl) (by kernel_rfl) (by kernel_rfl) c73_ok (by kernel_rfl) (by kernel_rfl) hρ hs h
-- loop (first region 7): live slots 0:s0 1:n1 2:width2 8:b8 29:t29 30:t30, of which it writes [30]
/-! (*gharry.pack.Writer).Num -/
noncomputable def c103 : Cfg := { P := Tryz.prog, n := 9, T := TT, body := (Tryz.f103.body).getD .skip, res := Tryz.f103.results.toList, li := lk [] [(0, [0, 1, 2]), (1, [0, 4, 5])], lo := lk [] [(0, [0, 4, 5]), (1, []), (1000000, [])], ord := lk (false, []) [] }
@[go_sem] theorem c103_i0 : c103.li 0 = [0, 1, 2] := rfl
@[go_sem] theorem c103_i1 : c103.li 1 = [0, 4, 5] := rfl
@[go_sem] theorem c103_r0 (w0 : Option Addr) (n1 : Int) (width2 : Int) (K : Env → W) : RP c103 0 [(0, .pointer w0), (1, .int .i64 n1), (2, .int .i64 width2)] K =
    (nwc #[.int .i64 n1] 3 fun y1_ => (nwc #[.int .i64 width2] 3 fun y2_ => (K [(0, .pointer w0), (4, .pointer (some y1_)), (5, .pointer (some y2_))]))) := by kernel_rfl
@[go_sem] theorem c103_r1 (w0 : Option Addr) (n4 : Addr) (width5 : Addr) (K : Env → W) : RP c103 1 [(0, .pointer w0), (4, .pointer (some n4)), (5, .pointer (some width5))] K =
    (cal eN Tryz.prog 125 #[.pointer w0, .func (.func 126) #[] #[.pointer (some n4), .pointer (some width5)]] fun (y1_ : Unit) => (K [])) := by kernel_rfl
@[go_sem] theorem c103_o : c103.lo 1000000 = [] := rfl
@[go_sem] theorem c103_e (k : Value → W) : RTp c103 [] k = (k (.tuple #[])) := by kernel_rfl
theorem c103_ok : (c103.P.follows .mixedOrders && okc c103 c103.body) = true := by kernel_rfl
theorem c103_fn {e : Enc} {args : Array Value} {G : e.α → W} {L : List HP} {ρ : Env} (hρ : envA 0 args.toList = ρ) (hs : Nat.ble args.size 9 = true) (h : E L (D c103 (.seq (.reg 0) (.reg 1)) (fnQ c103 e G) ρ)) : E L (cal e Tryz.prog 103 args G) :=
  d_fn (c := c103) Tryz.func103 (by kernel_rfl) (by kernel_rfl) (by kernel_rfl) c103_ok (by kernel_rfl) (by kernel_rfl) hρ hs h
/-! (*gharry.pack.Writer).All -/
noncomputable def c108 : Cfg := { P := Tryz.prog, n := 14, T := TT, body := (Tryz.f108.body).getD .skip, res := Tryz.f108.results.toList, li := lk [] [(0, [0]), (1, [0]), (2, []), (3, [0])], lo := lk [] [(0, [0]), (1, [0, 5]), (2, [2, 3]), (3, [2, 3]), (1000000, [2, 3])], ord := lk (false, []) [(3, (true, [(0, 1), (1, 1), (2, 1), (3, 0), (4, 1), (5, 1), (6, 1), (7, 0), (8, 1), (9, 1)]))] }
@[go_sem] theorem c108_i0 : c108.li 0 = [0] := rfl
@[go_sem] theorem c108_i1 : c108.li 1 = [0] := rfl
@[go_sem] theorem c108_i2 : c108.li 2 = [] := rfl
@[go_sem] theorem c108_i3 : c108.li 3 = [0] := rfl
@[go_sem] theorem c108_r0 (w0 : Option Addr) (K : Env → W) : RP c108 0 [(0, .pointer w0)] K =
    (K [(0, .pointer w0)]) := by kernel_rfl
@[go_sem] theorem c108_r1 (w0 : Option Addr) (K : Env → W) : RP c108 1 [(0, .pointer w0)] K =
    (K [(0, .pointer w0), (5, .bool ((w0).isNone))]) := by kernel_rfl
@[go_sem] theorem c108_r2 (K : Env → W) : RP c108 2 [] K =
    (K [(2, str (([] : List UInt8))), (3, .int .i64 (11 : Int))]) := by kernel_rfl
@[go_sem] theorem c108_r3 (w0 : Option Addr) (K : Env → W) : RP c108 3 [(0, .pointer w0)] K =
    (ph fun S0 => (nn w0 fun y1_ => (ldq S0 eS y1_ fun (y2_ : List UInt8) => (nn w0 fun y3_ => (ldq S0 eI ((y3_.add 1)) fun (y4_ : Int) => (K [(2, str y2_), (3, .int .i64 y4_)])))))) := by kernel_rfl
@[go_sem] theorem c108_o : c108.lo 1000000 = [2, 3] := rfl
@[go_sem] theorem c108_e (t2 : List UInt8) (t3 : Int) (k : Value → W) : RTp c108 [(2, str t2), (3, .int .i64 t3)] k = (k (.tuple #[str t2, .int .i64 t3])) := by kernel_rfl
theorem c108_ok : (c108.P.follows .mixedOrders && okc c108 c108.body) = true := by kernel_rfl
theorem c108_fn {e : Enc} {args : Array Value} {G : e.α → W} {L : List HP} {ρ : Env} (hρ : envA 0 args.toList = ρ) (hs : Nat.ble args.size 14 = true) (h : E L (D c108 (.seq (.reg 0) (.seq (.seq (.reg 1) (.cond (.tmp 5) (.seq (.reg 2) (.ret)) (.skip))) (.seq (.reg 3) (.ret)))) (fnQ c108 e G) ρ)) : E L (cal e Tryz.prog 108 args G) :=
  d_fn (c := c108) Tryz.func108 (by kernel_rfl) (by kernel_rfl) (by kernel_rfl) c108_ok (by kernel_rfl) (by kernel_rfl) hρ hs h
/-! gharry.pack.limit -/
noncomputable def c110 : Cfg := { P := Tryz.prog, n := 6, T := TT, body := (Tryz.f110.body).getD .skip, res := Tryz.f110.results.toList, li := lk [] [(0, [0]), (1, [0])], lo := lk [] [(0, [0]), (1, [2]), (1000000, [2])], ord := lk (false, []) [] }
@[go_sem] theorem c110_i0 : c110.li 0 = [0] := rfl
@[go_sem] theorem c110_i1 : c110.li 1 = [0] := rfl
@[go_sem] theorem c110_r0 (width0 : Int) (K : Env → W) : RP c110 0 [(0, .int .i64 width0)] K =
    (K [(0, .int .i64 width0)]) := by kernel_rfl
@[go_sem] theorem c110_r1 (width0 : Int) (K : Env → W) : RP c110 1 [(0, .int .i64 width0)] K =
    (rq (0 ≤ (IntKind.wrap .i64 ((8 : Int) * width0))) (K [(2, .int .i64 ((IntKind.wrap .i64 ((1 : Int) * 2 ^ (min ((IntKind.wrap .i64 ((8 : Int) * width0))).toNat 64)))))])) := by kernel_rfl
@[go_sem] theorem c110_o : c110.lo 1000000 = [2] := rfl
@[go_sem] theorem c110_e (t2 : Int) (k : Value → W) : RTp c110 [(2, .int .i64 t2)] k = (k (.int .i64 t2)) := by kernel_rfl
theorem c110_ok : (c110.P.follows .mixedOrders && okc c110 c110.body) = true := by kernel_rfl
theorem c110_fn {e : Enc} {args : Array Value} {G : e.α → W} {L : List HP} {ρ : Env} (hρ : envA 0 args.toList = ρ) (hs : Nat.ble args.size 6 = true) (h : E L (D c110 (.seq (.reg 0) (.seq (.reg 1) (.ret))) (fnQ c110 e G) ρ)) : E L (cal e Tryz.prog 110 args G) :=
  d_fn (c := c110) Tryz.func110 (by kernel_rfl) (by kernel_rfl) (by kernel_rfl) c110_ok (by kernel_rfl) (by kernel_rfl) hρ hs h
/-! (*gharry.pack.Writer).lay -/
noncomputable def c125 : Cfg := { P := Tryz.prog, n := 37, T := TT, body := (Tryz.f125.body).getD .skip, res := Tryz.f125.results.toList, li := lk [] [(0, [0, 1]), (1, [0, 1]), (2, [0, 4, 5]), (3, [0, 5]), (4, [0, 4])], lo := lk [] [(0, [0, 1, 14]), (1, [0, 4, 5]), (2, [0, 4, 5, 25]), (3, []), (4, []), (1000000, [])], ord := lk (false, []) [] }
@[go_sem] theorem c125_i0 : c125.li 0 = [0, 1] := rfl
@[go_sem] theorem c125_i1 : c125.li 1 = [0, 1] := rfl
@[go_sem] theorem c125_i2 : c125.li 2 = [0, 4, 5] := rfl
@[go_sem] theorem c125_i3 : c125.li 3 = [0, 5] := rfl
@[go_sem] theorem c125_i4 : c125.li 4 = [0, 4] := rfl
@[go_sem] theorem c125_r0 (w0 : Option Addr) (how1f : Nat) (how1c : Array Value) (K : Env → W) : RP c125 0 [(0, .pointer w0), (1, .func (.func how1f) #[] how1c)] K =
    (cnd ((w0).isNone) (K [(0, .pointer w0), (1, .func (.func how1f) #[] how1c), (14, .bool true)]) (nn w0 fun y1_ => (ld eI ((y1_.add 1)) fun (y2_ : Int) => (K [(0, .pointer w0), (1, .func (.func how1f) #[] how1c), (14, .bool ((y2_ != (0 : Int))))])))) := by kernel_rfl
@[go_sem] theorem c125_r1 (w0 : Option Addr) (how1f : Nat) (how1c : Array Value) (K : Env → W) : RP c125 1 [(0, .pointer w0), (1, .func (.func how1f) #[] how1c)] K =
    (nn w0 fun y1_ => (ld eS y1_ fun (y2_ : List UInt8) => (ent Tryz.prog how1f (cal (eT2 eS eI) Tryz.prog how1f (#[str y2_] ++ how1c) fun (y3_ : ((List UInt8) × Int)) => (K [(0, .pointer w0), (4, str y3_.1), (5, .int .i64 y3_.2)]))))) := by kernel_rfl
@[go_sem] theorem c125_r2 (w0 : Option Addr) (s4 : List UInt8) (e5 : Int) (K : Env → W) : RP c125 2 [(0, .pointer w0), (4, str s4), (5, .int .i64 e5)] K =
    (K [(0, .pointer w0), (4, str s4), (5, .int .i64 e5), (25, .bool ((e5 != (0 : Int))))]) := by kernel_rfl
@[go_sem] theorem c125_r3 (w0 : Option Addr) (e5 : Int) (K : Env → W) : RP c125 3 [(0, .pointer w0), (5, .int .i64 e5)] K =
    (nn w0 fun y1_ => (st y1_ (str (([] : List UInt8))) (nn w0 fun y2_ => (st ((y2_.add 1)) (.int .i64 e5) (K []))))) := by kernel_rfl
@[go_sem] theorem c125_r4 (w0 : Option Addr) (s4 : List UInt8) (K : Env → W) : RP c125 4 [(0, .pointer w0), (4, str s4)] K =
    (nn w0 fun y1_ => (st y1_ (str s4) (K []))) := by kernel_rfl
@[go_sem] theorem c125_o : c125.lo 1000000 = [] := rfl
@[go_sem] theorem c125_e (k : Value → W) : RTp c125 [] k = (k (.tuple #[])) := by kernel_rfl
theorem c125_ok : (c125.P.follows .mixedOrders && okc c125 c125.body) = true := by kernel_rfl
theorem c125_fn {e : Enc} {args : Array Value} {G : e.α → W} {L : List HP} {ρ : Env} (hρ : envA 0 args.toList = ρ) (hs : Nat.ble args.size 37 = true) (h : E L (D c125 (.seq (.seq (.reg 0) (.cond (.tmp 14) (.ret) (.skip))) (.seq (.reg 1) (.seq (.seq (.reg 2) (.cond (.tmp 25) (.seq (.reg 3) (.ret)) (.skip))) (.reg 4)))) (fnQ c125 e G) ρ)) : E L (cal e Tryz.prog 125 args G) :=
  d_fn (c := c125) Tryz.func125 (by kernel_rfl) (by kernel_rfl) (by kernel_rfl) c125_ok (by kernel_rfl) (by kernel_rfl) hρ hs h
/-! (*gharry.pack.Writer).Num$1 -/
noncomputable def c126 : Cfg := { P := Tryz.prog, n := 12, T := TT, body := (Tryz.f126.body).getD .skip, res := Tryz.f126.results.toList, li := lk [] [(0, [0, 1, 2]), (1, [0, 1, 2])], lo := lk [] [(0, [0, 1, 2]), (1, [4, 5]), (1000000, [4, 5])], ord := lk (false, []) [] }
@[go_sem] theorem c126_i0 : c126.li 0 = [0, 1, 2] := rfl
@[go_sem] theorem c126_i1 : c126.li 1 = [0, 1, 2] := rfl
@[go_sem] theorem c126_r0 (s0 : List UInt8) (t1 : Addr) (t2 : Addr) (K : Env → W) : RP c126 0 [(0, str s0), (1, .pointer (some t1)), (2, .pointer (some t2))] K =
    (K [(0, str s0), (1, .pointer (some t1)), (2, .pointer (some t2))]) := by kernel_rfl
@[go_sem] theorem c126_r1 (s0 : List UInt8) (t1 : Addr) (t2 : Addr) (K : Env → W) : RP c126 1 [(0, str s0), (1, .pointer (some t1)), (2, .pointer (some t2))] K =
    (ld eI t1 fun (y1_ : Int) => (ld eI t2 fun (y2_ : Int) => (cal (eT2 eS eI) Tryz.prog 73 #[str s0, .int .i64 y1_, .int .i64 y2_] fun (y3_ : ((List UInt8) × Int)) => (K [(4, str y3_.1), (5, .int .i64 y3_.2)])))) := by kernel_rfl
@[go_sem] theorem c126_o : c126.lo 1000000 = [4, 5] := rfl
@[go_sem] theorem c126_e (t4 : List UInt8) (t5 : Int) (k : Value → W) : RTp c126 [(4, str t4), (5, .int .i64 t5)] k = (k (.tuple #[str t4, .int .i64 t5])) := by kernel_rfl
theorem c126_ok : (c126.P.follows .mixedOrders && okc c126 c126.body) = true := by kernel_rfl
theorem c126_fn {e : Enc} {args : Array Value} {G : e.α → W} {L : List HP} {ρ : Env} (hρ : envA 0 args.toList = ρ) (hs : Nat.ble args.size 12 = true) (h : E L (D c126 (.seq (.reg 0) (.seq (.reg 1) (.ret))) (fnQ c126 e G) ρ)) : E L (cal e Tryz.prog 126 args G) :=
  d_fn (c := c126) Tryz.func126 (by kernel_rfl) (by kernel_rfl) (by kernel_rfl) c126_ok (by kernel_rfl) (by kernel_rfl) hρ hs h
/-! (*gharry.pack.Writer).Text -/
noncomputable def c127 : Cfg := { P := Tryz.prog, n := 7, T := TT, body := (Tryz.f127.body).getD .skip, res := Tryz.f127.results.toList, li := lk [] [(0, [0, 1]), (1, [0, 3])], lo := lk [] [(0, [0, 3]), (1, []), (1000000, [])], ord := lk (false, []) [] }
@[go_sem] theorem c127_i0 : c127.li 0 = [0, 1] := rfl
@[go_sem] theorem c127_i1 : c127.li 1 = [0, 3] := rfl
@[go_sem] theorem c127_r0 (w0 : Option Addr) (t1 : List UInt8) (K : Env → W) : RP c127 0 [(0, .pointer w0), (1, str t1)] K =
    (nwc #[str t1] 9 fun y1_ => (K [(0, .pointer w0), (3, .pointer (some y1_))])) := by kernel_rfl
@[go_sem] theorem c127_r1 (w0 : Option Addr) (t3 : Addr) (K : Env → W) : RP c127 1 [(0, .pointer w0), (3, .pointer (some t3))] K =
    (cal eN Tryz.prog 125 #[.pointer w0, .func (.func 138) #[] #[.pointer (some t3)]] fun (y1_ : Unit) => (K [])) := by kernel_rfl
@[go_sem] theorem c127_o : c127.lo 1000000 = [] := rfl
@[go_sem] theorem c127_e (k : Value → W) : RTp c127 [] k = (k (.tuple #[])) := by kernel_rfl
theorem c127_ok : (c127.P.follows .mixedOrders && okc c127 c127.body) = true := by kernel_rfl
theorem c127_fn {e : Enc} {args : Array Value} {G : e.α → W} {L : List HP} {ρ : Env} (hρ : envA 0 args.toList = ρ) (hs : Nat.ble args.size 7 = true) (h : E L (D c127 (.seq (.reg 0) (.reg 1)) (fnQ c127 e G) ρ)) : E L (cal e Tryz.prog 127 args G) :=
  d_fn (c := c127) Tryz.func127 (by kernel_rfl) (by kernel_rfl) (by kernel_rfl) c127_ok (by kernel_rfl) (by kernel_rfl) hρ hs h
/-! (*gharry.pack.Writer).Text$1 -/
noncomputable def c138 : Cfg := { P := Tryz.prog, n := 10, T := TT, body := (Tryz.f138.body).getD .skip, res := Tryz.f138.results.toList, li := lk [] [(0, [0, 1]), (1, [0, 1])], lo := lk [] [(0, [0, 1]), (1, [3, 4]), (1000000, [3, 4])], ord := lk (false, []) [] }
@[go_sem] theorem c138_i0 : c138.li 0 = [0, 1] := rfl
@[go_sem] theorem c138_i1 : c138.li 1 = [0, 1] := rfl
@[go_sem] theorem c138_r0 (s0 : List UInt8) (t1 : Addr) (K : Env → W) : RP c138 0 [(0, str s0), (1, .pointer (some t1))] K =
    (K [(0, str s0), (1, .pointer (some t1))]) := by kernel_rfl
@[go_sem] theorem c138_r1 (s0 : List UInt8) (t1 : Addr) (K : Env → W) : RP c138 1 [(0, str s0), (1, .pointer (some t1))] K =
    (ld eS t1 fun (y1_ : List UInt8) => (cal (eT2 eS eI) Tryz.prog 139 #[str s0, str y1_] fun (y2_ : ((List UInt8) × Int)) => (K [(3, str y2_.1), (4, .int .i64 y2_.2)]))) := by kernel_rfl
@[go_sem] theorem c138_o : c138.lo 1000000 = [3, 4] := rfl
@[go_sem] theorem c138_e (t3 : List UInt8) (t4 : Int) (k : Value → W) : RTp c138 [(3, str t3), (4, .int .i64 t4)] k = (k (.tuple #[str t3, .int .i64 t4])) := by kernel_rfl
theorem c138_ok : (c138.P.follows .mixedOrders && okc c138 c138.body) = true := by kernel_rfl
theorem c138_fn {e : Enc} {args : Array Value} {G : e.α → W} {L : List HP} {ρ : Env} (hρ : envA 0 args.toList = ρ) (hs : Nat.ble args.size 10 = true) (h : E L (D c138 (.seq (.reg 0) (.seq (.reg 1) (.ret))) (fnQ c138 e G) ρ)) : E L (cal e Tryz.prog 138 args G) :=
  d_fn (c := c138) Tryz.func138 (by kernel_rfl) (by kernel_rfl) (by kernel_rfl) c138_ok (by kernel_rfl) (by kernel_rfl) hρ hs h
/-! gharry.pack.Text -/
noncomputable def c139 : Cfg := { P := Tryz.prog, n := 20, T := TT, body := (Tryz.f139.body).getD .skip, res := Tryz.f139.results.toList, li := lk [] [(0, [0, 1]), (1, [0, 1]), (2, []), (3, [0, 1]), (4, [0, 1])], lo := lk [] [(0, [0, 1]), (1, [0, 1, 9]), (2, [4, 5]), (3, [0, 1]), (4, [4, 5]), (1000000, [4, 5])], ord := lk (false, []) [] }
@[go_sem] theorem c139_i0 : c139.li 0 = [0, 1] := rfl
@[go_sem] theorem c139_i1 : c139.li 1 = [0, 1] := rfl
@[go_sem] theorem c139_i2 : c139.li 2 = [] := rfl
@[go_sem] theorem c139_i3 : c139.li 3 = [0, 1] := rfl
@[go_sem] theorem c139_i4 : c139.li 4 = [0, 1] := rfl
@[go_sem] theorem c139_r0 (s0 : List UInt8) (t1 : List UInt8) (K : Env → W) : RP c139 0 [(0, str s0), (1, str t1)] K =
    (K [(0, str s0), (1, str t1)]) := by kernel_rfl
@[go_sem] theorem c139_r1 (s0 : List UInt8) (t1 : List UInt8) (K : Env → W) : RP c139 1 [(0, str s0), (1, str t1)] K =
    (cal eI Tryz.prog 110 #[.int .i64 (2 : Int)] fun (y1_ : Int) => (K [(0, str s0), (1, str t1), (9, .bool ((decide (y1_ ≤ ((t1).length : Int)))))])) := by kernel_rfl
@[go_sem] theorem c139_r2 (K : Env → W) : RP c139 2 [] K =
    (K [(4, str (([] : List UInt8))), (5, .int .i64 (3 : Int))]) := by kernel_rfl
@[go_sem] theorem c139_r3 (s0 : List UInt8) (t1 : List UInt8) (K : Env → W) : RP c139 3 [(0, str s0), (1, str t1)] K =
    (cal (eT2 eS eI) Tryz.prog 73 #[str s0, .int .i64 (((t1).length : Int)), .int .i64 (2 : Int)] fun (y1_ : ((List UInt8) × Int)) => (K [(0, str y1_.1), (1, str t1)])) := by kernel_rfl
@[go_sem] theorem c139_r4 (s0 : List UInt8) (t1 : List UInt8) (K : Env → W) : RP c139 4 [(0, str s0), (1, str t1)] K =
    (rq (((s0).length : Int) + ((t1).length : Int) ≤ 9223372036854775807) (K [(4, str ((s0 ++ t1))), (5, .int .i64 (0 : Int))])) := by kernel_rfl
@[go_sem] theorem c139_o : c139.lo 1000000 = [4, 5] := rfl
@[go_sem] theorem c139_e (t4 : List UInt8) (t5 : Int) (k : Value → W) : RTp c139 [(4, str t4), (5, .int .i64 t5)] k = (k (.tuple #[str t4, .int .i64 t5])) := by kernel_rfl
theorem c139_ok : (c139.P.follows .mixedOrders && okc c139 c139.body) = true := by kernel_rfl
theorem c139_fn {e : Enc} {args : Array Value} {G : e.α → W} {L : List HP} {ρ : Env} (hρ : envA 0 args.toList = ρ) (hs : Nat.ble args.size 20 = true) (h : E L (D c139 (.seq (.reg 0) (.seq (.seq (.reg 1) (.cond (.tmp 9) (.seq (.reg 2) (.ret)) (.skip))) (.seq (.reg 3) (.seq (.reg 4) (.ret))))) (fnQ c139 e G) ρ)) : E L (cal e Tryz.prog 139 args G) :=
  d_fn (c := c139) Tryz.func139 (by kernel_rfl) (by kernel_rfl) (by kernel_rfl) c139_ok (by kernel_rfl) (by kernel_rfl) hρ hs h
end Go.Sp
/- The writer of packed numbers and texts. -/
namespace Go.Sp
open Go Go.Proofs
set_option linter.unusedSimpArgs false
set_option linter.unusedVariables false
set_option maxRecDepth 10000
theorem cases6 {w : Nat} (h : w ≤ 6) : w = 0 ∨ w = 1 ∨ w = 2 ∨ w = 3 ∨ w = 4 ∨ w = 5 ∨ w = 6 := by omega
theorem f119 (w : Nat) (h : w ≤ 6) : Fp eI Tryz.prog 110 #[.int .i64 (w : Int)] [] ((256 ^ w : Nat) : Int) := fun L => by
  refine c110_fn rfl rfl ?_
  have e : IntKind.wrap .i64 (8 * (w : Int)) = ((8 * w : Nat) : Int) := by rw [w64 (by omega) (by omega)]; omega
  repeat' (first | rw [e] | first | (with_reducible first | (refine d_seq ?_; intro K hK) | (refine hK _ _ ?_; clear hK K) | (refine SG.p ?_; try intro b)) | ((with_reducible refine SC.p ?_); refine And.intro ?_ ?_) <;> intro hc <;> try simp only [push_cast, Int.reduceEq, Int.reduceLT, Int.reduceLE, Int.reduceNe] at hc | with_reducible refine r_rq (by first | decide | omega) ?_ | ((with_reducible refine SL.p ?_); first | refine ⟨_, rfl, ?_⟩ | refine ⟨_, _, _, rfl, ?_⟩ | (refine ⟨?_, rfl, ?_⟩; focus (simp; done))) | ((with_reducible first | apply i_ldn | apply i_ldnq); exact rfl; exact rfl; exact rfl) | ((try with_reducible refine d_reg ?_); simp only [go_sem, Nat.reduceAdd, Nat.reduceEqDiff, Int.reduceToNat, Nat.reduceMul, Nat.reduceSub]) | clear hK K)
  (with_reducible first | apply i_ret0 | apply i_ret2 | apply i_ret3 | apply i_ret); exact rfl
  rcases cases6 h with rfl | rfl | rfl | rfl | rfl | rfl | rfl <;> decide
theorem lowb_get (n : Int) : ∀ (w i : Nat), i < w → (lowb n w)[i]? = some (UInt8.ofNat ((n / 256 ^ (w - 1 - i)) % 256).toNat)
  | w + 1, 0, _ => by simp [lowb]
  | w + 1, i + 1, h => by
    have := lowb_get n w i (by omega)
    have e : w + 1 - 1 - (i + 1) = w - 1 - i := by omega
    simp only [lowb, List.getElem?_cons_succ, this, e]
def putN (s : List UInt8) (n : Int) (w : Nat) : List UInt8 × Int := if n < 0 ∨ ((256 ^ w : Nat) : Int) ≤ n then ([], 6) else (s ++ lowb n w, 0)
theorem p256 {w : Nat} (h : w ≤ 6) : ((256 ^ w : Nat) : Int) ≤ 281474976710656 := by
  have : 256 ^ w ≤ 256 ^ 6 := Nat.pow_le_pow_right (by decide) h
  have h3 : (256 : Nat) ^ 6 = 281474976710656 := by decide
  omega
theorem shr8 (n : Int) (k : Nat) : n.fdiv (2 ^ (8 * k)) = n / 256 ^ k := by
  rw [Int.fdiv_eq_ediv_of_nonneg _ (Int.pow_nonneg (by decide)), Int.pow_mul]
  rfl
theorem wrap_byte (m : Int) : IntKind.wrap .u8 m = ((UInt8.ofNat (m % 256).toNat).toNat : Int) := by
  rw [IntKind.wrap_u8]
  have : (m % 256).toNat < 256 := by omega
  simp only [UInt8.toNat_ofNat']
  omega
theorem part_set {α : Type} {l : List α} {z x : α} {i w : Nat} (hi : i < w) (hl : l.length = w) (hx : l[i]? = some x) : (l.take i ++ List.replicate (w - i) z).set i x = l.take (i + 1) ++ List.replicate (w - (i + 1)) z := by
  have e : w - i = (w - (i + 1)) + 1 := by omega
  have h : i < l.length := by omega
  rw [List.set_append_right _ _ (by simp; omega), e, List.replicate_succ]
  have e2 : i - (l.take i).length = 0 := by simp; omega
  rw [e2, List.set_cons_zero, List.take_succ_eq_append_getElem h]
  rw [List.getElem?_eq_getElem h] at hx
  simp only [Option.some.injEq] at hx
  rw [hx]
  simp
theorem f97 (s : List UInt8) (n : Int) (w : Nat) (h1 : 1 ≤ w) (h6 : w ≤ 6) (hs : s.length ≤ 4611686018427387904) : Fp (eT2 eS eI) Tryz.prog 73 #[str s, .int .i64 n, .int .i64 (w : Int)] [] (putN s n w) := fun L => by
  have hp := p256 h6
  have h119 := f119 w h6
  refine c73_fn rfl rfl ?_
  unfold putN
  generalize 256 ^ w = P at *
  by_cases h0 : n < 0
  · rw [if_pos (.inl h0)]
    repeat' ((fail_if_success with_reducible refine nph ?_); first | (with_reducible first | (refine d_seq ?_; intro K hK) | (refine hK _ _ ?_; clear hK K) | (refine SG.p ?_; try intro b)) | ((with_reducible refine SC.p ?_); refine And.intro ?_ ?_) <;> intro hc <;> try simp only [push_cast, Int.reduceEq, Int.reduceLT, Int.reduceLE, Int.reduceNe] at hc | with_reducible refine r_rq (by first | decide | omega) ?_ | ((with_reducible refine SL.p ?_); first | refine ⟨_, rfl, ?_⟩ | refine ⟨_, _, _, rfl, ?_⟩ | (refine ⟨?_, rfl, ?_⟩; focus (simp; done))) | ((with_reducible first | apply i_ldn | apply i_ldnq); exact rfl; exact rfl; exact rfl) | ((try with_reducible refine d_reg ?_); simp only [go_sem, Nat.reduceAdd, Nat.reduceEqDiff, Int.reduceToNat, Nat.reduceMul, Nat.reduceSub]) | clear hK K)
    all_goals try (first | contradiction | (simp only [ reduceCtorEq] at *; done) | (exfalso; omega))
    (with_reducible first | apply i_ret0 | apply i_ret2 | apply i_ret3 | apply i_ret); exact rfl
    rfl
  · by_cases hL : (P : Int) ≤ n
    · rw [if_pos (.inr hL)]
      repeat' ((fail_if_success with_reducible refine nph ?_); first | (with_reducible first | (refine d_seq ?_; intro K hK) | (refine hK _ _ ?_; clear hK K) | (refine SG.p ?_; try intro b)) | ((with_reducible refine SC.p ?_); refine And.intro ?_ ?_) <;> intro hc <;> try simp only [push_cast, Int.reduceEq, Int.reduceLT, Int.reduceLE, Int.reduceNe] at hc | with_reducible refine r_rq (by first | decide | omega) ?_ | ((with_reducible refine SL.p ?_); first | refine ⟨_, rfl, ?_⟩ | refine ⟨_, _, _, rfl, ?_⟩ | (refine ⟨?_, rfl, ?_⟩; focus (simp; done))) | ((with_reducible first | apply i_ldn | apply i_ldnq); exact rfl; exact rfl; exact rfl) | ((try with_reducible refine d_reg ?_); simp only [go_sem, Nat.reduceAdd, Nat.reduceEqDiff, Int.reduceToNat, Nat.reduceMul, Nat.reduceSub]) | clear hK K)
      all_goals try (first | contradiction | (simp only [ reduceCtorEq] at *; done) | (exfalso; omega))
      refine i_clp h119 ?_
      repeat' ((fail_if_success with_reducible refine nph ?_); first | (with_reducible first | (refine d_seq ?_; intro K hK) | (refine hK _ _ ?_; clear hK K) | (refine SG.p ?_; try intro b)) | ((with_reducible refine SC.p ?_); refine And.intro ?_ ?_) <;> intro hc <;> try simp only [push_cast, Int.reduceEq, Int.reduceLT, Int.reduceLE, Int.reduceNe] at hc | with_reducible refine r_rq (by first | decide | omega) ?_ | ((with_reducible refine SL.p ?_); first | refine ⟨_, rfl, ?_⟩ | refine ⟨_, _, _, rfl, ?_⟩ | (refine ⟨?_, rfl, ?_⟩; focus (simp; done))) | ((with_reducible first | apply i_ldn | apply i_ldnq); exact rfl; exact rfl; exact rfl) | ((try with_reducible refine d_reg ?_); simp only [go_sem, Nat.reduceAdd, Nat.reduceEqDiff, Int.reduceToNat, Nat.reduceMul, Nat.reduceSub]) | clear hK K)
      all_goals try (first | contradiction | (simp only [ reduceCtorEq] at *; done) | (exfalso; omega))
      (with_reducible first | apply i_ret0 | apply i_ret2 | apply i_ret3 | apply i_ret); exact rfl
      rfl
    · rw [if_neg (by omega)]
      repeat' ((fail_if_success with_reducible refine nph ?_); first | (with_reducible first | (refine d_seq ?_; intro K hK) | (refine hK _ _ ?_; clear hK K) | (refine SG.p ?_; try intro b)) | ((with_reducible refine SC.p ?_); refine And.intro ?_ ?_) <;> intro hc <;> try simp only [push_cast, Int.reduceEq, Int.reduceLT, Int.reduceLE, Int.reduceNe] at hc | with_reducible refine r_rq (by first | decide | omega) ?_ | ((with_reducible refine SL.p ?_); first | refine ⟨_, rfl, ?_⟩ | refine ⟨_, _, _, rfl, ?_⟩ | (refine ⟨?_, rfl, ?_⟩; focus (simp; done))) | ((with_reducible first | apply i_ldn | apply i_ldnq); exact rfl; exact rfl; exact rfl) | ((try with_reducible refine d_reg ?_); simp only [go_sem, Nat.reduceAdd, Nat.reduceEqDiff, Int.reduceToNat, Nat.reduceMul, Nat.reduceSub]) | clear hK K)
      all_goals try (first | contradiction | (simp only [ reduceCtorEq] at *; done) | (exfalso; omega))
      refine i_clp h119 ?_
      repeat' ((fail_if_success with_reducible refine nph ?_); first | (with_reducible first | (refine d_seq ?_; intro K hK) | (refine hK _ _ ?_; clear hK K) | (refine SG.p ?_; try intro b)) | ((with_reducible refine SC.p ?_); refine And.intro ?_ ?_) <;> intro hc <;> try simp only [push_cast, Int.reduceEq, Int.reduceLT, Int.reduceLE, Int.reduceNe] at hc | with_reducible refine r_rq (by first | decide | omega) ?_ | ((with_reducible refine SL.p ?_); first | refine ⟨_, rfl, ?_⟩ | refine ⟨_, _, _, rfl, ?_⟩ | (refine ⟨?_, rfl, ?_⟩; focus (simp; done))) | ((with_reducible first | apply i_ldn | apply i_ldnq); exact rfl; exact rfl; exact rfl) | ((try with_reducible refine d_reg ?_); simp only [go_sem, Nat.reduceAdd, Nat.reduceEqDiff, Int.reduceToNat, Nat.reduceMul, Nat.reduceSub]) | clear hK K)
      all_goals try (first | contradiction | (simp only [ reduceCtorEq] at *; done) | (exfalso; omega))
      refine r_mkb (el := 5) w (by kernel_rfl) rfl (by omega) fun b => ?_
      repeat' ((fail_if_success with_reducible refine nph ?_); first | (with_reducible first | (refine d_seq ?_; intro K hK) | (refine hK _ _ ?_; clear hK K) | (refine SG.p ?_; try intro b)) | ((with_reducible refine SC.p ?_); refine And.intro ?_ ?_) <;> intro hc <;> try simp only [push_cast, Int.reduceEq, Int.reduceLT, Int.reduceLE, Int.reduceNe] at hc | with_reducible refine r_rq (by first | decide | omega) ?_ | ((with_reducible refine SL.p ?_); first | refine ⟨_, rfl, ?_⟩ | refine ⟨_, _, _, rfl, ?_⟩ | (refine ⟨?_, rfl, ?_⟩; focus (simp; done))) | ((with_reducible first | apply i_ldn | apply i_ldnq); exact rfl; exact rfl; exact rfl) | ((try with_reducible refine d_reg ?_); simp only [go_sem, Nat.reduceAdd, Nat.reduceEqDiff, Int.reduceToNat, Nat.reduceMul, Nat.reduceSub]) | clear hK K)
      refine d_lp [0, 1, 2, 8, 29, 30] (fun i : Nat => [(0, str s), (1, .int .i64 n), (2, .int .i64 (w : Int)), (8, .slice (some ⟨b, 0, none⟩) w w), (29, .int .i64 (w : Int)), (30, .int .i64 (i : Int))])
        (fun i => ar b 5 (cb ((lowb n w).take i ++ List.replicate (w - i) 0)) :: L) (fun i => i ≤ w) (fun i => w - i) 0 rfl ?_ (by omega) ?_
      · have e : (lowb n w).take 0 ++ List.replicate (w - 0) (0 : UInt8) = List.replicate w 0 := by simp
        rw [e]
        exact SX.p
      intro i hi
      repeat' ((fail_if_success with_reducible refine nph ?_); first | (with_reducible first | (refine d_seq ?_; intro K hK) | (refine hK _ _ ?_; clear hK K) | (refine SG.p ?_; try intro b)) | ((with_reducible refine SC.p ?_); refine And.intro ?_ ?_) <;> intro hc <;> try simp only [push_cast, Int.reduceEq, Int.reduceLT, Int.reduceLE, Int.reduceNe] at hc | with_reducible refine r_rq (by first | decide | omega) ?_ | ((with_reducible refine SL.p ?_); first | refine ⟨_, rfl, ?_⟩ | refine ⟨_, _, _, rfl, ?_⟩ | (refine ⟨?_, rfl, ?_⟩; focus (simp; done))) | ((with_reducible first | apply i_ldn | apply i_ldnq); exact rfl; exact rfl; exact rfl) | ((try with_reducible refine d_reg ?_); simp only [go_sem, Nat.reduceAdd, Nat.reduceEqDiff, Int.reduceToNat, Nat.reduceMul, Nat.reduceSub]) | clear hK K)
      · have e1 : IntKind.wrap .i64 (8 * IntKind.wrap .i64 (IntKind.wrap .i64 ((w : Int) - 1) - (i : Int))) = ((8 * (w - 1 - i) : Nat) : Int) := by
          rw [w64 (n := (w : Int) - 1) (by omega) (by omega), w64 (n := (w : Int) - 1 - (i : Int)) (by omega) (by omega), w64 (by omega) (by omega)]; omega
        rw [e1]
        have e2 : min (8 * (w - 1 - i)) 64 = 8 * (w - 1 - i) := by omega
        refine r_rq (by omega) ?_
        refine r_rq (by omega) ?_
        rw [Int.toNat_natCast, e2, shr8, wrap_byte]
        have hl := lowb_len n w
        have hx := lowb_get n w i (by omega)
        refine r_bs _ .here (by rw [List.length_append, List.length_take, List.length_replicate]; omega) rfl ?_
        rw [part_set (by omega) hl hx]
        repeat' ((fail_if_success with_reducible refine nph ?_); first | (with_reducible first | (refine d_seq ?_; intro K hK) | (refine hK _ _ ?_; clear hK K) | (refine SG.p ?_; try intro b)) | ((with_reducible refine SC.p ?_); refine And.intro ?_ ?_) <;> intro hc <;> try simp only [push_cast, Int.reduceEq, Int.reduceLT, Int.reduceLE, Int.reduceNe] at hc | with_reducible refine r_rq (by first | decide | omega) ?_ | ((with_reducible refine SL.p ?_); first | refine ⟨_, rfl, ?_⟩ | refine ⟨_, _, _, rfl, ?_⟩ | (refine ⟨?_, rfl, ?_⟩; focus (simp; done))) | ((with_reducible first | apply i_ldn | apply i_ldnq); exact rfl; exact rfl; exact rfl) | ((try with_reducible refine d_reg ?_); simp only [go_sem, Nat.reduceAdd, Nat.reduceEqDiff, Int.reduceToNat, Nat.reduceMul, Nat.reduceSub]) | clear hK K)
        rw [w64 (by omega) (by omega)]
        exact i_bk (i + 1) rfl (by omega) (by omega)
      · obtain rfl : i = w := by omega
        have hl := lowb_len n i
        have e : (lowb n i).take i ++ List.replicate (i - i) (0 : UInt8) = lowb n i := by rw [List.take_of_length_le (by omega)]; simp
        rw [e]
        refine r_conv (bs := lowb n i) (by kernel_rfl) ((Rs_ar (by rw [cb_len]; omega)).eqn rfl) .here ?_
        repeat' (first | (with_reducible first | (refine d_seq ?_; intro K hK) | (refine hK _ _ ?_; clear hK K) | (refine SG.p ?_; try intro b)) | ((with_reducible refine SC.p ?_); refine And.intro ?_ ?_) <;> intro hc <;> try simp only [push_cast, Int.reduceEq, Int.reduceLT, Int.reduceLE, Int.reduceNe] at hc | with_reducible refine r_rq (by first | decide | omega) ?_ | ((with_reducible refine SL.p ?_); first | refine ⟨_, rfl, ?_⟩ | refine ⟨_, _, _, rfl, ?_⟩ | (refine ⟨?_, rfl, ?_⟩; focus (simp; done))) | ((with_reducible first | apply i_ldn | apply i_ldnq); exact rfl; exact rfl; exact rfl) | ((try with_reducible refine d_reg ?_); simp only [go_sem, Nat.reduceAdd, Nat.reduceEqDiff, Int.reduceToNat, Nat.reduceMul, Nat.reduceSub]) | clear hK K)
        (with_reducible first | apply i_ret0 | apply i_ret2 | apply i_ret3 | apply i_ret); exact rfl
        rfl
def putT (s t : List UInt8) : List UInt8 × Int := if 65536 ≤ t.length then ([], 3) else (s ++ lowb (t.length : Int) 2 ++ t, 0)
theorem f117 (s t : List UInt8) (hs : s.length ≤ 2305843009213693952) : Fp (eT2 eS eI) Tryz.prog 139 #[str s, str t] [] (putT s t) := fun L => by
  have e2 : ((256 ^ 2 : Nat) : Int) = 65536 := by decide
  have h119 : Fp eI Tryz.prog 110 #[.int .i64 2] [] 65536 := by
    have := f119 2 (by decide)
    rw [e2] at this
    exact this
  unfold putT
  refine c139_fn rfl rfl ?_
  by_cases h : 65536 ≤ t.length
  · rw [if_pos h]
    clear e2
    repeat' ((fail_if_success with_reducible refine nph ?_); first | (with_reducible first | (refine d_seq ?_; intro K hK) | (refine hK _ _ ?_; clear hK K) | (refine SG.p ?_; try intro b)) | ((with_reducible refine SC.p ?_); refine And.intro ?_ ?_) <;> intro hc <;> try simp only [push_cast, Int.reduceEq, Int.reduceLT, Int.reduceLE, Int.reduceNe] at hc | with_reducible refine r_rq (by first | decide | omega) ?_ | ((with_reducible refine SL.p ?_); first | refine ⟨_, rfl, ?_⟩ | refine ⟨_, _, _, rfl, ?_⟩ | (refine ⟨?_, rfl, ?_⟩; focus (simp; done))) | ((with_reducible first | apply i_ldn | apply i_ldnq); exact rfl; exact rfl; exact rfl) | ((try with_reducible refine d_reg ?_); simp only [go_sem, Nat.reduceAdd, Nat.reduceEqDiff, Int.reduceToNat, Nat.reduceMul, Nat.reduceSub]) | clear hK K)
    refine i_clp h119 ?_
    repeat' ((fail_if_success with_reducible refine nph ?_); first | (with_reducible first | (refine d_seq ?_; intro K hK) | (refine hK _ _ ?_; clear hK K) | (refine SG.p ?_; try intro b)) | ((with_reducible refine SC.p ?_); refine And.intro ?_ ?_) <;> intro hc <;> try simp only [push_cast, Int.reduceEq, Int.reduceLT, Int.reduceLE, Int.reduceNe] at hc | with_reducible refine r_rq (by first | decide | omega) ?_ | ((with_reducible refine SL.p ?_); first | refine ⟨_, rfl, ?_⟩ | refine ⟨_, _, _, rfl, ?_⟩ | (refine ⟨?_, rfl, ?_⟩; focus (simp; done))) | ((with_reducible first | apply i_ldn | apply i_ldnq); exact rfl; exact rfl; exact rfl) | ((try with_reducible refine d_reg ?_); simp only [go_sem, Nat.reduceAdd, Nat.reduceEqDiff, Int.reduceToNat, Nat.reduceMul, Nat.reduceSub]) | clear hK K)
    all_goals try (exfalso; omega)
    (with_reducible first | apply i_ret0 | apply i_ret2 | apply i_ret3 | apply i_ret); exact rfl
    rfl
  · rw [if_neg h]
    have F := f97 s (t.length : Int) 2 (by decide) (by decide) (by omega)
    have e : putN s (t.length : Int) 2 = (s ++ lowb (t.length : Int) 2, 0) := by
      unfold putN
      rw [if_neg (by rw [e2]; omega)]
    clear e2
    rw [e] at F
    have hl := lowb_len (t.length : Int) 2
    repeat' ((fail_if_success with_reducible refine nph ?_); first | (with_reducible first | (refine d_seq ?_; intro K hK) | (refine hK _ _ ?_; clear hK K) | (refine SG.p ?_; try intro b)) | ((with_reducible refine SC.p ?_); refine And.intro ?_ ?_) <;> intro hc <;> try simp only [push_cast, Int.reduceEq, Int.reduceLT, Int.reduceLE, Int.reduceNe] at hc | with_reducible refine r_rq (by first | decide | omega) ?_ | ((with_reducible refine SL.p ?_); first | refine ⟨_, rfl, ?_⟩ | refine ⟨_, _, _, rfl, ?_⟩ | (refine ⟨?_, rfl, ?_⟩; focus (simp; done))) | ((with_reducible first | apply i_ldn | apply i_ldnq); exact rfl; exact rfl; exact rfl) | ((try with_reducible refine d_reg ?_); simp only [go_sem, Nat.reduceAdd, Nat.reduceEqDiff, Int.reduceToNat, Nat.reduceMul, Nat.reduceSub]) | clear hK K)
    refine i_clp h119 ?_
    repeat' ((fail_if_success with_reducible refine nph ?_); first | (with_reducible first | (refine d_seq ?_; intro K hK) | (refine hK _ _ ?_; clear hK K) | (refine SG.p ?_; try intro b)) | ((with_reducible refine SC.p ?_); refine And.intro ?_ ?_) <;> intro hc <;> try simp only [push_cast, Int.reduceEq, Int.reduceLT, Int.reduceLE, Int.reduceNe] at hc | with_reducible refine r_rq (by first | decide | omega) ?_ | ((with_reducible refine SL.p ?_); first | refine ⟨_, rfl, ?_⟩ | refine ⟨_, _, _, rfl, ?_⟩ | (refine ⟨?_, rfl, ?_⟩; focus (simp; done))) | ((with_reducible first | apply i_ldn | apply i_ldnq); exact rfl; exact rfl; exact rfl) | ((try with_reducible refine d_reg ?_); simp only [go_sem, Nat.reduceAdd, Nat.reduceEqDiff, Int.reduceToNat, Nat.reduceMul, Nat.reduceSub]) | clear hK K)
    all_goals try (exfalso; omega)
    refine i_clp F ?_
    repeat' ((fail_if_success with_reducible refine nph ?_); first | (with_reducible first | (refine d_seq ?_; intro K hK) | (refine hK _ _ ?_; clear hK K) | (refine SG.p ?_; try intro b)) | ((with_reducible refine SC.p ?_); refine And.intro ?_ ?_) <;> intro hc <;> try simp only [push_cast, Int.reduceEq, Int.reduceLT, Int.reduceLE, Int.reduceNe] at hc | with_reducible refine r_rq (by first | decide | omega) ?_ | ((with_reducible refine SL.p ?_); first | refine ⟨_, rfl, ?_⟩ | refine ⟨_, _, _, rfl, ?_⟩ | (refine ⟨?_, rfl, ?_⟩; focus (simp; done))) | ((with_reducible first | apply i_ldn | apply i_ldnq); exact rfl; exact rfl; exact rfl) | ((try with_reducible refine d_reg ?_); simp only [go_sem, Nat.reduceAdd, Nat.reduceEqDiff, Int.reduceToNat, Nat.reduceMul, Nat.reduceSub]) | clear hK K)
    refine r_rq (by rw [List.length_append]; omega) ?_
    repeat' ((fail_if_success with_reducible refine nph ?_); first | (with_reducible first | (refine d_seq ?_; intro K hK) | (refine hK _ _ ?_; clear hK K) | (refine SG.p ?_; try intro b)) | ((with_reducible refine SC.p ?_); refine And.intro ?_ ?_) <;> intro hc <;> try simp only [push_cast, Int.reduceEq, Int.reduceLT, Int.reduceLE, Int.reduceNe] at hc | with_reducible refine r_rq (by first | decide | omega) ?_ | ((with_reducible refine SL.p ?_); first | refine ⟨_, rfl, ?_⟩ | refine ⟨_, _, _, rfl, ?_⟩ | (refine ⟨?_, rfl, ?_⟩; focus (simp; done))) | ((with_reducible first | apply i_ldn | apply i_ldnq); exact rfl; exact rfl; exact rfl) | ((try with_reducible refine d_reg ?_); simp only [go_sem, Nat.reduceAdd, Nat.reduceEqDiff, Int.reduceToNat, Nat.reduceMul, Nat.reduceSub]) | clear hK K)
    (with_reducible first | apply i_ret0 | apply i_ret2 | apply i_ret3 | apply i_ret); exact rfl
    rfl
/-! ### The writer: what is laid, or the first error -/
abbrev Wt := List UInt8 × Int
def lay1 (r q : Wt) : Wt := if r.2 ≠ 0 then r else if q.2 ≠ 0 then ([], q.2) else (q.1, 0)
abbrev wr (b : Nat) (r : Wt) : HP := ar b 153 [str r.1, .int .i64 r.2]
theorem Takes.there {L A R : List HP} {y : HP} (t : Takes L A R) : Takes (y :: L) A (y :: R) := by
  induction t with
  | nil => exact .nil
  | cons h _ ih => exact .cons (.there h) ih
theorem f115 (b : Nat) (r q : Wt) (f : Nat) (cap : Array Value) (C : List HP) (he : entered Tryz.prog f = true) (H : Fp (eT2 eS eI) Tryz.prog f (#[str r.1] ++ cap) C q) :
    Fq eN Tryz.prog 125 #[.pointer (some ⟨b, 0, none⟩), .func (.func f) #[] cap] (wr b r :: C) (wr b (lay1 r q) :: C) () := fun L => by
  obtain ⟨s, e⟩ := r
  obtain ⟨s', e'⟩ := q
  unfold lay1
  by_cases h0 : e = 0
  · subst h0
    by_cases h1 : e' = 0
    · subst h1
      rw [if_neg (by simp), if_neg (by simp)]
      refine c125_fn rfl rfl ?_
      repeat' ((fail_if_success with_reducible refine nph ?_); first | (with_reducible first | (refine d_seq ?_; intro K hK) | (refine hK _ _ ?_; clear hK K) | (refine SG.p ?_; try intro b)) | ((with_reducible refine SC.p ?_); refine And.intro ?_ ?_) <;> intro hc <;> try simp only [push_cast, Int.reduceEq, Int.reduceLT, Int.reduceLE, Int.reduceNe] at hc | with_reducible refine r_rq (by first | decide | omega) ?_ | ((with_reducible refine SL.p ?_); first | refine ⟨_, rfl, ?_⟩ | refine ⟨_, _, _, rfl, ?_⟩ | (refine ⟨?_, rfl, ?_⟩; focus (simp; done))) | ((with_reducible first | apply i_ldn | apply i_ldnq); exact rfl; exact rfl; exact rfl) | ((try with_reducible refine d_reg ?_); simp only [go_sem, Nat.reduceAdd, Nat.reduceEqDiff, Int.reduceToNat, Nat.reduceMul, Nat.reduceSub]) | clear hK K)
      all_goals try (first | contradiction | (simp only [ reduceCtorEq] at *; done) | (exfalso; omega))
      unfold ent
      rw [he]
      have : TX (wr b (s, 0) :: (C ++ L)) C (wr b (s, 0) :: L) := ⟨(Takes.all C).there⟩
      refine i_clp H ?_
      repeat' ((fail_if_success with_reducible refine nph ?_); first | (with_reducible first | (refine d_seq ?_; intro K hK) | (refine hK _ _ ?_; clear hK K) | (refine SG.p ?_; try intro b)) | ((with_reducible refine SC.p ?_); refine And.intro ?_ ?_) <;> intro hc <;> try simp only [push_cast, Int.reduceEq, Int.reduceLT, Int.reduceLE, Int.reduceNe] at hc | with_reducible refine r_rq (by first | decide | omega) ?_ | ((with_reducible refine SL.p ?_); first | refine ⟨_, rfl, ?_⟩ | refine ⟨_, _, _, rfl, ?_⟩ | (refine ⟨?_, rfl, ?_⟩; focus (simp; done))) | ((with_reducible first | apply i_ldn | apply i_ldnq); exact rfl; exact rfl; exact rfl) | ((try with_reducible refine d_reg ?_); simp only [go_sem, Nat.reduceAdd, Nat.reduceEqDiff, Int.reduceToNat, Nat.reduceMul, Nat.reduceSub]) | clear hK K)
      all_goals try (first | contradiction | (simp only [ reduceCtorEq] at *; done) | (exfalso; omega))
      (with_reducible first | apply i_ret0 | apply i_ret2 | apply i_ret3 | apply i_ret); exact rfl
    · rw [if_neg (by simp), if_pos h1]
      refine c125_fn rfl rfl ?_
      repeat' ((fail_if_success with_reducible refine nph ?_); first | (with_reducible first | (refine d_seq ?_; intro K hK) | (refine hK _ _ ?_; clear hK K) | (refine SG.p ?_; try intro b)) | ((with_reducible refine SC.p ?_); refine And.intro ?_ ?_) <;> intro hc <;> try simp only [push_cast, Int.reduceEq, Int.reduceLT, Int.reduceLE, Int.reduceNe] at hc | with_reducible refine r_rq (by first | decide | omega) ?_ | ((with_reducible refine SL.p ?_); first | refine ⟨_, rfl, ?_⟩ | refine ⟨_, _, _, rfl, ?_⟩ | (refine ⟨?_, rfl, ?_⟩; focus (simp; done))) | ((with_reducible first | apply i_ldn | apply i_ldnq); exact rfl; exact rfl; exact rfl) | ((try with_reducible refine d_reg ?_); simp only [go_sem, Nat.reduceAdd, Nat.reduceEqDiff, Int.reduceToNat, Nat.reduceMul, Nat.reduceSub]) | clear hK K)
      all_goals try (first | contradiction | (simp only [ reduceCtorEq] at *; done) | (exfalso; omega))
      unfold ent
      rw [he]
      have : TX (wr b (s, 0) :: (C ++ L)) C (wr b (s, 0) :: L) := ⟨(Takes.all C).there⟩
      refine i_clp H ?_
      repeat' ((fail_if_success with_reducible refine nph ?_); first | (with_reducible first | (refine d_seq ?_; intro K hK) | (refine hK _ _ ?_; clear hK K) | (refine SG.p ?_; try intro b)) | ((with_reducible refine SC.p ?_); refine And.intro ?_ ?_) <;> intro hc <;> try simp only [push_cast, Int.reduceEq, Int.reduceLT, Int.reduceLE, Int.reduceNe] at hc | with_reducible refine r_rq (by first | decide | omega) ?_ | ((with_reducible refine SL.p ?_); first | refine ⟨_, rfl, ?_⟩ | refine ⟨_, _, _, rfl, ?_⟩ | (refine ⟨?_, rfl, ?_⟩; focus (simp; done))) | ((with_reducible first | apply i_ldn | apply i_ldnq); exact rfl; exact rfl; exact rfl) | ((try with_reducible refine d_reg ?_); simp only [go_sem, Nat.reduceAdd, Nat.reduceEqDiff, Int.reduceToNat, Nat.reduceMul, Nat.reduceSub]) | clear hK K)
      all_goals try (first | contradiction | (simp only [ reduceCtorEq] at *; done) | (exfalso; omega))
      (with_reducible first | apply i_ret0 | apply i_ret2 | apply i_ret3 | apply i_ret); exact rfl
  · rw [if_pos h0]
    refine c125_fn rfl rfl ?_
    repeat' ((fail_if_success with_reducible refine nph ?_); first | (with_reducible first | (refine d_seq ?_; intro K hK) | (refine hK _ _ ?_; clear hK K) | (refine SG.p ?_; try intro b)) | ((with_reducible refine SC.p ?_); refine And.intro ?_ ?_) <;> intro hc <;> try simp only [push_cast, Int.reduceEq, Int.reduceLT, Int.reduceLE, Int.reduceNe] at hc | with_reducible refine r_rq (by first | decide | omega) ?_ | ((with_reducible refine SL.p ?_); first | refine ⟨_, rfl, ?_⟩ | refine ⟨_, _, _, rfl, ?_⟩ | (refine ⟨?_, rfl, ?_⟩; focus (simp; done))) | ((with_reducible first | apply i_ldn | apply i_ldnq); exact rfl; exact rfl; exact rfl) | ((try with_reducible refine d_reg ?_); simp only [go_sem, Nat.reduceAdd, Nat.reduceEqDiff, Int.reduceToNat, Nat.reduceMul, Nat.reduceSub]) | clear hK K)
    all_goals try (first | contradiction | (simp only [ reduceCtorEq] at *; done) | (exfalso; omega))
    (with_reducible first | apply i_ret0 | apply i_ret2 | apply i_ret3 | apply i_ret); exact rfl
theorem f95 (q : Nat) (r : Wt) (n : Int) (w : Nat) (h1 : 1 ≤ w) (h6 : w ≤ 6) (hs : r.1.length ≤ 2305843009213693952) :
    Fq eN Tryz.prog 103 #[.pointer (some ⟨q, 0, none⟩), .int .i64 n, .int .i64 (w : Int)] [wr q r] [wr q (lay1 r (putN r.1 n w))] () := fun L => by
  refine c103_fn rfl rfl ?_
  repeat' ((fail_if_success with_reducible refine nph ?_); first | (with_reducible first | (refine d_seq ?_; intro K hK) | (refine hK _ _ ?_; clear hK K) | (refine SG.p ?_; try intro b)) | ((with_reducible refine SC.p ?_); refine And.intro ?_ ?_) <;> intro hc <;> try simp only [push_cast, Int.reduceEq, Int.reduceLT, Int.reduceLE, Int.reduceNe] at hc | with_reducible refine r_rq (by first | decide | omega) ?_ | ((with_reducible refine SL.p ?_); first | refine ⟨_, rfl, ?_⟩ | refine ⟨_, _, _, rfl, ?_⟩ | (refine ⟨?_, rfl, ?_⟩; focus (simp; done))) | ((with_reducible first | apply i_ldn | apply i_ldnq); exact rfl; exact rfl; exact rfl) | ((try with_reducible refine d_reg ?_); simp only [go_sem, Nat.reduceAdd, Nat.reduceEqDiff, Int.reduceToNat, Nat.reduceMul, Nat.reduceSub]) | clear hK K)
  rename_i b1
  have H : Fp (eT2 eS eI) Tryz.prog 126 #[str r.1, .pointer (some ⟨b1, 0, none⟩), .pointer (some ⟨b, 0, none⟩)] [ar b1 3 [.int .i64 n], ar b 3 [.int .i64 (w : Int)]] (putN r.1 n w) := fun L => by
    refine c126_fn rfl rfl ?_
    repeat' ((fail_if_success with_reducible refine nph ?_); first | (with_reducible first | (refine d_seq ?_; intro K hK) | (refine hK _ _ ?_; clear hK K) | (refine SG.p ?_; try intro b)) | ((with_reducible refine SC.p ?_); refine And.intro ?_ ?_) <;> intro hc <;> try simp only [push_cast, Int.reduceEq, Int.reduceLT, Int.reduceLE, Int.reduceNe] at hc | with_reducible refine r_rq (by first | decide | omega) ?_ | ((with_reducible refine SL.p ?_); first | refine ⟨_, rfl, ?_⟩ | refine ⟨_, _, _, rfl, ?_⟩ | (refine ⟨?_, rfl, ?_⟩; focus (simp; done))) | ((with_reducible first | apply i_ldn | apply i_ldnq); exact rfl; exact rfl; exact rfl) | ((try with_reducible refine d_reg ?_); simp only [go_sem, Nat.reduceAdd, Nat.reduceEqDiff, Int.reduceToNat, Nat.reduceMul, Nat.reduceSub]) | clear hK K)
    refine i_clp (f97 r.1 n w h1 h6 (by omega)) ?_
    repeat' ((fail_if_success with_reducible refine nph ?_); first | (with_reducible first | (refine d_seq ?_; intro K hK) | (refine hK _ _ ?_; clear hK K) | (refine SG.p ?_; try intro b)) | ((with_reducible refine SC.p ?_); refine And.intro ?_ ?_) <;> intro hc <;> try simp only [push_cast, Int.reduceEq, Int.reduceLT, Int.reduceLE, Int.reduceNe] at hc | with_reducible refine r_rq (by first | decide | omega) ?_ | ((with_reducible refine SL.p ?_); first | refine ⟨_, rfl, ?_⟩ | refine ⟨_, _, _, rfl, ?_⟩ | (refine ⟨?_, rfl, ?_⟩; focus (simp; done))) | ((with_reducible first | apply i_ldn | apply i_ldnq); exact rfl; exact rfl; exact rfl) | ((try with_reducible refine d_reg ?_); simp only [go_sem, Nat.reduceAdd, Nat.reduceEqDiff, Int.reduceToNat, Nat.reduceMul, Nat.reduceSub]) | clear hK K)
    (with_reducible first | apply i_ret0 | apply i_ret2 | apply i_ret3 | apply i_ret); exact rfl
    rfl
  refine i_clq (f115 q r _ 126 #[.pointer (some ⟨b1, 0, none⟩), .pointer (some ⟨b, 0, none⟩)] _ (by kernel_rfl) H) ?_
  repeat' ((fail_if_success with_reducible refine nph ?_); first | (with_reducible first | (refine d_seq ?_; intro K hK) | (refine hK _ _ ?_; clear hK K) | (refine SG.p ?_; try intro b)) | ((with_reducible refine SC.p ?_); refine And.intro ?_ ?_) <;> intro hc <;> try simp only [push_cast, Int.reduceEq, Int.reduceLT, Int.reduceLE, Int.reduceNe] at hc | with_reducible refine r_rq (by first | decide | omega) ?_ | ((with_reducible refine SL.p ?_); first | refine ⟨_, rfl, ?_⟩ | refine ⟨_, _, _, rfl, ?_⟩ | (refine ⟨?_, rfl, ?_⟩; focus (simp; done))) | ((with_reducible first | apply i_ldn | apply i_ldnq); exact rfl; exact rfl; exact rfl) | ((try with_reducible refine d_reg ?_); simp only [go_sem, Nat.reduceAdd, Nat.reduceEqDiff, Int.reduceToNat, Nat.reduceMul, Nat.reduceSub]) | clear hK K)
  (with_reducible first | apply i_ret0 | apply i_ret2 | apply i_ret3 | apply i_ret); exact rfl
theorem f94 (q : Nat) (r : Wt) (t : List UInt8) (hs : r.1.length ≤ 2305843009213693952) :
    Fq eN Tryz.prog 127 #[.pointer (some ⟨q, 0, none⟩), str t] [wr q r] [wr q (lay1 r (putT r.1 t))] () := fun L => by
  refine c127_fn rfl rfl ?_
  repeat' ((fail_if_success with_reducible refine nph ?_); first | (with_reducible first | (refine d_seq ?_; intro K hK) | (refine hK _ _ ?_; clear hK K) | (refine SG.p ?_; try intro b)) | ((with_reducible refine SC.p ?_); refine And.intro ?_ ?_) <;> intro hc <;> try simp only [push_cast, Int.reduceEq, Int.reduceLT, Int.reduceLE, Int.reduceNe] at hc | with_reducible refine r_rq (by first | decide | omega) ?_ | ((with_reducible refine SL.p ?_); first | refine ⟨_, rfl, ?_⟩ | refine ⟨_, _, _, rfl, ?_⟩ | (refine ⟨?_, rfl, ?_⟩; focus (simp; done))) | ((with_reducible first | apply i_ldn | apply i_ldnq); exact rfl; exact rfl; exact rfl) | ((try with_reducible refine d_reg ?_); simp only [go_sem, Nat.reduceAdd, Nat.reduceEqDiff, Int.reduceToNat, Nat.reduceMul, Nat.reduceSub]) | clear hK K)
  have H : Fp (eT2 eS eI) Tryz.prog 138 #[str r.1, .pointer (some ⟨b, 0, none⟩)] [ar b 9 [str t]] (putT r.1 t) := fun L => by
    refine c138_fn rfl rfl ?_
    repeat' ((fail_if_success with_reducible refine nph ?_); first | (with_reducible first | (refine d_seq ?_; intro K hK) | (refine hK _ _ ?_; clear hK K) | (refine SG.p ?_; try intro b)) | ((with_reducible refine SC.p ?_); refine And.intro ?_ ?_) <;> intro hc <;> try simp only [push_cast, Int.reduceEq, Int.reduceLT, Int.reduceLE, Int.reduceNe] at hc | with_reducible refine r_rq (by first | decide | omega) ?_ | ((with_reducible refine SL.p ?_); first | refine ⟨_, rfl, ?_⟩ | refine ⟨_, _, _, rfl, ?_⟩ | (refine ⟨?_, rfl, ?_⟩; focus (simp; done))) | ((with_reducible first | apply i_ldn | apply i_ldnq); exact rfl; exact rfl; exact rfl) | ((try with_reducible refine d_reg ?_); simp only [go_sem, Nat.reduceAdd, Nat.reduceEqDiff, Int.reduceToNat, Nat.reduceMul, Nat.reduceSub]) | clear hK K)
    refine i_clp (f117 r.1 t hs) ?_
    repeat' ((fail_if_success with_reducible refine nph ?_); first | (with_reducible first | (refine d_seq ?_; intro K hK) | (refine hK _ _ ?_; clear hK K) | (refine SG.p ?_; try intro b)) | ((with_reducible refine SC.p ?_); refine And.intro ?_ ?_) <;> intro hc <;> try simp only [push_cast, Int.reduceEq, Int.reduceLT, Int.reduceLE, Int.reduceNe] at hc | with_reducible refine r_rq (by first | decide | omega) ?_ | ((with_reducible refine SL.p ?_); first | refine ⟨_, rfl, ?_⟩ | refine ⟨_, _, _, rfl, ?_⟩ | (refine ⟨?_, rfl, ?_⟩; focus (simp; done))) | ((with_reducible first | apply i_ldn | apply i_ldnq); exact rfl; exact rfl; exact rfl) | ((try with_reducible refine d_reg ?_); simp only [go_sem, Nat.reduceAdd, Nat.reduceEqDiff, Int.reduceToNat, Nat.reduceMul, Nat.reduceSub]) | clear hK K)
    (with_reducible first | apply i_ret0 | apply i_ret2 | apply i_ret3 | apply i_ret); exact rfl
    rfl
  refine i_clq (f115 q r _ 138 #[.pointer (some ⟨b, 0, none⟩)] _ (by kernel_rfl) H) ?_
  repeat' ((fail_if_success with_reducible refine nph ?_); first | (with_reducible first | (refine d_seq ?_; intro K hK) | (refine hK _ _ ?_; clear hK K) | (refine SG.p ?_; try intro b)) | ((with_reducible refine SC.p ?_); refine And.intro ?_ ?_) <;> intro hc <;> try simp only [push_cast, Int.reduceEq, Int.reduceLT, Int.reduceLE, Int.reduceNe] at hc | with_reducible refine r_rq (by first | decide | omega) ?_ | ((with_reducible refine SL.p ?_); first | refine ⟨_, rfl, ?_⟩ | refine ⟨_, _, _, rfl, ?_⟩ | (refine ⟨?_, rfl, ?_⟩; focus (simp; done))) | ((with_reducible first | apply i_ldn | apply i_ldnq); exact rfl; exact rfl; exact rfl) | ((try with_reducible refine d_reg ?_); simp only [go_sem, Nat.reduceAdd, Nat.reduceEqDiff, Int.reduceToNat, Nat.reduceMul, Nat.reduceSub]) | clear hK K)
  (with_reducible first | apply i_ret0 | apply i_ret2 | apply i_ret3 | apply i_ret); exact rfl
theorem f96 (q : Nat) (r : Wt) : Fp (eT2 eS eI) Tryz.prog 108 #[.pointer (some ⟨q, 0, none⟩)] [wr q r] r := fun L => by
  refine c108_fn rfl rfl ?_
  repeat' (first | (with_reducible first | (refine d_seq ?_; intro K hK) | (refine hK _ _ ?_; clear hK K) | (refine SG.p ?_; try intro b)) | ((with_reducible refine SC.p ?_); refine And.intro ?_ ?_) <;> intro hc <;> try simp only [push_cast, Int.reduceEq, Int.reduceLT, Int.reduceLE, Int.reduceNe] at hc | with_reducible refine r_rq (by first | decide | omega) ?_ | ((with_reducible refine SL.p ?_); first | refine ⟨_, rfl, ?_⟩ | refine ⟨_, _, _, rfl, ?_⟩ | (refine ⟨?_, rfl, ?_⟩; focus (simp; done))) | ((with_reducible first | apply i_ldn | apply i_ldnq); exact rfl; exact rfl; exact rfl) | ((try with_reducible refine d_reg ?_); simp only [go_sem, Nat.reduceAdd, Nat.reduceEqDiff, Int.reduceToNat, Nat.reduceMul, Nat.reduceSub]) | clear hK K)
  (with_reducible first | apply i_ret0 | apply i_ret2 | apply i_ret3 | apply i_ret); exact rfl
  rfl
end Go.Sp
/- What each region of the Go functions does. Written by my own generator. -/
namespace Go.Sp
open Go
set_option maxRecDepth 100000
set_option linter.unusedVariables false
open Go.Proofs
/-! gharry.sum.Seal -/
noncomputable def c74 : Cfg := { P := Tryz.prog, n := 14, T := TT, body := (Tryz.f74.body).getD .skip, res := Tryz.f74.results.toList, li := lk [] [(0, [0]), (1, [0]), (2, [0, 3])], lo := lk [] [(0, [0]), (1, [0, 3]), (2, [2]), (1000000, [2])], ord := lk (false, []) [] }
@[go_sem] theorem c74_i0 : c74.li 0 = [0] := rfl
@[go_sem] theorem c74_i1 : c74.li 1 = [0] := rfl
@[go_sem] theorem c74_i2 : c74.li 2 = [0, 3] := rfl
@[go_sem] theorem c74_r0 (s0 : List UInt8) (K : Env → W) : RP c74 0 [(0, str s0)] K =
    (K [(0, str s0)]) := by kernel_rfl
@[go_sem] theorem c74_r1 (s0 : List UInt8) (K : Env → W) : RP c74 1 [(0, str s0)] K =
    (cal eI Tryz.prog 111 #[str s0] fun (y1_ : Int) => (cal (eT2 eS eI) Tryz.prog 73 #[str (([] : List UInt8)), .int .i64 y1_, .int .i64 (4 : Int)] fun (y2_ : ((List UInt8) × Int)) => (K [(0, str s0), (3, str y2_.1)]))) := by kernel_rfl
@[go_sem] theorem c74_r2 (s0 : List UInt8) (out3 : List UInt8) (K : Env → W) : RP c74 2 [(0, str s0), (3, str out3)] K =
    (rq (((out3).length : Int) + ((s0).length : Int) ≤ 9223372036854775807) (K [(2, str ((out3 ++ s0)))])) := by kernel_rfl
@[go_sem] theorem c74_o : c74.lo 1000000 = [2] := rfl
@[go_sem] theorem c74_e (t2 : List UInt8) (k : Value → W) : RTp c74 [(2, str t2)] k = (k (str t2)) := by kernel_rfl
theorem c74_ok : (c74.P.follows .mixedOrders && okc c74 c74.body) = true := by kernel_rfl
theorem c74_fn {e : Enc} {args : Array Value} {G : e.α → W} {L : List HP} {ρ : Env} (hρ : envA 0 args.toList = ρ) (hs : Nat.ble args.size 14 = true) (h : E L (D c74 (.seq (.reg 0) (.seq (.reg 1) (.seq (.reg 2) (.ret)))) (fnQ c74 e G) ρ)) : E L (cal e Tryz.prog 74 args G) :=
  d_fn (c := c74) Tryz.func74 (by kernel_rfl) (by kernel_rfl) (by kernel_rfl) c74_ok (by kernel_rfl) (by kernel_rfl) hρ hs h
/-! gharry.sum.Open -/
noncomputable def c86 : Cfg := { P := Tryz.prog, n := 18, T := TT, body := (Tryz.f86.body).getD .skip, res := Tryz.f86.results.toList, li := lk [] [(0, [0]), (1, [0]), (2, []), (3, [0]), (4, [0, 4]), (5, []), (6, [0])], lo := lk [] [(0, [0]), (1, [0, 7]), (2, [2, 3]), (3, [0, 4]), (4, [0, 15]), (5, [2, 3]), (6, [2, 3]), (1000000, [2, 3])], ord := lk (false, []) [] }
@[go_sem] theorem c86_i0 : c86.li 0 = [0] := rfl
@[go_sem] theorem c86_i1 : c86.li 1 = [0] := rfl
@[go_sem] theorem c86_i2 : c86.li 2 = [] := rfl
@[go_sem] theorem c86_i3 : c86.li 3 = [0] := rfl
@[go_sem] theorem c86_i4 : c86.li 4 = [0, 4] := rfl
@[go_sem] theorem c86_i5 : c86.li 5 = [] := rfl
@[go_sem] theorem c86_i6 : c86.li 6 = [0] := rfl
@[go_sem] theorem c86_r0 (s0 : List UInt8) (K : Env → W) : RP c86 0 [(0, str s0)] K =
    (K [(0, str s0)]) := by kernel_rfl
@[go_sem] theorem c86_r1 (s0 : List UInt8) (K : Env → W) : RP c86 1 [(0, str s0)] K =
    (K [(0, str s0), (7, .bool ((decide (((s0).length : Int) < (4 : Int)))))]) := by kernel_rfl
@[go_sem] theorem c86_r2 (K : Env → W) : RP c86 2 [] K =
    (K [(2, str (([] : List UInt8))), (3, .int .i64 (2 : Int))]) := by kernel_rfl
@[go_sem] theorem c86_r3 (s0 : List UInt8) (K : Env → W) : RP c86 3 [(0, str s0)] K =
    (cal eP Tryz.prog 84 #[str s0] fun (y1_ : Option Addr) => (cal eI Tryz.prog 85 #[.pointer y1_, .int .i64 (4 : Int)] fun (y2_ : Int) => (K [(0, str s0), (4, .int .i64 y2_)]))) := by kernel_rfl
@[go_sem] theorem c86_r4 (s0 : List UInt8) (n4 : Int) (K : Env → W) : RP c86 4 [(0, str s0), (4, .int .i64 n4)] K =
    (rq (0 ≤ ((4 : Int) : Int) ∧ (4 : Int) ≤ ((s0).length : Int) ∧ ((s0).length : Int) ≤ ((s0).length : Int)) (cal eI Tryz.prog 111 #[str ((ss s0 (4 : Int) (((s0).length : Int))))] fun (y1_ : Int) => (K [(0, str s0), (15, .bool ((n4 != y1_)))]))) := by kernel_rfl
@[go_sem] theorem c86_r5 (K : Env → W) : RP c86 5 [] K =
    (K [(2, str (([] : List UInt8))), (3, .int .i64 (5 : Int))]) := by kernel_rfl
@[go_sem] theorem c86_r6 (s0 : List UInt8) (K : Env → W) : RP c86 6 [(0, str s0)] K =
    (rq (0 ≤ ((4 : Int) : Int) ∧ (4 : Int) ≤ ((s0).length : Int) ∧ ((s0).length : Int) ≤ ((s0).length : Int)) (K [(2, str ((ss s0 (4 : Int) (((s0).length : Int))))), (3, .int .i64 (0 : Int))])) := by kernel_rfl
@[go_sem] theorem c86_o : c86.lo 1000000 = [2, 3] := rfl
@[go_sem] theorem c86_e (t2 : List UInt8) (t3 : Int) (k : Value → W) : RTp c86 [(2, str t2), (3, .int .i64 t3)] k = (k (.tuple #[str t2, .int .i64 t3])) := by kernel_rfl
theorem c86_ok : (c86.P.follows .mixedOrders && okc c86 c86.body) = true := by kernel_rfl
theorem c86_fn {e : Enc} {args : Array Value} {G : e.α → W} {L : List HP} {ρ : Env} (hρ : envA 0 args.toList = ρ) (hs : Nat.ble args.size 18 = true) (h : E L (D c86 (.seq (.reg 0) (.seq (.seq (.reg 1) (.cond (.tmp 7) (.seq (.reg 2) (.ret)) (.skip))) (.seq (.reg 3) (.seq (.seq (.reg 4) (.cond (.tmp 15) (.seq (.reg 5) (.ret)) (.skip))) (.seq (.reg 6) (.ret)))))) (fnQ c86 e G) ρ)) : E L (cal e Tryz.prog 86 args G) :=
  d_fn (c := c86) Tryz.func86 (by kernel_rfl) (by kernel_rfl) (by kernel_rfl) c86_ok (by kernel_rfl) (by kernel_rfl) hρ hs h
/-! gharry.sum.Sum -/
noncomputable def c111 : Cfg := { P := Tryz.prog, n := 7, T := TT, body := (Tryz.f111.body).getD .skip, res := Tryz.f111.results.toList, li := lk [] [(0, [0]), (1, [0])], lo := lk [] [(0, [0]), (1, [2]), (1000000, [2])], ord := lk (false, []) [] }
@[go_sem] theorem c111_i0 : c111.li 0 = [0] := rfl
@[go_sem] theorem c111_i1 : c111.li 1 = [0] := rfl
@[go_sem] theorem c111_r0 (s0 : List UInt8) (K : Env → W) : RP c111 0 [(0, str s0)] K =
    (K [(0, str s0)]) := by kernel_rfl
@[go_sem] theorem c111_r1 (s0 : List UInt8) (K : Env → W) : RP c111 1 [(0, str s0)] K =
    (cal eU32 Tryz.prog 128 #[.int .u32 (4294967295 : Int), str s0] fun (y1_ : Int) => (K [(2, .int .i64 ((IntKind.wrap .i64 ((bits .xor .u32 y1_ (4294967295 : Int))))))])) := by kernel_rfl
@[go_sem] theorem c111_o : c111.lo 1000000 = [2] := rfl
@[go_sem] theorem c111_e (t2 : Int) (k : Value → W) : RTp c111 [(2, .int .i64 t2)] k = (k (.int .i64 t2)) := by kernel_rfl
theorem c111_ok : (c111.P.follows .mixedOrders && okc c111 c111.body) = true := by kernel_rfl
theorem c111_fn {e : Enc} {args : Array Value} {G : e.α → W} {L : List HP} {ρ : Env} (hρ : envA 0 args.toList = ρ) (hs : Nat.ble args.size 7 = true) (h : E L (D c111 (.seq (.reg 0) (.seq (.reg 1) (.ret))) (fnQ c111 e G) ρ)) : E L (cal e Tryz.prog 111 args G) :=
  d_fn (c := c111) Tryz.func111 (by kernel_rfl) (by kernel_rfl) (by kernel_rfl) c111_ok (by kernel_rfl) (by kernel_rfl) hρ hs h
/-! gharry.sum.run -/
noncomputable def c128 : Cfg := { P := Tryz.prog, n := 35, T := TT, body := (Tryz.f128.body).getD .skip, res := Tryz.f128.results.toList, li := lk [] [(0, [0, 1]), (1, [0, 1]), (2, [0, 1, 5]), (3, [0, 1, 5, 9, 10]), (4, [0, 1, 5, 9, 10]), (5, [0, 1, 5, 6, 9, 10]), (6, [0, 1, 5, 9, 10]), (7, [0, 1, 5, 9, 10]), (8, [0, 1, 5, 9, 10]), (9, [0])], lo := lk [] [(0, [0, 1]), (1, [0, 1, 5]), (2, [0, 1, 5, 9, 10]), (3, [0, 1, 5, 9, 10, 11]), (4, [0, 1, 5, 6, 9, 10]), (5, [0, 1, 5, 9, 10]), (6, [0, 1, 5, 9, 10]), (7, [0, 1, 5, 9, 10]), (8, [0, 1, 5, 9, 10]), (9, [4]), (1000000, [4])], ord := lk (false, []) [] }
@[go_sem] theorem c128_i0 : c128.li 0 = [0, 1] := rfl
@[go_sem] theorem c128_i1 : c128.li 1 = [0, 1] := rfl
@[go_sem] theorem c128_i2 : c128.li 2 = [0, 1, 5] := rfl
@[go_sem] theorem c128_i3 : c128.li 3 = [0, 1, 5, 9, 10] := rfl
@[go_sem] theorem c128_i4 : c128.li 4 = [0, 1, 5, 9, 10] := rfl
@[go_sem] theorem c128_i5 : c128.li 5 = [0, 1, 5, 6, 9, 10] := rfl
@[go_sem] theorem c128_i6 : c128.li 6 = [0, 1, 5, 9, 10] := rfl
@[go_sem] theorem c128_i7 : c128.li 7 = [0, 1, 5, 9, 10] := rfl
@[go_sem] theorem c128_i8 : c128.li 8 = [0, 1, 5, 9, 10] := rfl
@[go_sem] theorem c128_i9 : c128.li 9 = [0] := rfl
@[go_sem] theorem c128_r0 (c0 : Int) (s1 : List UInt8) (K : Env → W) : RP c128 0 [(0, .int .u32 c0), (1, str s1)] K =
    (K [(0, .int .u32 c0), (1, str s1)]) := by kernel_rfl
@[go_sem] theorem c128_r1 (c0 : Int) (s1 : List UInt8) (K : Env → W) : RP c128 1 [(0, .int .u32 c0), (1, str s1)] K =
    (cal (eA eU32) Tryz.prog 140 #[] fun (y1_ : List (Int)) => (nwc (((List.replicate 16 (0 : Int))).map eU32.enc).toArray 184 fun y2_ => (if (List.toArray ((y1_).map eU32.enc)).size = 16 then (stl ((y1_).map eU32.enc) y2_ 0 (K [(0, .int .u32 c0), (1, str s1), (5, .pointer (some y2_))])) else ff))) := by kernel_rfl
@[go_sem] theorem c128_r2 (c0 : Int) (s1 : List UInt8) (t5 : Addr) (K : Env → W) : RP c128 2 [(0, .int .u32 c0), (1, str s1), (5, .pointer (some t5))] K =
    (K [(0, .int .u32 c0), (1, str s1), (5, .pointer (some t5)), (9, .int .i64 (((s1).length : Int))), (10, .int .i64 (0 : Int))]) := by kernel_rfl
@[go_sem] theorem c128_r3 (c0 : Int) (s1 : List UInt8) (t5 : Addr) (t9 : Int) (t10 : Int) (K : Env → W) : RP c128 3 [(0, .int .u32 c0), (1, str s1), (5, .pointer (some t5)), (9, .int .i64 t9), (10, .int .i64 t10)] K =
    (K [(0, .int .u32 c0), (1, str s1), (5, .pointer (some t5)), (9, .int .i64 t9), (10, .int .i64 t10), (11, .bool ((decide (t10 < t9))))]) := by kernel_rfl
@[go_sem] theorem c128_r4 (c0 : Int) (s1 : List UInt8) (t5 : Addr) (t9 : Int) (t10 : Int) (K : Env → W) : RP c128 4 [(0, .int .u32 c0), (1, str s1), (5, .pointer (some t5)), (9, .int .i64 t9), (10, .int .i64 t10)] K =
    (K [(0, .int .u32 c0), (1, str s1), (5, .pointer (some t5)), (6, .int .i64 t10), (9, .int .i64 t9), (10, .int .i64 t10)]) := by kernel_rfl
@[go_sem] theorem c128_r5 (c0 : Int) (s1 : List UInt8) (t5 : Addr) (i6 : Int) (t9 : Int) (t10 : Int) (K : Env → W) : RP c128 5 [(0, .int .u32 c0), (1, str s1), (5, .pointer (some t5)), (6, .int .i64 i6), (9, .int .i64 t9), (10, .int .i64 t10)] K =
    (rq (0 ≤ i6 ∧ i6 < ((s1).length : Int)) (K [(0, .int .u32 ((bits .xor .u32 c0 ((IntKind.wrap .u32 ((bt s1 ((i6).toNat) : Int))))))), (1, str s1), (5, .pointer (some t5)), (9, .int .i64 t9), (10, .int .i64 t10)])) := by kernel_rfl
@[go_sem] theorem c128_r6 (c0 : Int) (s1 : List UInt8) (t5 : Addr) (t9 : Int) (t10 : Int) (K : Env → W) : RP c128 6 [(0, .int .u32 c0), (1, str s1), (5, .pointer (some t5)), (9, .int .i64 t9), (10, .int .i64 t10)] K =
    (rq (0 ≤ (4 : Int)) (rq (0 ≤ (bits .and .u32 c0 (15 : Int)) ∧ (bits .and .u32 c0 (15 : Int)) < ((16 : Nat) : Int)) (ld eU32 ((Addr.add t5 (((bits .and .u32 c0 (15 : Int))).toNat * 1))) fun (y1_ : Int) => (K [(0, .int .u32 ((bits .xor .u32 (((c0).fdiv (2 ^ (min (4 : Int).toNat 32)))) y1_))), (1, str s1), (5, .pointer (some t5)), (9, .int .i64 t9), (10, .int .i64 t10)])))) := by kernel_rfl
@[go_sem] theorem c128_r7 (c0 : Int) (s1 : List UInt8) (t5 : Addr) (t9 : Int) (t10 : Int) (K : Env → W) : RP c128 7 [(0, .int .u32 c0), (1, str s1), (5, .pointer (some t5)), (9, .int .i64 t9), (10, .int .i64 t10)] K =
    (rq (0 ≤ (4 : Int)) (rq (0 ≤ (bits .and .u32 c0 (15 : Int)) ∧ (bits .and .u32 c0 (15 : Int)) < ((16 : Nat) : Int)) (ld eU32 ((Addr.add t5 (((bits .and .u32 c0 (15 : Int))).toNat * 1))) fun (y1_ : Int) => (K [(0, .int .u32 ((bits .xor .u32 (((c0).fdiv (2 ^ (min (4 : Int).toNat 32)))) y1_))), (1, str s1), (5, .pointer (some t5)), (9, .int .i64 t9), (10, .int .i64 t10)])))) := by kernel_rfl
@[go_sem] theorem c128_r8 (c0 : Int) (s1 : List UInt8) (t5 : Addr) (t9 : Int) (t10 : Int) (K : Env → W) : RP c128 8 [(0, .int .u32 c0), (1, str s1), (5, .pointer (some t5)), (9, .int .i64 t9), (10, .int .i64 t10)] K =
    (K [(0, .int .u32 c0), (1, str s1), (5, .pointer (some t5)), (9, .int .i64 t9), (10, .int .i64 ((IntKind.wrap .i64 (t10 + (1 : Int)))))]) := by kernel_rfl
@[go_sem] theorem c128_r9 (c0 : Int) (K : Env → W) : RP c128 9 [(0, .int .u32 c0)] K =
    (K [(4, .int .u32 c0)]) := by kernel_rfl
@[go_sem] theorem c128_o : c128.lo 1000000 = [4] := rfl
@[go_sem] theorem c128_e (t4 : Int) (k : Value → W) : RTp c128 [(4, .int .u32 t4)] k = (k (.int .u32 t4)) := by kernel_rfl
theorem c128_ok : (c128.P.follows .mixedOrders && okc c128 c128.body) = true := by kernel_rfl
theorem c128_fn {e : Enc} {args : Array Value} {G : e.α → W} {L : List HP} {ρ : Env} (hρ : envA 0 args.toList = ρ) (hs : Nat.ble args.size 35 = true) (h : E L (D c128 (.seq (.reg 0) (.seq (.reg 1) (.seq (.seq (.reg 2) (.block 0 (.loop (.seq (.reg 3) (.seq (.cond (.tmp 11) (.skip) (.exit 0)) (.seq (.block 1 (.seq (.reg 4) (.seq (.reg 5) (.seq (.reg 6) (.reg 7))))) (.reg 8))))))) (.seq (.reg 9) (.ret))))) (fnQ c128 e G) ρ)) : E L (cal e Tryz.prog 128 args G) :=
  d_fn (c := c128) Tryz.func128 (by kernel_rfl) (by kernel_rfl) (by kernel_rfl) c128_ok (by kernel_rfl) (by kernel_rfl) hρ hs h
-- loop (first region 3): live slots 0:c0 1:s1 5:t5 9:t9 10:t10, of which it writes [0, 10]
/-! gharry.sum.table -/
noncomputable def c140 : Cfg := { P := Tryz.prog, n := 13, T := TT, body := (Tryz.f140.body).getD .skip, res := Tryz.f140.results.toList, li := lk [] [(0, []), (1, [0]), (2, [0, 1]), (3, [0, 1, 3]), (4, [0, 1, 3]), (5, [0, 1, 2, 3]), (6, [0, 1, 3]), (7, [0, 1])], lo := lk [] [(0, [0]), (1, [0, 1]), (2, [0, 1, 3]), (3, [0, 1, 3, 4]), (4, [0, 1, 2, 3]), (5, [0, 1, 3]), (6, [0, 1, 3]), (7, [0]), (1000000, [0])], ord := lk (false, []) [] }
@[go_sem] theorem c140_i0 : c140.li 0 = [] := rfl
@[go_sem] theorem c140_i1 : c140.li 1 = [0] := rfl
@[go_sem] theorem c140_i2 : c140.li 2 = [0, 1] := rfl
@[go_sem] theorem c140_i3 : c140.li 3 = [0, 1, 3] := rfl
@[go_sem] theorem c140_i4 : c140.li 4 = [0, 1, 3] := rfl
@[go_sem] theorem c140_i5 : c140.li 5 = [0, 1, 2, 3] := rfl
@[go_sem] theorem c140_i6 : c140.li 6 = [0, 1, 3] := rfl
@[go_sem] theorem c140_i7 : c140.li 7 = [0, 1] := rfl
@[go_sem] theorem c140_r0 (K : Env → W) : RP c140 0 [] K =
    (nwc (((List.replicate 16 (0 : Int))).map eU32.enc).toArray 184 fun y1_ => (K [(0, .pointer (some y1_))])) := by kernel_rfl
@[go_sem] theorem c140_r1 (t0 : Addr) (K : Env → W) : RP c140 1 [(0, .pointer (some t0))] K =
    (nwc (((List.replicate 16 (0 : Int))).map eU32.enc).toArray 184 fun y1_ => (K [(0, .pointer (some t0)), (1, .pointer (some y1_))])) := by kernel_rfl
@[go_sem] theorem c140_r2 (t0 : Addr) (t1 : Addr) (K : Env → W) : RP c140 2 [(0, .pointer (some t0)), (1, .pointer (some t1))] K =
    (K [(0, .pointer (some t0)), (1, .pointer (some t1)), (3, .int .i64 (0 : Int))]) := by kernel_rfl
@[go_sem] theorem c140_r3 (t0 : Addr) (t1 : Addr) (t3 : Int) (K : Env → W) : RP c140 3 [(0, .pointer (some t0)), (1, .pointer (some t1)), (3, .int .i64 t3)] K =
    (K [(0, .pointer (some t0)), (1, .pointer (some t1)), (3, .int .i64 t3), (4, .bool ((decide (t3 < (16 : Int)))))]) := by kernel_rfl
@[go_sem] theorem c140_r4 (t0 : Addr) (t1 : Addr) (t3 : Int) (K : Env → W) : RP c140 4 [(0, .pointer (some t0)), (1, .pointer (some t1)), (3, .int .i64 t3)] K =
    (K [(0, .pointer (some t0)), (1, .pointer (some t1)), (2, .int .i64 t3), (3, .int .i64 t3)]) := by kernel_rfl
@[go_sem] theorem c140_r5 (t0 : Addr) (t1 : Addr) (i2 : Int) (t3 : Int) (K : Env → W) : RP c140 5 [(0, .pointer (some t0)), (1, .pointer (some t1)), (2, .int .i64 i2), (3, .int .i64 t3)] K =
    (cal eU32 Tryz.prog 147 #[.int .u32 ((IntKind.wrap .u32 i2))] fun (y1_ : Int) => (rq (0 ≤ i2 ∧ i2 < ((16 : Nat) : Int)) (st ((Addr.add t1 ((i2).toNat * 1))) (.int .u32 y1_) (K [(0, .pointer (some t0)), (1, .pointer (some t1)), (3, .int .i64 t3)])))) := by kernel_rfl
@[go_sem] theorem c140_r6 (t0 : Addr) (t1 : Addr) (t3 : Int) (K : Env → W) : RP c140 6 [(0, .pointer (some t0)), (1, .pointer (some t1)), (3, .int .i64 t3)] K =
    (K [(0, .pointer (some t0)), (1, .pointer (some t1)), (3, .int .i64 ((IntKind.wrap .i64 (t3 + (1 : Int)))))]) := by kernel_rfl
@[go_sem] theorem c140_r7 (t0 : Addr) (t1 : Addr) (K : Env → W) : RP c140 7 [(0, .pointer (some t0)), (1, .pointer (some t1))] K =
    (ldn (eA eU32) 16 t1 fun (y1_ : List (Int)) => (if (List.toArray ((y1_).map eU32.enc)).size = 16 then (stl ((y1_).map eU32.enc) t0 0 (K [(0, .pointer (some t0))])) else ff)) := by kernel_rfl
@[go_sem] theorem c140_o : c140.lo 1000000 = [0] := rfl
@[go_sem] theorem c140_e (t0 : Addr) (k : Value → W) : RTp c140 [(0, .pointer (some t0))] k = (ldn (eA eU32) 16 t0 fun (y1_ : List (Int)) => (k ((eA eU32).enc y1_))) := by kernel_rfl
theorem c140_ok : (c140.P.follows .mixedOrders && okc c140 c140.body) = true := by kernel_rfl
theorem c140_fn {e : Enc} {args : Array Value} {G : e.α → W} {L : List HP} {ρ : Env} (hρ : envA 0 args.toList = ρ) (hs : Nat.ble args.size 13 = true) (h : E L (D c140 (.seq (.reg 0) (.seq (.reg 1) (.seq (.seq (.reg 2) (.block 0 (.loop (.seq (.reg 3) (.seq (.cond (.tmp 4) (.skip) (.exit 0)) (.seq (.block 1 (.seq (.reg 4) (.reg 5))) (.reg 6))))))) (.seq (.reg 7) (.ret))))) (fnQ c140 e G) ρ)) : E L (cal e Tryz.prog 140 args G) :=
  d_fn (c := c140) Tryz.func140 (by kernel_rfl) (by kernel_rfl) (by kernel_rfl) c140_ok (by kernel_rfl) (by kernel_rfl) hρ hs h
-- loop (first region 3): live slots 0:t0 1:t1 3:t3, of which it writes [3]
/-! gharry.sum.half -/
noncomputable def c147 : Cfg := { P := Tryz.prog, n := 15, T := TT, body := (Tryz.f147.body).getD .skip, res := Tryz.f147.results.toList, li := lk [] [(0, [0]), (1, [0]), (2, [0, 3]), (3, [0, 3]), (4, [0, 3]), (5, [0, 3]), (6, [0, 3]), (7, [0])], lo := lk [] [(0, [0]), (1, [0, 3]), (2, [0, 3, 4]), (3, [0, 3, 7]), (4, [0, 3]), (5, [0, 3]), (6, [0, 3]), (7, [2]), (1000000, [2])], ord := lk (false, []) [] }
@[go_sem] theorem c147_i0 : c147.li 0 = [0] := rfl
@[go_sem] theorem c147_i1 : c147.li 1 = [0] := rfl
@[go_sem] theorem c147_i2 : c147.li 2 = [0, 3] := rfl
@[go_sem] theorem c147_i3 : c147.li 3 = [0, 3] := rfl
@[go_sem] theorem c147_i4 : c147.li 4 = [0, 3] := rfl
@[go_sem] theorem c147_i5 : c147.li 5 = [0, 3] := rfl
@[go_sem] theorem c147_i6 : c147.li 6 = [0, 3] := rfl
@[go_sem] theorem c147_i7 : c147.li 7 = [0] := rfl
@[go_sem] theorem c147_r0 (c0 : Int) (K : Env → W) : RP c147 0 [(0, .int .u32 c0)] K =
    (K [(0, .int .u32 c0)]) := by kernel_rfl
@[go_sem] theorem c147_r1 (c0 : Int) (K : Env → W) : RP c147 1 [(0, .int .u32 c0)] K =
    (K [(0, .int .u32 c0), (3, .int .i64 (0 : Int))]) := by kernel_rfl
@[go_sem] theorem c147_r2 (c0 : Int) (t3 : Int) (K : Env → W) : RP c147 2 [(0, .int .u32 c0), (3, .int .i64 t3)] K =
    (K [(0, .int .u32 c0), (3, .int .i64 t3), (4, .bool ((decide (t3 < (4 : Int)))))]) := by kernel_rfl
@[go_sem] theorem c147_r3 (c0 : Int) (t3 : Int) (K : Env → W) : RP c147 3 [(0, .int .u32 c0), (3, .int .i64 t3)] K =
    (K [(0, .int .u32 c0), (3, .int .i64 t3), (7, .bool (((bits .and .u32 c0 (1 : Int)) == (1 : Int))))]) := by kernel_rfl
@[go_sem] theorem c147_r4 (c0 : Int) (t3 : Int) (K : Env → W) : RP c147 4 [(0, .int .u32 c0), (3, .int .i64 t3)] K =
    (rq (0 ≤ (1 : Int)) (K [(0, .int .u32 ((bits .xor .u32 (((c0).fdiv (2 ^ (min (1 : Int).toNat 32)))) (2197175160 : Int)))), (3, .int .i64 t3)])) := by kernel_rfl
@[go_sem] theorem c147_r5 (c0 : Int) (t3 : Int) (K : Env → W) : RP c147 5 [(0, .int .u32 c0), (3, .int .i64 t3)] K =
    (rq (0 ≤ (1 : Int)) (K [(0, .int .u32 (((c0).fdiv (2 ^ (min (1 : Int).toNat 32))))), (3, .int .i64 t3)])) := by kernel_rfl
@[go_sem] theorem c147_r6 (c0 : Int) (t3 : Int) (K : Env → W) : RP c147 6 [(0, .int .u32 c0), (3, .int .i64 t3)] K =
    (K [(0, .int .u32 c0), (3, .int .i64 ((IntKind.wrap .i64 (t3 + (1 : Int)))))]) := by kernel_rfl
@[go_sem] theorem c147_r7 (c0 : Int) (K : Env → W) : RP c147 7 [(0, .int .u32 c0)] K =
    (K [(2, .int .u32 c0)]) := by kernel_rfl
@[go_sem] theorem c147_o : c147.lo 1000000 = [2] := rfl
@[go_sem] theorem c147_e (t2 : Int) (k : Value → W) : RTp c147 [(2, .int .u32 t2)] k = (k (.int .u32 t2)) := by kernel_rfl
theorem c147_ok : (c147.P.follows .mixedOrders && okc c147 c147.body) = true := by kernel_rfl
theorem c147_fn {e : Enc} {args : Array Value} {G : e.α → W} {L : List HP} {ρ : Env} (hρ : envA 0 args.toList = ρ) (hs : Nat.ble args.size 15 = true) (h : E L (D c147 (.seq (.reg 0) (.seq (.seq (.reg 1) (.block 0 (.loop (.seq (.reg 2) (.seq (.cond (.tmp 4) (.skip) (.exit 0)) (.seq (.block 1 (.seq (.reg 3) (.cond (.tmp 7) (.reg 4) (.reg 5)))) (.reg 6))))))) (.seq (.reg 7) (.ret)))) (fnQ c147 e G) ρ)) : E L (cal e Tryz.prog 147 args G) :=
  d_fn (c := c147) Tryz.func147 (by kernel_rfl) (by kernel_rfl) (by kernel_rfl) c147_ok (by kernel_rfl) (by kernel_rfl) hρ hs h
-- loop (first region 2): live slots 0:c0 3:t3, of which it writes [0, 3]
end Go.Sp
/- Sums: a register goes over a text. -/
namespace Go.Sp
open Go Go.Proofs
set_option linter.unusedSimpArgs false
set_option linter.unusedVariables false
set_option maxRecDepth 10000
def u32 (n : Int) : Prop := 0 ≤ n ∧ n ≤ 4294967295
theorem xor_u32 (a b : Int) : u32 (bits .xor .u32 a b) := by
  unfold bits u32
  simp only [IntKind.wrap_u32]
  omega
theorem and15 {c : Int} (h : u32 c) : bits .and .u32 c 15 = c % 16 := bits_mask .u32 32 (by decide) (fun n h₀ h₁ => by rw [IntKind.wrap_u32]; omega) 4 (by decide) c h.1 (by have := h.2; omega)
def hst (c : Int) : Int := if bits .and .u32 c 1 = 1 then bits .xor .u32 (c.fdiv 2) 2197175160 else c.fdiv 2
def hlf (c : Int) : Nat → Int
  | 0 => c
  | i + 1 => hst (hlf c i)
theorem g147 (c : Int) : Fp eU32 Tryz.prog 147 #[.int .u32 c] [] (hlf c 4) := fun L => by
  refine c147_fn rfl rfl ?_
  repeat' (first | (with_reducible first | (refine d_seq ?_; intro K hK) | (refine hK _ _ ?_; clear hK K) | (refine SG.p ?_; try intro b)) | ((with_reducible refine SC.p ?_); refine And.intro ?_ ?_) <;> intro hc <;> try simp only [push_cast, Int.reduceEq, Int.reduceLT, Int.reduceLE, Int.reduceNe] at hc | with_reducible refine r_rq (by first | decide | omega) ?_ | ((with_reducible refine SL.p ?_); first | refine ⟨_, rfl, ?_⟩ | refine ⟨_, _, _, rfl, ?_⟩ | (refine ⟨?_, rfl, ?_⟩; focus (simp; done))) | ((with_reducible first | apply i_ldn | apply i_ldnq); exact rfl; exact rfl; exact rfl) | ((try with_reducible refine d_reg ?_); simp only [go_sem, Nat.reduceAdd, Nat.reduceEqDiff, Int.reduceToNat, Nat.reduceMul, Nat.reduceSub]) | clear hK K)
  refine d_lp [0, 3] (fun i : Nat => [(0, .int .u32 (hlf c i)), (3, .int .i64 (i : Int))]) (fun _ => L) (fun i => i ≤ 4) (fun i => 4 - i) 0 rfl SX.p (by omega) ?_
  intro i hi
  have T : hlf c (i + 1) = if bits .and .u32 (hlf c i) 1 = 1 then bits .xor .u32 ((hlf c i).fdiv 2) 2197175160 else (hlf c i).fdiv 2 := rfl
  repeat' (first | (with_reducible first | (refine d_seq ?_; intro K hK) | (refine hK _ _ ?_; clear hK K) | (refine SG.p ?_; try intro b)) | ((with_reducible refine SC.p ?_); refine And.intro ?_ ?_) <;> intro hc <;> try simp only [push_cast, Int.reduceEq, Int.reduceLT, Int.reduceLE, Int.reduceNe] at hc | with_reducible refine r_rq (by first | decide | omega) ?_ | ((with_reducible refine SL.p ?_); first | refine ⟨_, rfl, ?_⟩ | refine ⟨_, _, _, rfl, ?_⟩ | (refine ⟨?_, rfl, ?_⟩; focus (simp; done))) | ((with_reducible first | apply i_ldn | apply i_ldnq); exact rfl; exact rfl; exact rfl) | ((try with_reducible refine d_reg ?_); simp only [go_sem, Nat.reduceAdd, Nat.reduceEqDiff, Int.reduceToNat, Nat.reduceMul, Nat.reduceSub]) | clear hK K)
  · rw [if_pos hc] at T
    rw [w64 (by omega) (by omega), show bits BinOp.xor IntKind.u32 ((hlf c i).fdiv (2 ^ min 1 32)) 2197175160 = hlf c (i + 1) from T.symm]
    exact i_bk (i + 1) rfl (by omega) (by omega)
  · rw [if_neg hc] at T
    rw [w64 (by omega) (by omega), show (hlf c i).fdiv (2 ^ min 1 32) = hlf c (i + 1) from T.symm]
    exact i_bk (i + 1) rfl (by omega) (by omega)
  · obtain rfl : i = 4 := by omega
    (with_reducible first | apply i_ret0 | apply i_ret2 | apply i_ret3 | apply i_ret); exact rfl
    rfl
def tbl : List Int := (List.range 16).map fun (i : Nat) => hlf ((i : Nat) : Int) 4
theorem tbl_len : tbl.length = 16 := by simp [tbl]
theorem tbl_get {i : Nat} (h : i < 16) : tbl[i]? = some (hlf (i : Int) 4) := by
  unfold tbl
  rw [List.getElem?_map, List.getElem?_range h]
  rfl
theorem spl_all : ∀ (vs l : List Value) (o : Nat), l.length = o + vs.length → spl l o vs = l.take o ++ vs
  | [], l, o, h => by
    simp only [List.length_nil, Nat.add_zero] at h
    simp only [spl, List.append_nil]
    exact (List.take_of_length_le (by omega)).symm
  | v :: vs, l, o, h => by
    simp only [List.length_cons] at h
    have hl : o < l.length := by omega
    show spl (l.set o v) (o + 1) vs = _
    rw [spl_all vs (l.set o v) (o + 1) (by simp; omega), List.take_succ_eq_append_getElem (by simpa using hl)]
    simp [List.take_set_of_le]
theorem g140 : Fp (eA eU32) Tryz.prog 140 #[] [] tbl := fun L => by
  refine c140_fn rfl rfl ?_
  repeat' (first | (with_reducible first | (refine d_seq ?_; intro K hK) | (refine hK _ _ ?_; clear hK K) | (refine SG.p ?_; try intro b)) | ((with_reducible refine SC.p ?_); refine And.intro ?_ ?_) <;> intro hc <;> try simp only [push_cast, Int.reduceEq, Int.reduceLT, Int.reduceLE, Int.reduceNe] at hc | with_reducible refine r_rq (by first | decide | omega) ?_ | ((with_reducible refine SL.p ?_); first | refine ⟨_, rfl, ?_⟩ | refine ⟨_, _, _, rfl, ?_⟩ | (refine ⟨?_, rfl, ?_⟩; focus (simp; done))) | ((with_reducible first | apply i_ldn | apply i_ldnq); exact rfl; exact rfl; exact rfl) | ((try with_reducible refine d_reg ?_); simp only [go_sem, Nat.reduceAdd, Nat.reduceEqDiff, Int.reduceToNat, Nat.reduceMul, Nat.reduceSub]) | clear hK K)
  rename_i b1
  refine d_lp [0, 1, 3] (fun i : Nat => [(0, .pointer (some ⟨b1, 0, none⟩)), (1, .pointer (some ⟨b, 0, none⟩)), (3, .int .i64 (i : Int))]) (fun i => ar b 184 ((tbl.take i ++ List.replicate (16 - i) 0).map fun n => .int .u32 n) :: ar b1 184 ((List.replicate 16 (0 : Int)).map fun n => .int .u32 n) :: L) (fun i => i ≤ 16) (fun i => 16 - i) 0 rfl ?_ (by omega) ?_
  · have e : tbl.take 0 ++ List.replicate (16 - 0) (0 : Int) = List.replicate 16 0 := by simp
    rw [e]
    exact SX.p
  intro i hi
  repeat' ((fail_if_success with_reducible refine nph ?_); first | (with_reducible first | (refine d_seq ?_; intro K hK) | (refine hK _ _ ?_; clear hK K) | (refine SG.p ?_; try intro b)) | ((with_reducible refine SC.p ?_); refine And.intro ?_ ?_) <;> intro hc <;> try simp only [push_cast, Int.reduceEq, Int.reduceLT, Int.reduceLE, Int.reduceNe] at hc | with_reducible refine r_rq (by first | decide | omega) ?_ | ((with_reducible refine SL.p ?_); first | refine ⟨_, rfl, ?_⟩ | refine ⟨_, _, _, rfl, ?_⟩ | (refine ⟨?_, rfl, ?_⟩; focus (simp; done))) | ((with_reducible first | apply i_ldn | apply i_ldnq); exact rfl; exact rfl; exact rfl) | ((try with_reducible refine d_reg ?_); simp only [go_sem, Nat.reduceAdd, Nat.reduceEqDiff, Int.reduceToNat, Nat.reduceMul, Nat.reduceSub]) | clear hK K)
  · rw [wU32 (by omega) (by omega)]
    refine i_clp (g147 (i : Int)) ?_
    repeat' (first | (with_reducible first | (refine d_seq ?_; intro K hK) | (refine hK _ _ ?_; clear hK K) | (refine SG.p ?_; try intro b)) | ((with_reducible refine SC.p ?_); refine And.intro ?_ ?_) <;> intro hc <;> try simp only [push_cast, Int.reduceEq, Int.reduceLT, Int.reduceLE, Int.reduceNe] at hc | with_reducible refine r_rq (by first | decide | omega) ?_ | ((with_reducible refine SL.p ?_); first | refine ⟨_, rfl, ?_⟩ | refine ⟨_, _, _, rfl, ?_⟩ | (refine ⟨?_, rfl, ?_⟩; focus (simp; done))) | ((with_reducible first | apply i_ldn | apply i_ldnq); exact rfl; exact rfl; exact rfl) | ((try with_reducible refine d_reg ?_); simp only [go_sem, Nat.reduceAdd, Nat.reduceEqDiff, Int.reduceToNat, Nat.reduceMul, Nat.reduceSub]) | clear hK K)
    refine i_st (by have := tbl_len; simp; omega) rfl ?_
    have e : ((tbl.take i ++ List.replicate (16 - i) (0 : Int)).map fun n => Value.int .u32 n).set i (.int .u32 (hlf (i : Int) 4)) = (tbl.take (i + 1) ++ List.replicate (16 - (i + 1)) (0 : Int)).map fun n => Value.int .u32 n := by
      rw [← part_set (by omega) tbl_len (tbl_get (by omega)), List.map_set]
    rw [e]
    repeat' ((fail_if_success with_reducible refine nph ?_); first | (with_reducible first | (refine d_seq ?_; intro K hK) | (refine hK _ _ ?_; clear hK K) | (refine SG.p ?_; try intro b)) | ((with_reducible refine SC.p ?_); refine And.intro ?_ ?_) <;> intro hc <;> try simp only [push_cast, Int.reduceEq, Int.reduceLT, Int.reduceLE, Int.reduceNe] at hc | with_reducible refine r_rq (by first | decide | omega) ?_ | ((with_reducible refine SL.p ?_); first | refine ⟨_, rfl, ?_⟩ | refine ⟨_, _, _, rfl, ?_⟩ | (refine ⟨?_, rfl, ?_⟩; focus (simp; done))) | ((with_reducible first | apply i_ldn | apply i_ldnq); exact rfl; exact rfl; exact rfl) | ((try with_reducible refine d_reg ?_); simp only [go_sem, Nat.reduceAdd, Nat.reduceEqDiff, Int.reduceToNat, Nat.reduceMul, Nat.reduceSub]) | clear hK K)
    rw [w64 (by omega) (by omega)]
    exact i_bk (i + 1) rfl (by omega) (by omega)
  · obtain rfl : i = 16 := by omega
    have e : tbl.take 16 ++ List.replicate (16 - 16) (0 : Int) = tbl := by rw [List.take_of_length_le (by rw [tbl_len]; omega)]; simp
    rw [e]
    have hl := tbl_len
    generalize tbl = t at *
    refine i_ldn (e := eA eU32) (x := t) (by rw [List.drop_zero, List.take_of_length_le (by simp; omega)]) rfl (by simp; omega) ?_
    rw [if_pos (by simp; omega)]
    refine i_stl (by simp; omega) (by simp; exact fun _ _ => rfl) ?_
    rw [spl_all _ _ _ (by simp; omega), List.take_zero, List.nil_append]
    repeat' (first | (with_reducible first | (refine d_seq ?_; intro K hK) | (refine hK _ _ ?_; clear hK K) | (refine SG.p ?_; try intro b)) | ((with_reducible refine SC.p ?_); refine And.intro ?_ ?_) <;> intro hc <;> try simp only [push_cast, Int.reduceEq, Int.reduceLT, Int.reduceLE, Int.reduceNe] at hc | with_reducible refine r_rq (by first | decide | omega) ?_ | ((with_reducible refine SL.p ?_); first | refine ⟨_, rfl, ?_⟩ | refine ⟨_, _, _, rfl, ?_⟩ | (refine ⟨?_, rfl, ?_⟩; focus (simp; done))) | ((with_reducible first | apply i_ldn | apply i_ldnq); exact rfl; exact rfl; exact rfl) | ((try with_reducible refine d_reg ?_); simp only [go_sem, Nat.reduceAdd, Nat.reduceEqDiff, Int.reduceToNat, Nat.reduceMul, Nat.reduceSub]) | clear hK K)
    refine i_ldn (e := eA eU32) (x := t) (by rw [List.drop_zero, List.take_of_length_le (by simp; omega)]) rfl (by simp; omega) ?_
    (with_reducible first | apply i_ret0 | apply i_ret2 | apply i_ret3 | apply i_ret); exact rfl
    rfl
/-- The register behind a byte. -/
def cst (c : Int) : Int := bits .xor .u32 (c.fdiv 16) (tbl.getD (c % 16).toNat 0)
def stp (c : Int) (x : Int) : Int := cst (cst (bits .xor .u32 c x))
def crc (s : List UInt8) : Int := s.foldl (fun c b => stp c (b.toNat : Int)) 4294967295
theorem crc_u32 : ∀ (s : List UInt8) (c : Int), u32 c → u32 (s.foldl (fun c b => stp c (b.toNat : Int)) c)
  | [], _, h => h
  | b :: s, c, _ => crc_u32 s _ (xor_u32 _ _)
theorem crc_take {s : List UInt8} {i : Nat} (h : i < s.length) : crc (s.take (i + 1)) = stp (crc (s.take i)) (bt s i : Int) := by
  unfold crc
  rw [List.take_succ_eq_append_getElem h, List.foldl_append]
  simp [bt, h]
theorem g128 (s : List UInt8) (hs : s.length ≤ 4611686018427387904) : Fp eU32 Tryz.prog 128 #[.int .u32 4294967295, str s] [] (crc s) := fun L => by
  refine c128_fn rfl rfl ?_
  repeat' ((fail_if_success with_reducible refine nph ?_); first | (with_reducible first | (refine d_seq ?_; intro K hK) | (refine hK _ _ ?_; clear hK K) | (refine SG.p ?_; try intro b)) | ((with_reducible refine SC.p ?_); refine And.intro ?_ ?_) <;> intro hc <;> try simp only [push_cast, Int.reduceEq, Int.reduceLT, Int.reduceLE, Int.reduceNe] at hc | with_reducible refine r_rq (by first | decide | omega) ?_ | ((with_reducible refine SL.p ?_); first | refine ⟨_, rfl, ?_⟩ | refine ⟨_, _, _, rfl, ?_⟩ | (refine ⟨?_, rfl, ?_⟩; focus (simp; done))) | ((with_reducible first | apply i_ldn | apply i_ldnq); exact rfl; exact rfl; exact rfl) | ((try with_reducible refine d_reg ?_); simp only [go_sem, Nat.reduceAdd, Nat.reduceEqDiff, Int.reduceToNat, Nat.reduceMul, Nat.reduceSub]) | clear hK K)
  refine i_clp g140 ?_
  have hl := tbl_len
  have hx : ∀ c : Int, u32 c → u32 (cst c) := fun c _ => xor_u32 _ _
  have hm : ∀ {c : Int}, u32 c → (tbl.map fun n => Value.int .u32 n)[(c % 16).toNat]? = some (eU32.enc (tbl.getD (c % 16).toNat 0)) := fun {c} h => by
    have : (c % 16).toNat < tbl.length := by rw [hl]; omega
    simp [this]
  have hcst : ∀ c : Int, bits .xor .u32 (c.fdiv (2 ^ min 4 32)) (tbl.getD (c % 16).toNat 0) = cst c := fun c => rfl
  repeat' ((fail_if_success with_reducible refine nph ?_); first | (with_reducible first | (refine d_seq ?_; intro K hK) | (refine hK _ _ ?_; clear hK K) | (refine SG.p ?_; try intro b)) | ((with_reducible refine SC.p ?_); refine And.intro ?_ ?_) <;> intro hc <;> try simp only [push_cast, Int.reduceEq, Int.reduceLT, Int.reduceLE, Int.reduceNe] at hc | with_reducible refine r_rq (by first | decide | omega) ?_ | ((with_reducible refine SL.p ?_); first | refine ⟨_, rfl, ?_⟩ | refine ⟨_, _, _, rfl, ?_⟩ | (refine ⟨?_, rfl, ?_⟩; focus (simp; done))) | ((with_reducible first | apply i_ldn | apply i_ldnq); exact rfl; exact rfl; exact rfl) | ((try with_reducible refine d_reg ?_); simp only [go_sem, Nat.reduceAdd, Nat.reduceEqDiff, Int.reduceToNat, Nat.reduceMul, Nat.reduceSub]) | clear hK K)
  rw [if_pos (by simp; omega)]
  refine i_stl (by simp; omega) (by simp; exact fun _ _ => rfl) ?_
  rw [spl_all _ _ _ (by simp; omega), List.take_zero, List.nil_append]
  repeat' ((fail_if_success with_reducible refine nph ?_); first | (with_reducible first | (refine d_seq ?_; intro K hK) | (refine hK _ _ ?_; clear hK K) | (refine SG.p ?_; try intro b)) | ((with_reducible refine SC.p ?_); refine And.intro ?_ ?_) <;> intro hc <;> try simp only [push_cast, Int.reduceEq, Int.reduceLT, Int.reduceLE, Int.reduceNe] at hc | with_reducible refine r_rq (by first | decide | omega) ?_ | ((with_reducible refine SL.p ?_); first | refine ⟨_, rfl, ?_⟩ | refine ⟨_, _, _, rfl, ?_⟩ | (refine ⟨?_, rfl, ?_⟩; focus (simp; done))) | ((with_reducible first | apply i_ldn | apply i_ldnq); exact rfl; exact rfl; exact rfl) | ((try with_reducible refine d_reg ?_); simp only [go_sem, Nat.reduceAdd, Nat.reduceEqDiff, Int.reduceToNat, Nat.reduceMul, Nat.reduceSub]) | clear hK K)
  refine d_lp [0, 1, 5, 9, 10] (fun i : Nat => [(0, .int .u32 (crc (s.take i))), (1, str s), (5, .pointer (some ⟨b, 0, none⟩)), (9, .int .i64 (s.length : Int)), (10, .int .i64 (i : Int))]) (fun i => ar b 184 (tbl.map fun n => .int .u32 n) :: L) (fun i => i ≤ s.length) (fun i => s.length - i) 0 rfl SX.p (by omega) ?_
  intro i hi
  have hc0 : u32 (crc (s.take i)) := crc_u32 _ _ (by unfold u32; decide)
  repeat' ((fail_if_success with_reducible refine nph ?_); first | (with_reducible first | (refine d_seq ?_; intro K hK) | (refine hK _ _ ?_; clear hK K) | (refine SG.p ?_; try intro b)) | ((with_reducible refine SC.p ?_); refine And.intro ?_ ?_) <;> intro hc <;> try simp only [push_cast, Int.reduceEq, Int.reduceLT, Int.reduceLE, Int.reduceNe] at hc | with_reducible refine r_rq (by first | decide | omega) ?_ | ((with_reducible refine SL.p ?_); first | refine ⟨_, rfl, ?_⟩ | refine ⟨_, _, _, rfl, ?_⟩ | (refine ⟨?_, rfl, ?_⟩; focus (simp; done))) | ((with_reducible first | apply i_ldn | apply i_ldnq); exact rfl; exact rfl; exact rfl) | ((try with_reducible refine d_reg ?_); simp only [go_sem, Nat.reduceAdd, Nat.reduceEqDiff, Int.reduceToNat, Nat.reduceMul, Nat.reduceSub]) | clear hK K)
  · have hb := bt_lt s i
    have T := crc_take (s := s) (i := i) (by omega)
    unfold stp at T
    rw [wU32 (by omega) (by omega)]
    have hc1 := xor_u32 (crc (s.take i)) (bt s i : Int)
    generalize bits .xor .u32 (crc (s.take i)) (bt s i : Int) = c1 at *
    have hc2 := hx _ hc1
    rw [and15 hc1]
    refine r_rq ⟨by omega, by omega⟩ ?_
    refine i_ld (e := eU32) (hm hc1) ?_
    rw [hcst]
    generalize cst c1 = c2 at *
    repeat' ((fail_if_success with_reducible refine nph ?_); first | (with_reducible first | (refine d_seq ?_; intro K hK) | (refine hK _ _ ?_; clear hK K) | (refine SG.p ?_; try intro b)) | ((with_reducible refine SC.p ?_); refine And.intro ?_ ?_) <;> intro hc <;> try simp only [push_cast, Int.reduceEq, Int.reduceLT, Int.reduceLE, Int.reduceNe] at hc | with_reducible refine r_rq (by first | decide | omega) ?_ | ((with_reducible refine SL.p ?_); first | refine ⟨_, rfl, ?_⟩ | refine ⟨_, _, _, rfl, ?_⟩ | (refine ⟨?_, rfl, ?_⟩; focus (simp; done))) | ((with_reducible first | apply i_ldn | apply i_ldnq); exact rfl; exact rfl; exact rfl) | ((try with_reducible refine d_reg ?_); simp only [go_sem, Nat.reduceAdd, Nat.reduceEqDiff, Int.reduceToNat, Nat.reduceMul, Nat.reduceSub]) | clear hK K)
    rw [and15 hc2]
    refine r_rq ⟨by omega, by omega⟩ ?_
    refine i_ld (e := eU32) (hm hc2) ?_
    rw [hcst, ← T]
    repeat' ((fail_if_success with_reducible refine nph ?_); first | (with_reducible first | (refine d_seq ?_; intro K hK) | (refine hK _ _ ?_; clear hK K) | (refine SG.p ?_; try intro b)) | ((with_reducible refine SC.p ?_); refine And.intro ?_ ?_) <;> intro hc <;> try simp only [push_cast, Int.reduceEq, Int.reduceLT, Int.reduceLE, Int.reduceNe] at hc | with_reducible refine r_rq (by first | decide | omega) ?_ | ((with_reducible refine SL.p ?_); first | refine ⟨_, rfl, ?_⟩ | refine ⟨_, _, _, rfl, ?_⟩ | (refine ⟨?_, rfl, ?_⟩; focus (simp; done))) | ((with_reducible first | apply i_ldn | apply i_ldnq); exact rfl; exact rfl; exact rfl) | ((try with_reducible refine d_reg ?_); simp only [go_sem, Nat.reduceAdd, Nat.reduceEqDiff, Int.reduceToNat, Nat.reduceMul, Nat.reduceSub]) | clear hK K)
    rw [w64 (by omega) (by omega)]
    exact i_bk (i + 1) rfl (by omega) (by omega)
  · obtain rfl : i = s.length := by omega
    rw [List.take_length]
    (with_reducible first | apply i_ret0 | apply i_ret2 | apply i_ret3 | apply i_ret); exact rfl
    rfl
/-- The sum of a text. -/
def sm (s : List UInt8) : Int := bits .xor .u32 (crc s) 4294967295
theorem sm_u32 (s : List UInt8) : u32 (sm s) := xor_u32 _ _
theorem g111 (s : List UInt8) (hs : s.length ≤ 4611686018427387904) : Fp eI Tryz.prog 111 #[str s] [] (sm s) := fun L => by
  refine c111_fn rfl rfl ?_
  have h := sm_u32 s
  unfold sm at h
  repeat' ((fail_if_success with_reducible refine nph ?_); first | (with_reducible first | (refine d_seq ?_; intro K hK) | (refine hK _ _ ?_; clear hK K) | (refine SG.p ?_; try intro b)) | ((with_reducible refine SC.p ?_); refine And.intro ?_ ?_) <;> intro hc <;> try simp only [push_cast, Int.reduceEq, Int.reduceLT, Int.reduceLE, Int.reduceNe] at hc | with_reducible refine r_rq (by first | decide | omega) ?_ | ((with_reducible refine SL.p ?_); first | refine ⟨_, rfl, ?_⟩ | refine ⟨_, _, _, rfl, ?_⟩ | (refine ⟨?_, rfl, ?_⟩; focus (simp; done))) | ((with_reducible first | apply i_ldn | apply i_ldnq); exact rfl; exact rfl; exact rfl) | ((try with_reducible refine d_reg ?_); simp only [go_sem, Nat.reduceAdd, Nat.reduceEqDiff, Int.reduceToNat, Nat.reduceMul, Nat.reduceSub]) | clear hK K)
  refine i_clp (g128 s hs) ?_
  rw [w64 (by have := h.1; omega) (by have := h.2; omega)]
  repeat' ((fail_if_success with_reducible refine nph ?_); first | (with_reducible first | (refine d_seq ?_; intro K hK) | (refine hK _ _ ?_; clear hK K) | (refine SG.p ?_; try intro b)) | ((with_reducible refine SC.p ?_); refine And.intro ?_ ?_) <;> intro hc <;> try simp only [push_cast, Int.reduceEq, Int.reduceLT, Int.reduceLE, Int.reduceNe] at hc | with_reducible refine r_rq (by first | decide | omega) ?_ | ((with_reducible refine SL.p ?_); first | refine ⟨_, rfl, ?_⟩ | refine ⟨_, _, _, rfl, ?_⟩ | (refine ⟨?_, rfl, ?_⟩; focus (simp; done))) | ((with_reducible first | apply i_ldn | apply i_ldnq); exact rfl; exact rfl; exact rfl) | ((try with_reducible refine d_reg ?_); simp only [go_sem, Nat.reduceAdd, Nat.reduceEqDiff, Int.reduceToNat, Nat.reduceMul, Nat.reduceSub]) | clear hK K)
  (with_reducible first | apply i_ret0 | apply i_ret2 | apply i_ret3 | apply i_ret); exact rfl
  rfl
theorem p2564 : ((256 ^ 4 : Nat) : Int) = 4294967296 := by decide
theorem put_sm (s : List UInt8) : putN [] (sm s) 4 = (lowb (sm s) 4, 0) := by
  have h := sm_u32 s
  unfold u32 at h
  unfold putN
  rw [p2564, if_neg (by omega)]
  rfl
theorem g74 (s : List UInt8) (hs : s.length ≤ 4611686018427387900) : Fp eS Tryz.prog 74 #[str s] [] (lowb (sm s) 4 ++ s) := fun L => by
  have F := f97 [] (sm s) 4 (by decide) (by decide) (by decide)
  rw [put_sm] at F
  have hl := lowb_len (sm s) 4
  refine c74_fn rfl rfl ?_
  repeat' ((fail_if_success with_reducible refine nph ?_); first | (with_reducible first | (refine d_seq ?_; intro K hK) | (refine hK _ _ ?_; clear hK K) | (refine SG.p ?_; try intro b)) | ((with_reducible refine SC.p ?_); refine And.intro ?_ ?_) <;> intro hc <;> try simp only [push_cast, Int.reduceEq, Int.reduceLT, Int.reduceLE, Int.reduceNe] at hc | with_reducible refine r_rq (by first | decide | omega) ?_ | ((with_reducible refine SL.p ?_); first | refine ⟨_, rfl, ?_⟩ | refine ⟨_, _, _, rfl, ?_⟩ | (refine ⟨?_, rfl, ?_⟩; focus (simp; done))) | ((with_reducible first | apply i_ldn | apply i_ldnq); exact rfl; exact rfl; exact rfl) | ((try with_reducible refine d_reg ?_); simp only [go_sem, Nat.reduceAdd, Nat.reduceEqDiff, Int.reduceToNat, Nat.reduceMul, Nat.reduceSub]) | clear hK K)
  refine i_clp (g111 s (by omega)) ?_
  refine i_clp F ?_
  repeat' ((fail_if_success with_reducible refine nph ?_); first | (with_reducible first | (refine d_seq ?_; intro K hK) | (refine hK _ _ ?_; clear hK K) | (refine SG.p ?_; try intro b)) | ((with_reducible refine SC.p ?_); refine And.intro ?_ ?_) <;> intro hc <;> try simp only [push_cast, Int.reduceEq, Int.reduceLT, Int.reduceLE, Int.reduceNe] at hc | with_reducible refine r_rq (by first | decide | omega) ?_ | ((with_reducible refine SL.p ?_); first | refine ⟨_, rfl, ?_⟩ | refine ⟨_, _, _, rfl, ?_⟩ | (refine ⟨?_, rfl, ?_⟩; focus (simp; done))) | ((with_reducible first | apply i_ldn | apply i_ldnq); exact rfl; exact rfl; exact rfl) | ((try with_reducible refine d_reg ?_); simp only [go_sem, Nat.reduceAdd, Nat.reduceEqDiff, Int.reduceToNat, Nat.reduceMul, Nat.reduceSub]) | clear hK K)
  (with_reducible first | apply i_ret0 | apply i_ret2 | apply i_ret3 | apply i_ret); exact rfl
  rfl
/-- The text behind its sum. -/
def unsl (s : List UInt8) : List UInt8 × Int := if s.length < 4 then ([], 2) else if (be (s.take 4) : Int) = sm (s.drop 4) then (s.drop 4, 0) else ([], 5)
theorem g86 (s : List UInt8) (hs : s.length ≤ 4611686018427387904) : Fp (eT2 eS eI) Tryz.prog 86 #[str s] [] (unsl s) := fun L => by
  unfold unsl
  refine c86_fn rfl rfl ?_
  by_cases h4 : s.length < 4
  · rw [if_pos h4]
    repeat' ((fail_if_success with_reducible refine nph ?_); first | (with_reducible first | (refine d_seq ?_; intro K hK) | (refine hK _ _ ?_; clear hK K) | (refine SG.p ?_; try intro b)) | ((with_reducible refine SC.p ?_); refine And.intro ?_ ?_) <;> intro hc <;> try simp only [push_cast, Int.reduceEq, Int.reduceLT, Int.reduceLE, Int.reduceNe] at hc | with_reducible refine r_rq (by first | decide | omega) ?_ | ((with_reducible refine SL.p ?_); first | refine ⟨_, rfl, ?_⟩ | refine ⟨_, _, _, rfl, ?_⟩ | (refine ⟨?_, rfl, ?_⟩; focus (simp; done))) | ((with_reducible first | apply i_ldn | apply i_ldnq); exact rfl; exact rfl; exact rfl) | ((try with_reducible refine d_reg ?_); simp only [go_sem, Nat.reduceAdd, Nat.reduceEqDiff, Int.reduceToNat, Nat.reduceMul, Nat.reduceSub]) | clear hK K)
    all_goals try (exfalso; omega)
    (with_reducible first | apply i_ret0 | apply i_ret2 | apply i_ret3 | apply i_ret); exact rfl
    rfl
  · rw [if_neg h4]
    have e : ss s 4 (s.length : Int) = s.drop 4 := by unfold ss; simp
    have F := g111 (s.drop 4) (by rw [List.length_drop]; omega)
    repeat' ((fail_if_success with_reducible refine nph ?_); first | (with_reducible first | (refine d_seq ?_; intro K hK) | (refine hK _ _ ?_; clear hK K) | (refine SG.p ?_; try intro b)) | ((with_reducible refine SC.p ?_); refine And.intro ?_ ?_) <;> intro hc <;> try simp only [push_cast, Int.reduceEq, Int.reduceLT, Int.reduceLE, Int.reduceNe] at hc | with_reducible refine r_rq (by first | decide | omega) ?_ | ((with_reducible refine SL.p ?_); first | refine ⟨_, rfl, ?_⟩ | refine ⟨_, _, _, rfl, ?_⟩ | (refine ⟨?_, rfl, ?_⟩; focus (simp; done))) | ((with_reducible first | apply i_ldn | apply i_ldnq); exact rfl; exact rfl; exact rfl) | ((try with_reducible refine d_reg ?_); simp only [go_sem, Nat.reduceAdd, Nat.reduceEqDiff, Int.reduceToNat, Nat.reduceMul, Nat.reduceSub]) | clear hK K)
    all_goals try (exfalso; omega)
    refine i_cal (f72 s) ?_
    rintro y X ⟨rb, rfl, rfl⟩
    repeat' ((fail_if_success with_reducible refine nph ?_); first | (with_reducible first | (refine d_seq ?_; intro K hK) | (refine hK _ _ ?_; clear hK K) | (refine SG.p ?_; try intro b)) | ((with_reducible refine SC.p ?_); refine And.intro ?_ ?_) <;> intro hc <;> try simp only [push_cast, Int.reduceEq, Int.reduceLT, Int.reduceLE, Int.reduceNe] at hc | with_reducible refine r_rq (by first | decide | omega) ?_ | ((with_reducible refine SL.p ?_); first | refine ⟨_, rfl, ?_⟩ | refine ⟨_, _, _, rfl, ?_⟩ | (refine ⟨?_, rfl, ?_⟩; focus (simp; done))) | ((with_reducible first | apply i_ldn | apply i_ldnq); exact rfl; exact rfl; exact rfl) | ((try with_reducible refine d_reg ?_); simp only [go_sem, Nat.reduceAdd, Nat.reduceEqDiff, Int.reduceToNat, Nat.reduceMul, Nat.reduceSub]) | clear hK K)
    refine i_clq (num_go rb s 0 4 (by omega) (by omega) (by omega) (by omega)) ?_
    repeat' (first | rw [e] | (fail_if_success with_reducible refine nph ?_); first | (with_reducible first | (refine d_seq ?_; intro K hK) | (refine hK _ _ ?_; clear hK K) | (refine SG.p ?_; try intro b)) | ((with_reducible refine SC.p ?_); refine And.intro ?_ ?_) <;> intro hc <;> try simp only [push_cast, Int.reduceEq, Int.reduceLT, Int.reduceLE, Int.reduceNe] at hc | with_reducible refine r_rq (by first | decide | omega) ?_ | ((with_reducible refine SL.p ?_); first | refine ⟨_, rfl, ?_⟩ | refine ⟨_, _, _, rfl, ?_⟩ | (refine ⟨?_, rfl, ?_⟩; focus (simp; done))) | ((with_reducible first | apply i_ldn | apply i_ldnq); exact rfl; exact rfl; exact rfl) | ((try with_reducible refine d_reg ?_); simp only [go_sem, Nat.reduceAdd, Nat.reduceEqDiff, Int.reduceToNat, Nat.reduceMul, Nat.reduceSub]) | clear hK K)
    refine i_clp F ?_
    repeat' (first | rw [e] | (fail_if_success with_reducible refine nph ?_); first | (with_reducible first | (refine d_seq ?_; intro K hK) | (refine hK _ _ ?_; clear hK K) | (refine SG.p ?_; try intro b)) | ((with_reducible refine SC.p ?_); refine And.intro ?_ ?_) <;> intro hc <;> try simp only [push_cast, Int.reduceEq, Int.reduceLT, Int.reduceLE, Int.reduceNe] at hc | with_reducible refine r_rq (by first | decide | omega) ?_ | ((with_reducible refine SL.p ?_); first | refine ⟨_, rfl, ?_⟩ | refine ⟨_, _, _, rfl, ?_⟩ | (refine ⟨?_, rfl, ?_⟩; focus (simp; done))) | ((with_reducible first | apply i_ldn | apply i_ldnq); exact rfl; exact rfl; exact rfl) | ((try with_reducible refine d_reg ?_); simp only [go_sem, Nat.reduceAdd, Nat.reduceEqDiff, Int.reduceToNat, Nat.reduceMul, Nat.reduceSub]) | clear hK K)
    · have h : ¬ (be (s.take 4) : Int) = sm (s.drop 4) := by simpa using hc
      rw [if_neg h]
      (with_reducible first | apply i_ret0 | apply i_ret2 | apply i_ret3 | apply i_ret); exact rfl
      rfl
    · have h : (be (s.take 4) : Int) = sm (s.drop 4) := by simpa using hc
      rw [if_pos h]
      (with_reducible first | apply i_ret0 | apply i_ret2 | apply i_ret3 | apply i_ret); exact rfl
      rfl
theorem unsl_seal (s : List UInt8) : unsl (lowb (sm s) 4 ++ s) = (s, 0) := by
  have hl := lowb_len (sm s) 4
  have h := sm_u32 s
  unfold u32 at h
  unfold unsl
  rw [if_neg (by rw [List.length_append]; omega), List.take_left' hl, List.drop_left' hl, be_fits h.1 (by rw [p2564]; omega), if_pos rfl]
end Go.Sp
/- What each region of the Go functions does. Written by my own generator. -/
namespace Go.Sp
open Go
set_option maxRecDepth 100000
set_option linter.unusedVariables false
open Go.Proofs
/-! gharry.rec.body -/
noncomputable def c71 : Cfg := { P := Tryz.prog, n := 142, T := TT, body := (Tryz.f71.body).getD .skip, res := Tryz.f71.results.toList, li := lk [] [(0, [0]), (1, [1]), (2, [1, 4]), (3, [1, 4]), (4, [1, 4, 5]), (5, []), (6, [1, 4, 5, 17]), (7, [1, 4]), (8, []), (9, [1, 4]), (10, [1, 4, 5, 17]), (11, [1, 4]), (12, [1, 4, 5, 17]), (13, [1, 4]), (14, []), (15, [1, 4]), (16, [1, 4, 5]), (17, [1, 4, 5]), (18, [1, 4, 5]), (19, [1, 4, 5]), (20, [1, 4, 5, 17]), (21, [1, 4, 5, 17]), (22, [1, 4, 5, 17]), (23, [1, 4]), (24, [1, 4, 5]), (25, [1, 4, 5]), (26, [1, 4, 5, 17]), (27, [1, 4, 5, 17]), (28, [1, 4, 5]), (29, [1, 4, 5, 17]), (30, [1, 4, 5]), (31, [1, 4, 5]), (32, [4, 5, 102, 103, 104]), (33, [4, 5, 102, 103, 104]), (34, [4, 5, 7, 102, 103, 104]), (35, [4, 5, 7, 102, 103, 104]), (36, [4, 5, 102, 103, 104]), (37, [1, 4, 5, 17]), (38, [1, 4, 5]), (39, [1, 4, 5]), (40, [4, 5]), (41, [5, 8, 9]), (42, [8, 9]), (43, [5, 8]), (44, [5]), (45, [8]), (46, []), (47, [8])], lo := lk [] [(0, [1]), (1, [1, 4]), (2, [1, 4]), (3, [1, 4, 5]), (4, [1, 4, 5, 17]), (5, [2, 3]), (6, [1, 4, 5, 17, 18]), (7, [1, 4, 23]), (8, [2, 3]), (9, [4, 5]), (10, [1, 4, 5, 17, 28]), (11, [4, 5]), (12, [1, 4, 5, 17, 34]), (13, [1, 4, 43]), (14, [2, 3]), (15, [1, 4, 5]), (16, [1, 4, 5]), (17, [1, 4, 5]), (18, [1, 4, 5]), (19, [4, 5]), (20, [1, 4, 5, 17, 68]), (21, [1, 4, 5, 17, 68]), (22, [1, 4, 5, 17, 68]), (23, [1, 4, 5]), (24, [1, 4, 5]), (25, [4, 5]), (26, [1, 4, 5, 17, 88]), (27, [1, 4, 5, 17, 88]), (28, [4, 5]), (29, [1, 4, 5, 17, 94]), (30, [1, 4, 5]), (31, [4, 5, 102, 103, 104]), (32, [4, 5, 102, 103, 104, 105]), (33, [4, 5, 7, 102, 103, 104]), (34, [4, 5, 7, 102, 103, 104]), (35, [4, 5, 102, 103, 104]), (36, [4, 5, 102, 103, 104]), (37, [1, 4, 5, 117]), (38, [1, 4, 5]), (39, [4, 5]), (40, [5, 8, 9]), (41, [5, 8, 9, 133]), (42, [5, 8]), (43, [5, 8, 136]), (44, [2, 3]), (45, [8, 140]), (46, [2, 3]), (47, [2, 3]), (1000000, [2, 3])], ord := lk (false, []) [] }
@[go_sem] theorem c71_i0 : c71.li 0 = [0] := rfl
@[go_sem] theorem c71_i1 : c71.li 1 = [1] := rfl
@[go_sem] theorem c71_i2 : c71.li 2 = [1, 4] := rfl
@[go_sem] theorem c71_i3 : c71.li 3 = [1, 4] := rfl
@[go_sem] theorem c71_i4 : c71.li 4 = [1, 4, 5] := rfl
@[go_sem] theorem c71_i5 : c71.li 5 = [] := rfl
@[go_sem] theorem c71_i6 : c71.li 6 = [1, 4, 5, 17] := rfl
@[go_sem] theorem c71_i7 : c71.li 7 = [1, 4] := rfl
@[go_sem] theorem c71_i8 : c71.li 8 = [] := rfl
@[go_sem] theorem c71_i9 : c71.li 9 = [1, 4] := rfl
@[go_sem] theorem c71_i10 : c71.li 10 = [1, 4, 5, 17] := rfl
@[go_sem] theorem c71_i11 : c71.li 11 = [1, 4] := rfl
@[go_sem] theorem c71_i12 : c71.li 12 = [1, 4, 5, 17] := rfl
@[go_sem] theorem c71_i13 : c71.li 13 = [1, 4] := rfl
@[go_sem] theorem c71_i14 : c71.li 14 = [] := rfl
@[go_sem] theorem c71_i15 : c71.li 15 = [1, 4] := rfl
@[go_sem] theorem c71_i16 : c71.li 16 = [1, 4, 5] := rfl
@[go_sem] theorem c71_i17 : c71.li 17 = [1, 4, 5] := rfl
@[go_sem] theorem c71_i18 : c71.li 18 = [1, 4, 5] := rfl
@[go_sem] theorem c71_i19 : c71.li 19 = [1, 4, 5] := rfl
@[go_sem] theorem c71_i20 : c71.li 20 = [1, 4, 5, 17] := rfl
@[go_sem] theorem c71_i21 : c71.li 21 = [1, 4, 5, 17] := rfl
@[go_sem] theorem c71_i22 : c71.li 22 = [1, 4, 5, 17] := rfl
@[go_sem] theorem c71_i23 : c71.li 23 = [1, 4] := rfl
@[go_sem] theorem c71_i24 : c71.li 24 = [1, 4, 5] := rfl
@[go_sem] theorem c71_i25 : c71.li 25 = [1, 4, 5] := rfl
@[go_sem] theorem c71_i26 : c71.li 26 = [1, 4, 5, 17] := rfl
@[go_sem] theorem c71_i27 : c71.li 27 = [1, 4, 5, 17] := rfl
@[go_sem] theorem c71_i28 : c71.li 28 = [1, 4, 5] := rfl
@[go_sem] theorem c71_i29 : c71.li 29 = [1, 4, 5, 17] := rfl
@[go_sem] theorem c71_i30 : c71.li 30 = [1, 4, 5] := rfl
@[go_sem] theorem c71_i31 : c71.li 31 = [1, 4, 5] := rfl
@[go_sem] theorem c71_i32 : c71.li 32 = [4, 5, 102, 103, 104] := rfl
@[go_sem] theorem c71_i33 : c71.li 33 = [4, 5, 102, 103, 104] := rfl
@[go_sem] theorem c71_i34 : c71.li 34 = [4, 5, 7, 102, 103, 104] := rfl
@[go_sem] theorem c71_i35 : c71.li 35 = [4, 5, 7, 102, 103, 104] := rfl
@[go_sem] theorem c71_i36 : c71.li 36 = [4, 5, 102, 103, 104] := rfl
@[go_sem] theorem c71_i37 : c71.li 37 = [1, 4, 5, 17] := rfl
@[go_sem] theorem c71_i38 : c71.li 38 = [1, 4, 5] := rfl
@[go_sem] theorem c71_i39 : c71.li 39 = [1, 4, 5] := rfl
@[go_sem] theorem c71_i40 : c71.li 40 = [4, 5] := rfl
@[go_sem] theorem c71_i41 : c71.li 41 = [5, 8, 9] := rfl
@[go_sem] theorem c71_i42 : c71.li 42 = [8, 9] := rfl
@[go_sem] theorem c71_i43 : c71.li 43 = [5, 8] := rfl
@[go_sem] theorem c71_i44 : c71.li 44 = [5] := rfl
@[go_sem] theorem c71_i45 : c71.li 45 = [8] := rfl
@[go_sem] theorem c71_i46 : c71.li 46 = [] := rfl
@[go_sem] theorem c71_i47 : c71.li 47 = [8] := rfl
@[go_sem] theorem c71_r0 (r0 : api_Rec) (K : Env → W) : RP c71 0 [(0, v_api_Rec r0)] K =
    (nwc #[.int .i64 r0.Kind, .int .i64 r0.Txn, .int .i64 r0.Prev, .int .i64 r0.Page, .int .i64 r0.Act, str r0.Key, str r0.Old, str r0.New, .int .i64 r0.Next, .slice r0.Images.1 r0.Images.2.1 r0.Images.2.2, .slice r0.Table.1 r0.Table.2.1 r0.Table.2.2, .int .i64 r0.Epoch, .int .i64 r0.Node] 36 fun y1_ => (K [(1, .pointer (some y1_))])) := by kernel_rfl
@[go_sem] theorem c71_r1 (r1 : Addr) (K : Env → W) : RP c71 1 [(1, .pointer (some r1))] K =
    (nwc #[str (([] : List UInt8)), .int .i64 (0 : Int)] 153 fun y1_ => (K [(1, .pointer (some r1)), (4, .pointer (some y1_))])) := by kernel_rfl
@[go_sem] theorem c71_r2 (r1 : Addr) (w4 : Addr) (K : Env → W) : RP c71 2 [(1, .pointer (some r1)), (4, .pointer (some w4))] K =
    (ld eI r1 fun (y1_ : Int) => (cal eN Tryz.prog 103 #[.pointer (some w4), .int .i64 y1_, .int .i64 (1 : Int)] fun (y2_ : Unit) => (K [(1, .pointer (some r1)), (4, .pointer (some w4))]))) := by kernel_rfl
@[go_sem] theorem c71_r3 (r1 : Addr) (w4 : Addr) (K : Env → W) : RP c71 3 [(1, .pointer (some r1)), (4, .pointer (some w4))] K =
    (K [(1, .pointer (some r1)), (4, .pointer (some w4)), (5, .int .i64 (0 : Int))]) := by kernel_rfl
@[go_sem] theorem c71_r4 (r1 : Addr) (w4 : Addr) (e5 : Int) (K : Env → W) : RP c71 4 [(1, .pointer (some r1)), (4, .pointer (some w4)), (5, .int .i64 e5)] K =
    (ld eI r1 fun (y1_ : Int) => (K [(1, .pointer (some r1)), (4, .pointer (some w4)), (5, .int .i64 e5), (17, .int .i64 y1_)])) := by kernel_rfl
@[go_sem] theorem c71_r5 (K : Env → W) : RP c71 5 [] K =
    (K [(2, str (([] : List UInt8))), (3, .int .i64 (1 : Int))]) := by kernel_rfl
@[go_sem] theorem c71_r6 (r1 : Addr) (w4 : Addr) (e5 : Int) (t17 : Int) (K : Env → W) : RP c71 6 [(1, .pointer (some r1)), (4, .pointer (some w4)), (5, .int .i64 e5), (17, .int .i64 t17)] K =
    (K [(1, .pointer (some r1)), (4, .pointer (some w4)), (5, .int .i64 e5), (17, .int .i64 t17), (18, .bool ((t17 == (1 : Int))))]) := by kernel_rfl
@[go_sem] theorem c71_r7 (r1 : Addr) (w4 : Addr) (K : Env → W) : RP c71 7 [(1, .pointer (some r1)), (4, .pointer (some w4))] K =
    (ld eSl ((r1.add 9)) fun (y1_ : (Option Addr × Nat × Nat)) => (K [(1, .pointer (some r1)), (4, .pointer (some w4)), (23, .bool (((y1_.2.1 : Int) != (1 : Int))))])) := by kernel_rfl
@[go_sem] theorem c71_r8 (K : Env → W) : RP c71 8 [] K =
    (K [(2, str (([] : List UInt8))), (3, .int .i64 (4 : Int))]) := by kernel_rfl
@[go_sem] theorem c71_r9 (r1 : Addr) (w4 : Addr) (K : Env → W) : RP c71 9 [(1, .pointer (some r1)), (4, .pointer (some w4))] K =
    (ld eSl ((r1.add 9)) fun (y1_ : (Option Addr × Nat × Nat)) => (cal eI Tryz.prog 104 #[.pointer (some w4), .slice y1_.1 y1_.2.1 y1_.2.2] fun (y2_ : Int) => (K [(4, .pointer (some w4)), (5, .int .i64 y2_)]))) := by kernel_rfl
@[go_sem] theorem c71_r10 (r1 : Addr) (w4 : Addr) (e5 : Int) (t17 : Int) (K : Env → W) : RP c71 10 [(1, .pointer (some r1)), (4, .pointer (some w4)), (5, .int .i64 e5), (17, .int .i64 t17)] K =
    (K [(1, .pointer (some r1)), (4, .pointer (some w4)), (5, .int .i64 e5), (17, .int .i64 t17), (28, .bool ((t17 == (2 : Int))))]) := by kernel_rfl
@[go_sem] theorem c71_r11 (r1 : Addr) (w4 : Addr) (K : Env → W) : RP c71 11 [(1, .pointer (some r1)), (4, .pointer (some w4))] K =
    (ld eSl ((r1.add 9)) fun (y1_ : (Option Addr × Nat × Nat)) => (cal eI Tryz.prog 104 #[.pointer (some w4), .slice y1_.1 y1_.2.1 y1_.2.2] fun (y2_ : Int) => (K [(4, .pointer (some w4)), (5, .int .i64 y2_)]))) := by kernel_rfl
@[go_sem] theorem c71_r12 (r1 : Addr) (w4 : Addr) (e5 : Int) (t17 : Int) (K : Env → W) : RP c71 12 [(1, .pointer (some r1)), (4, .pointer (some w4)), (5, .int .i64 e5), (17, .int .i64 t17)] K =
    (K [(1, .pointer (some r1)), (4, .pointer (some w4)), (5, .int .i64 e5), (17, .int .i64 t17), (34, .bool ((t17 == (6 : Int))))]) := by kernel_rfl
@[go_sem] theorem c71_r13 (r1 : Addr) (w4 : Addr) (K : Env → W) : RP c71 13 [(1, .pointer (some r1)), (4, .pointer (some w4))] K =
    (ld eI ((r1.add 4)) fun (y1_ : Int) => (cnd ((decide (y1_ < (3 : Int)))) (K [(1, .pointer (some r1)), (4, .pointer (some w4)), (43, .bool true)]) (ld eI ((r1.add 4)) fun (y2_ : Int) => (K [(1, .pointer (some r1)), (4, .pointer (some w4)), (43, .bool ((decide ((5 : Int) < y2_))))])))) := by kernel_rfl
@[go_sem] theorem c71_r14 (K : Env → W) : RP c71 14 [] K =
    (K [(2, str (([] : List UInt8))), (3, .int .i64 (4 : Int))]) := by kernel_rfl
@[go_sem] theorem c71_r15 (r1 : Addr) (w4 : Addr) (K : Env → W) : RP c71 15 [(1, .pointer (some r1)), (4, .pointer (some w4))] K =
    (ld eS ((r1.add 5)) fun (y1_ : List UInt8) => (ld eS ((r1.add 6)) fun (y2_ : List UInt8) => (ld eS ((r1.add 7)) fun (y3_ : List UInt8) => (nwc #[str y2_, str y3_] 9 fun y4_ => (cal eI Tryz.prog 105 #[str y1_, .slice ((some y4_)) 2 2] fun (y5_ : Int) => (K [(1, .pointer (some r1)), (4, .pointer (some w4)), (5, .int .i64 y5_)])))))) := by kernel_rfl
@[go_sem] theorem c71_r16 (r1 : Addr) (w4 : Addr) (e5 : Int) (K : Env → W) : RP c71 16 [(1, .pointer (some r1)), (4, .pointer (some w4)), (5, .int .i64 e5)] K =
    (ldn e_api_Rec 13 r1 fun (y1_ : api_Rec) => (cal eN Tryz.prog 106 #[.pointer (some w4), v_api_Rec y1_] fun (y2_ : Unit) => (K [(1, .pointer (some r1)), (4, .pointer (some w4)), (5, .int .i64 e5)]))) := by kernel_rfl
@[go_sem] theorem c71_r17 (r1 : Addr) (w4 : Addr) (e5 : Int) (K : Env → W) : RP c71 17 [(1, .pointer (some r1)), (4, .pointer (some w4)), (5, .int .i64 e5)] K =
    (ld eI ((r1.add 8)) fun (y1_ : Int) => (cal eN Tryz.prog 103 #[.pointer (some w4), .int .i64 y1_, .int .i64 (6 : Int)] fun (y2_ : Unit) => (K [(1, .pointer (some r1)), (4, .pointer (some w4)), (5, .int .i64 e5)]))) := by kernel_rfl
@[go_sem] theorem c71_r18 (r1 : Addr) (w4 : Addr) (e5 : Int) (K : Env → W) : RP c71 18 [(1, .pointer (some r1)), (4, .pointer (some w4)), (5, .int .i64 e5)] K =
    (ld eI ((r1.add 4)) fun (y1_ : Int) => (cal eN Tryz.prog 103 #[.pointer (some w4), .int .i64 y1_, .int .i64 (1 : Int)] fun (y2_ : Unit) => (K [(1, .pointer (some r1)), (4, .pointer (some w4)), (5, .int .i64 e5)]))) := by kernel_rfl
@[go_sem] theorem c71_r19 (r1 : Addr) (w4 : Addr) (e5 : Int) (K : Env → W) : RP c71 19 [(1, .pointer (some r1)), (4, .pointer (some w4)), (5, .int .i64 e5)] K =
    (ldn e_api_Rec 13 r1 fun (y1_ : api_Rec) => (ld eI ((r1.add 4)) fun (y2_ : Int) => (cal eN Tryz.prog 107 #[.pointer (some w4), v_api_Rec y1_, .int .i64 y2_] fun (y3_ : Unit) => (K [(4, .pointer (some w4)), (5, .int .i64 e5)])))) := by kernel_rfl
@[go_sem] theorem c71_r20 (r1 : Addr) (w4 : Addr) (e5 : Int) (t17 : Int) (K : Env → W) : RP c71 20 [(1, .pointer (some r1)), (4, .pointer (some w4)), (5, .int .i64 e5), (17, .int .i64 t17)] K =
    (K [(1, .pointer (some r1)), (4, .pointer (some w4)), (5, .int .i64 e5), (17, .int .i64 t17), (68, .bool ((t17 == (3 : Int))))]) := by kernel_rfl
@[go_sem] theorem c71_r21 (r1 : Addr) (w4 : Addr) (e5 : Int) (t17 : Int) (K : Env → W) : RP c71 21 [(1, .pointer (some r1)), (4, .pointer (some w4)), (5, .int .i64 e5), (17, .int .i64 t17)] K =
    (K [(1, .pointer (some r1)), (4, .pointer (some w4)), (5, .int .i64 e5), (17, .int .i64 t17), (68, .bool ((t17 == (4 : Int))))]) := by kernel_rfl
@[go_sem] theorem c71_r22 (r1 : Addr) (w4 : Addr) (e5 : Int) (t17 : Int) (K : Env → W) : RP c71 22 [(1, .pointer (some r1)), (4, .pointer (some w4)), (5, .int .i64 e5), (17, .int .i64 t17)] K =
    (K [(1, .pointer (some r1)), (4, .pointer (some w4)), (5, .int .i64 e5), (17, .int .i64 t17), (68, .bool ((t17 == (5 : Int))))]) := by kernel_rfl
@[go_sem] theorem c71_r23 (r1 : Addr) (w4 : Addr) (K : Env → W) : RP c71 23 [(1, .pointer (some r1)), (4, .pointer (some w4))] K =
    (ld eS ((r1.add 5)) fun (y1_ : List UInt8) => (ld eS ((r1.add 6)) fun (y2_ : List UInt8) => (ld eS ((r1.add 7)) fun (y3_ : List UInt8) => (nwc #[str y2_, str y3_] 9 fun y4_ => (cal eI Tryz.prog 105 #[str y1_, .slice ((some y4_)) 2 2] fun (y5_ : Int) => (K [(1, .pointer (some r1)), (4, .pointer (some w4)), (5, .int .i64 y5_)])))))) := by kernel_rfl
@[go_sem] theorem c71_r24 (r1 : Addr) (w4 : Addr) (e5 : Int) (K : Env → W) : RP c71 24 [(1, .pointer (some r1)), (4, .pointer (some w4)), (5, .int .i64 e5)] K =
    (ldn e_api_Rec 13 r1 fun (y1_ : api_Rec) => (cal eN Tryz.prog 106 #[.pointer (some w4), v_api_Rec y1_] fun (y2_ : Unit) => (K [(1, .pointer (some r1)), (4, .pointer (some w4)), (5, .int .i64 e5)]))) := by kernel_rfl
@[go_sem] theorem c71_r25 (r1 : Addr) (w4 : Addr) (e5 : Int) (K : Env → W) : RP c71 25 [(1, .pointer (some r1)), (4, .pointer (some w4)), (5, .int .i64 e5)] K =
    (ldn e_api_Rec 13 r1 fun (y1_ : api_Rec) => (ld eI r1 fun (y2_ : Int) => (cal eN Tryz.prog 107 #[.pointer (some w4), v_api_Rec y1_, .int .i64 y2_] fun (y3_ : Unit) => (K [(4, .pointer (some w4)), (5, .int .i64 e5)])))) := by kernel_rfl
@[go_sem] theorem c71_r26 (r1 : Addr) (w4 : Addr) (e5 : Int) (t17 : Int) (K : Env → W) : RP c71 26 [(1, .pointer (some r1)), (4, .pointer (some w4)), (5, .int .i64 e5), (17, .int .i64 t17)] K =
    (K [(1, .pointer (some r1)), (4, .pointer (some w4)), (5, .int .i64 e5), (17, .int .i64 t17), (88, .bool ((t17 == (7 : Int))))]) := by kernel_rfl
@[go_sem] theorem c71_r27 (r1 : Addr) (w4 : Addr) (e5 : Int) (t17 : Int) (K : Env → W) : RP c71 27 [(1, .pointer (some r1)), (4, .pointer (some w4)), (5, .int .i64 e5), (17, .int .i64 t17)] K =
    (K [(1, .pointer (some r1)), (4, .pointer (some w4)), (5, .int .i64 e5), (17, .int .i64 t17), (88, .bool ((t17 == (8 : Int))))]) := by kernel_rfl
@[go_sem] theorem c71_r28 (r1 : Addr) (w4 : Addr) (e5 : Int) (K : Env → W) : RP c71 28 [(1, .pointer (some r1)), (4, .pointer (some w4)), (5, .int .i64 e5)] K =
    (ldn e_api_Rec 13 r1 fun (y1_ : api_Rec) => (cal eN Tryz.prog 106 #[.pointer (some w4), v_api_Rec y1_] fun (y2_ : Unit) => (K [(4, .pointer (some w4)), (5, .int .i64 e5)]))) := by kernel_rfl
@[go_sem] theorem c71_r29 (r1 : Addr) (w4 : Addr) (e5 : Int) (t17 : Int) (K : Env → W) : RP c71 29 [(1, .pointer (some r1)), (4, .pointer (some w4)), (5, .int .i64 e5), (17, .int .i64 t17)] K =
    (K [(1, .pointer (some r1)), (4, .pointer (some w4)), (5, .int .i64 e5), (17, .int .i64 t17), (94, .bool ((t17 == (9 : Int))))]) := by kernel_rfl
@[go_sem] theorem c71_r30 (r1 : Addr) (w4 : Addr) (e5 : Int) (K : Env → W) : RP c71 30 [(1, .pointer (some r1)), (4, .pointer (some w4)), (5, .int .i64 e5)] K =
    (ld eSl ((r1.add 10)) fun (y1_ : (Option Addr × Nat × Nat)) => (cal eN Tryz.prog 103 #[.pointer (some w4), .int .i64 ((y1_.2.1 : Int)), .int .i64 (1 : Int)] fun (y2_ : Unit) => (K [(1, .pointer (some r1)), (4, .pointer (some w4)), (5, .int .i64 e5)]))) := by kernel_rfl
@[go_sem] theorem c71_r31 (r1 : Addr) (w4 : Addr) (e5 : Int) (K : Env → W) : RP c71 31 [(1, .pointer (some r1)), (4, .pointer (some w4)), (5, .int .i64 e5)] K =
    (ld eSl ((r1.add 10)) fun (y1_ : (Option Addr × Nat × Nat)) => (K [(4, .pointer (some w4)), (5, .int .i64 e5), (102, .slice y1_.1 y1_.2.1 y1_.2.2), (103, .int .i64 ((y1_.2.1 : Int))), (104, .int .i64 (0 : Int))])) := by kernel_rfl
@[go_sem] theorem c71_r32 (w4 : Addr) (e5 : Int) (t102p : Option Addr) (t102n t102c : Nat) (t103 : Int) (t104 : Int) (K : Env → W) : RP c71 32 [(4, .pointer (some w4)), (5, .int .i64 e5), (102, .slice t102p t102n t102c), (103, .int .i64 t103), (104, .int .i64 t104)] K =
    (K [(4, .pointer (some w4)), (5, .int .i64 e5), (102, .slice t102p t102n t102c), (103, .int .i64 t103), (104, .int .i64 t104), (105, .bool ((decide (t104 < t103))))]) := by kernel_rfl
@[go_sem] theorem c71_r33 (w4 : Addr) (e5 : Int) (t102p : Option Addr) (t102n t102c : Nat) (t103 : Int) (t104 : Int) (K : Env → W) : RP c71 33 [(4, .pointer (some w4)), (5, .int .i64 e5), (102, .slice t102p t102n t102c), (103, .int .i64 t103), (104, .int .i64 t104)] K =
    (rq (0 ≤ t104 ∧ t104 < (t102n : Int)) (nn t102p fun y1_ => (ldn e_api_Active 2 ((Addr.add y1_ ((t104).toNat * 2))) fun (y2_ : api_Active) => (nwc #[.int .i64 (0 : Int), .int .i64 (0 : Int)] 125 fun y3_ => (stl [.int .i64 y2_.Txn, .int .i64 y2_.Last] y3_ 0 (K [(4, .pointer (some w4)), (5, .int .i64 e5), (7, .pointer (some y3_)), (102, .slice t102p t102n t102c), (103, .int .i64 t103), (104, .int .i64 t104)])))))) := by kernel_rfl
@[go_sem] theorem c71_r34 (w4 : Addr) (e5 : Int) (a7 : Addr) (t102p : Option Addr) (t102n t102c : Nat) (t103 : Int) (t104 : Int) (K : Env → W) : RP c71 34 [(4, .pointer (some w4)), (5, .int .i64 e5), (7, .pointer (some a7)), (102, .slice t102p t102n t102c), (103, .int .i64 t103), (104, .int .i64 t104)] K =
    (ld eI a7 fun (y1_ : Int) => (cal eN Tryz.prog 103 #[.pointer (some w4), .int .i64 y1_, .int .i64 (6 : Int)] fun (y2_ : Unit) => (K [(4, .pointer (some w4)), (5, .int .i64 e5), (7, .pointer (some a7)), (102, .slice t102p t102n t102c), (103, .int .i64 t103), (104, .int .i64 t104)]))) := by kernel_rfl
@[go_sem] theorem c71_r35 (w4 : Addr) (e5 : Int) (a7 : Addr) (t102p : Option Addr) (t102n t102c : Nat) (t103 : Int) (t104 : Int) (K : Env → W) : RP c71 35 [(4, .pointer (some w4)), (5, .int .i64 e5), (7, .pointer (some a7)), (102, .slice t102p t102n t102c), (103, .int .i64 t103), (104, .int .i64 t104)] K =
    (ld eI ((a7.add 1)) fun (y1_ : Int) => (cal eN Tryz.prog 103 #[.pointer (some w4), .int .i64 y1_, .int .i64 (6 : Int)] fun (y2_ : Unit) => (K [(4, .pointer (some w4)), (5, .int .i64 e5), (102, .slice t102p t102n t102c), (103, .int .i64 t103), (104, .int .i64 t104)]))) := by kernel_rfl
@[go_sem] theorem c71_r36 (w4 : Addr) (e5 : Int) (t102p : Option Addr) (t102n t102c : Nat) (t103 : Int) (t104 : Int) (K : Env → W) : RP c71 36 [(4, .pointer (some w4)), (5, .int .i64 e5), (102, .slice t102p t102n t102c), (103, .int .i64 t103), (104, .int .i64 t104)] K =
    (K [(4, .pointer (some w4)), (5, .int .i64 e5), (102, .slice t102p t102n t102c), (103, .int .i64 t103), (104, .int .i64 ((IntKind.wrap .i64 (t104 + (1 : Int)))))]) := by kernel_rfl
@[go_sem] theorem c71_r37 (r1 : Addr) (w4 : Addr) (e5 : Int) (t17 : Int) (K : Env → W) : RP c71 37 [(1, .pointer (some r1)), (4, .pointer (some w4)), (5, .int .i64 e5), (17, .int .i64 t17)] K =
    (K [(1, .pointer (some r1)), (4, .pointer (some w4)), (5, .int .i64 e5), (117, .bool ((t17 == (10 : Int))))]) := by kernel_rfl
@[go_sem] theorem c71_r38 (r1 : Addr) (w4 : Addr) (e5 : Int) (K : Env → W) : RP c71 38 [(1, .pointer (some r1)), (4, .pointer (some w4)), (5, .int .i64 e5)] K =
    (ld eI ((r1.add 11)) fun (y1_ : Int) => (cal eN Tryz.prog 103 #[.pointer (some w4), .int .i64 y1_, .int .i64 (4 : Int)] fun (y2_ : Unit) => (K [(1, .pointer (some r1)), (4, .pointer (some w4)), (5, .int .i64 e5)]))) := by kernel_rfl
@[go_sem] theorem c71_r39 (r1 : Addr) (w4 : Addr) (e5 : Int) (K : Env → W) : RP c71 39 [(1, .pointer (some r1)), (4, .pointer (some w4)), (5, .int .i64 e5)] K =
    (ld eI ((r1.add 12)) fun (y1_ : Int) => (cal eN Tryz.prog 103 #[.pointer (some w4), .int .i64 y1_, .int .i64 (1 : Int)] fun (y2_ : Unit) => (K [(4, .pointer (some w4)), (5, .int .i64 e5)]))) := by kernel_rfl
@[go_sem] theorem c71_r40 (w4 : Addr) (e5 : Int) (K : Env → W) : RP c71 40 [(4, .pointer (some w4)), (5, .int .i64 e5)] K =
    (cal (eT2 eS eI) Tryz.prog 108 #[.pointer (some w4)] fun (y1_ : ((List UInt8) × Int)) => (K [(5, .int .i64 e5), (8, str y1_.1), (9, .int .i64 y1_.2)])) := by kernel_rfl
@[go_sem] theorem c71_r41 (e5 : Int) (s8 : List UInt8) (f9 : Int) (K : Env → W) : RP c71 41 [(5, .int .i64 e5), (8, str s8), (9, .int .i64 f9)] K =
    (K [(5, .int .i64 e5), (8, str s8), (9, .int .i64 f9), (133, .bool ((e5 == (0 : Int))))]) := by kernel_rfl
@[go_sem] theorem c71_r42 (s8 : List UInt8) (f9 : Int) (K : Env → W) : RP c71 42 [(8, str s8), (9, .int .i64 f9)] K =
    (K [(5, .int .i64 f9), (8, str s8)]) := by kernel_rfl
@[go_sem] theorem c71_r43 (e5 : Int) (s8 : List UInt8) (K : Env → W) : RP c71 43 [(5, .int .i64 e5), (8, str s8)] K =
    (K [(5, .int .i64 e5), (8, str s8), (136, .bool ((e5 != (0 : Int))))]) := by kernel_rfl
@[go_sem] theorem c71_r44 (e5 : Int) (K : Env → W) : RP c71 44 [(5, .int .i64 e5)] K =
    (K [(2, str (([] : List UInt8))), (3, .int .i64 e5)]) := by kernel_rfl
@[go_sem] theorem c71_r45 (s8 : List UInt8) (K : Env → W) : RP c71 45 [(8, str s8)] K =
    (K [(8, str s8), (140, .bool ((decide ((4096 : Int) < ((s8).length : Int)))))]) := by kernel_rfl
@[go_sem] theorem c71_r46 (K : Env → W) : RP c71 46 [] K =
    (K [(2, str (([] : List UInt8))), (3, .int .i64 (3 : Int))]) := by kernel_rfl
@[go_sem] theorem c71_r47 (s8 : List UInt8) (K : Env → W) : RP c71 47 [(8, str s8)] K =
    (K [(2, str s8), (3, .int .i64 (0 : Int))]) := by kernel_rfl
@[go_sem] theorem c71_o : c71.lo 1000000 = [2, 3] := rfl
@[go_sem] theorem c71_e (t2 : List UInt8) (t3 : Int) (k : Value → W) : RTp c71 [(2, str t2), (3, .int .i64 t3)] k = (k (.tuple #[str t2, .int .i64 t3])) := by kernel_rfl
theorem c71_ok : (c71.P.follows .mixedOrders && okc c71 c71.body) = true := by kernel_rfl
theorem c71_fn {e : Enc} {args : Array Value} {G : e.α → W} {L : List HP} {ρ : Env} (hρ : envA 0 args.toList = ρ) (hs : Nat.ble args.size 142 = true) (h : E L (D c71 (.seq (.reg 0) (.seq (.reg 1) (.seq (.reg 2) (.seq (.reg 3) (.seq (.seq (.reg 4) (.block 0 (.seq (.reg 6) (.cond (.tmp 18) (.seq (.seq (.reg 7) (.cond (.tmp 23) (.seq (.reg 8) (.ret)) (.skip))) (.reg 9)) (.seq (.reg 10) (.cond (.tmp 28) (.reg 11) (.seq (.reg 12) (.cond (.tmp 34) (.seq (.seq (.reg 13) (.cond (.tmp 43) (.seq (.reg 14) (.ret)) (.skip))) (.seq (.reg 15) (.seq (.reg 16) (.seq (.reg 17) (.seq (.reg 18) (.reg 19)))))) (.seq (.seq (.reg 20) (.cond (.tmp 68) (.skip) (.seq (.reg 21) (.cond (.tmp 68) (.skip) (.reg 22))))) (.cond (.tmp 68) (.seq (.reg 23) (.seq (.reg 24) (.reg 25))) (.seq (.seq (.reg 26) (.cond (.tmp 88) (.skip) (.reg 27))) (.cond (.tmp 88) (.reg 28) (.seq (.reg 29) (.cond (.tmp 94) (.seq (.reg 30) (.seq (.reg 31) (.block 1 (.loop (.seq (.reg 32) (.seq (.cond (.tmp 105) (.skip) (.exit 1)) (.seq (.block 2 (.seq (.reg 33) (.seq (.reg 34) (.reg 35)))) (.reg 36)))))))) (.seq (.reg 37) (.cond (.tmp 117) (.seq (.reg 38) (.reg 39)) (.seq (.reg 5) (.ret)))))))))))))))))) (.seq (.reg 40) (.seq (.seq (.reg 41) (.cond (.tmp 133) (.reg 42) (.skip))) (.seq (.seq (.reg 43) (.cond (.tmp 136) (.seq (.reg 44) (.ret)) (.skip))) (.seq (.seq (.reg 45) (.cond (.tmp 140) (.seq (.reg 46) (.ret)) (.skip))) (.seq (.reg 47) (.ret))))))))))) (fnQ c71 e G) ρ)) : E L (cal e Tryz.prog 71 args G) :=
  d_fn (c := c71) Tryz.func71 (by kernel_rfl) (by kernel_rfl) (by kernel_rfl) c71_ok (by kernel_rfl) (by kernel_rfl) hρ hs h
-- loop (first region 32): live slots 4:w4 5:e5 102:t102 103:t103 104:t104, of which it writes [104]
/-! gharry.rec.Clean -/
noncomputable def c72 : Cfg := { P := Tryz.prog, n := 92, T := TT, body := (Tryz.f72.body).getD .skip, res := Tryz.f72.results.toList, li := lk [] [(0, [0]), (1, [1, 2]), (2, [1, 2, 3]), (3, [1, 2, 3, 8]), (4, [1, 2, 3, 8]), (5, [1, 2, 3]), (6, [1, 2, 3, 8]), (7, [1, 2, 3, 8]), (8, [1, 2, 3, 8]), (9, [1, 2, 3]), (10, [1, 2, 3]), (11, [1, 2, 3, 8]), (12, [1, 2, 3]), (13, [1, 2, 3]), (14, [1, 2, 3, 8]), (15, [1, 2, 3, 8]), (16, [1, 2, 3]), (17, [1, 2, 3, 8]), (18, [1, 2, 3]), (19, [1, 2, 3, 8]), (20, [1, 2, 3]), (21, [2, 3])], lo := lk [] [(0, [1, 2]), (1, [1, 2, 3]), (2, [1, 2, 3, 8]), (3, [1, 2, 3, 8, 9]), (4, [1, 2, 3, 8, 9]), (5, [2, 3]), (6, [1, 2, 3, 8, 15]), (7, [1, 2, 3, 8, 15]), (8, [1, 2, 3, 8, 15]), (9, [1, 2, 3]), (10, [2, 3]), (11, [1, 2, 3, 8, 40]), (12, [1, 2, 3]), (13, [2, 3]), (14, [1, 2, 3, 8, 69]), (15, [1, 2, 3, 8, 69]), (16, [2, 3]), (17, [1, 2, 3, 8, 78]), (18, [2, 3]), (19, [1, 2, 3, 83]), (20, [2, 3]), (21, [2]), (1000000, [2])], ord := lk (false, []) [(9, (true, [(0, 1), (1, 0), (2, 1), (3, 0), (4, 1), (5, 0), (6, 1), (7, 0), (8, 1), (9, 0), (10, 1), (11, 0), (12, 1), (13, 2), (14, 1), (15, 2), (16, 1), (17, 2), (18, 1), (19, 2), (20, 1), (21, 2), (22, 1), (23, 4)])), (12, (true, [(0, 1), (1, 0), (2, 1), (3, 0), (4, 1), (5, 0), (6, 1), (7, 0), (8, 1), (9, 0), (10, 1), (11, 0), (12, 1), (13, 0), (14, 1), (15, 0), (16, 1), (17, 2), (18, 1), (19, 2), (20, 1), (21, 2), (22, 1), (23, 2), (24, 1), (25, 2), (26, 1), (27, 2), (28, 1), (29, 2), (30, 1), (31, 4)])), (16, (true, [(0, 1), (1, 0), (2, 1), (3, 0), (4, 1), (5, 2), (6, 1), (7, 4)])), (20, (true, [(0, 1), (1, 0), (2, 1), (3, 0), (4, 1), (5, 2), (6, 1), (7, 4)]))] }
@[go_sem] theorem c72_i0 : c72.li 0 = [0] := rfl
@[go_sem] theorem c72_i1 : c72.li 1 = [1, 2] := rfl
@[go_sem] theorem c72_i2 : c72.li 2 = [1, 2, 3] := rfl
@[go_sem] theorem c72_i3 : c72.li 3 = [1, 2, 3, 8] := rfl
@[go_sem] theorem c72_i4 : c72.li 4 = [1, 2, 3, 8] := rfl
@[go_sem] theorem c72_i5 : c72.li 5 = [1, 2, 3] := rfl
@[go_sem] theorem c72_i6 : c72.li 6 = [1, 2, 3, 8] := rfl
@[go_sem] theorem c72_i7 : c72.li 7 = [1, 2, 3, 8] := rfl
@[go_sem] theorem c72_i8 : c72.li 8 = [1, 2, 3, 8] := rfl
@[go_sem] theorem c72_i9 : c72.li 9 = [1, 2, 3] := rfl
@[go_sem] theorem c72_i10 : c72.li 10 = [1, 2, 3] := rfl
@[go_sem] theorem c72_i11 : c72.li 11 = [1, 2, 3, 8] := rfl
@[go_sem] theorem c72_i12 : c72.li 12 = [1, 2, 3] := rfl
@[go_sem] theorem c72_i13 : c72.li 13 = [1, 2, 3] := rfl
@[go_sem] theorem c72_i14 : c72.li 14 = [1, 2, 3, 8] := rfl
@[go_sem] theorem c72_i15 : c72.li 15 = [1, 2, 3, 8] := rfl
@[go_sem] theorem c72_i16 : c72.li 16 = [1, 2, 3] := rfl
@[go_sem] theorem c72_i17 : c72.li 17 = [1, 2, 3, 8] := rfl
@[go_sem] theorem c72_i18 : c72.li 18 = [1, 2, 3] := rfl
@[go_sem] theorem c72_i19 : c72.li 19 = [1, 2, 3, 8] := rfl
@[go_sem] theorem c72_i20 : c72.li 20 = [1, 2, 3] := rfl
@[go_sem] theorem c72_i21 : c72.li 21 = [2, 3] := rfl
@[go_sem] theorem c72_r0 (r0 : api_Rec) (K : Env → W) : RP c72 0 [(0, v_api_Rec r0)] K =
    (nwc #[.int .i64 r0.Kind, .int .i64 r0.Txn, .int .i64 r0.Prev, .int .i64 r0.Page, .int .i64 r0.Act, str r0.Key, str r0.Old, str r0.New, .int .i64 r0.Next, .slice r0.Images.1 r0.Images.2.1 r0.Images.2.2, .slice r0.Table.1 r0.Table.2.1 r0.Table.2.2, .int .i64 r0.Epoch, .int .i64 r0.Node] 36 fun y1_ => (nwc #[.int .i64 (0 : Int), .int .i64 (0 : Int), .int .i64 (0 : Int), .int .i64 (0 : Int), .int .i64 (0 : Int), str (([] : List UInt8)), str (([] : List UInt8)), str (([] : List UInt8)), .int .i64 (0 : Int), .slice none 0 0, .slice none 0 0, .int .i64 (0 : Int), .int .i64 (0 : Int)] 36 fun y2_ => (K [(1, .pointer (some y1_)), (2, .pointer (some y2_))]))) := by kernel_rfl
@[go_sem] theorem c72_r1 (r1 : Addr) (t2 : Addr) (K : Env → W) : RP c72 1 [(1, .pointer (some r1)), (2, .pointer (some t2))] K =
    (ld eI r1 fun (y1_ : Int) => (nwc #[.int .i64 (0 : Int), .int .i64 (0 : Int), .int .i64 (0 : Int), .int .i64 (0 : Int), .int .i64 (0 : Int), str (([] : List UInt8)), str (([] : List UInt8)), str (([] : List UInt8)), .int .i64 (0 : Int), .slice none 0 0, .slice none 0 0, .int .i64 (0 : Int), .int .i64 (0 : Int)] 36 fun y2_ => (stl [.int .i64 (y1_), .int .i64 (0 : Int), .int .i64 (0 : Int), .int .i64 (0 : Int), .int .i64 (0 : Int), str (([] : List UInt8)), str (([] : List UInt8)), str (([] : List UInt8)), .int .i64 (0 : Int), .slice none 0 0, .slice none 0 0, .int .i64 (0 : Int), .int .i64 (0 : Int)] y2_ 0 (K [(1, .pointer (some r1)), (2, .pointer (some t2)), (3, .pointer (some y2_))])))) := by kernel_rfl
@[go_sem] theorem c72_r2 (r1 : Addr) (t2 : Addr) (out3 : Addr) (K : Env → W) : RP c72 2 [(1, .pointer (some r1)), (2, .pointer (some t2)), (3, .pointer (some out3))] K =
    (ld eI r1 fun (y1_ : Int) => (K [(1, .pointer (some r1)), (2, .pointer (some t2)), (3, .pointer (some out3)), (8, .int .i64 y1_)])) := by kernel_rfl
@[go_sem] theorem c72_r3 (r1 : Addr) (t2 : Addr) (out3 : Addr) (t8 : Int) (K : Env → W) : RP c72 3 [(1, .pointer (some r1)), (2, .pointer (some t2)), (3, .pointer (some out3)), (8, .int .i64 t8)] K =
    (K [(1, .pointer (some r1)), (2, .pointer (some t2)), (3, .pointer (some out3)), (8, .int .i64 t8), (9, .bool ((t8 == (1 : Int))))]) := by kernel_rfl
@[go_sem] theorem c72_r4 (r1 : Addr) (t2 : Addr) (out3 : Addr) (t8 : Int) (K : Env → W) : RP c72 4 [(1, .pointer (some r1)), (2, .pointer (some t2)), (3, .pointer (some out3)), (8, .int .i64 t8)] K =
    (K [(1, .pointer (some r1)), (2, .pointer (some t2)), (3, .pointer (some out3)), (8, .int .i64 t8), (9, .bool ((t8 == (2 : Int))))]) := by kernel_rfl
@[go_sem] theorem c72_r5 (r1 : Addr) (t2 : Addr) (out3 : Addr) (K : Env → W) : RP c72 5 [(1, .pointer (some r1)), (2, .pointer (some t2)), (3, .pointer (some out3))] K =
    (ld eSl ((r1.add 9)) fun (y1_ : (Option Addr × Nat × Nat)) => (st ((out3.add 9)) (.slice y1_.1 y1_.2.1 y1_.2.2) (K [(2, .pointer (some t2)), (3, .pointer (some out3))]))) := by kernel_rfl
@[go_sem] theorem c72_r6 (r1 : Addr) (t2 : Addr) (out3 : Addr) (t8 : Int) (K : Env → W) : RP c72 6 [(1, .pointer (some r1)), (2, .pointer (some t2)), (3, .pointer (some out3)), (8, .int .i64 t8)] K =
    (K [(1, .pointer (some r1)), (2, .pointer (some t2)), (3, .pointer (some out3)), (8, .int .i64 t8), (15, .bool ((t8 == (3 : Int))))]) := by kernel_rfl
@[go_sem] theorem c72_r7 (r1 : Addr) (t2 : Addr) (out3 : Addr) (t8 : Int) (K : Env → W) : RP c72 7 [(1, .pointer (some r1)), (2, .pointer (some t2)), (3, .pointer (some out3)), (8, .int .i64 t8)] K =
    (K [(1, .pointer (some r1)), (2, .pointer (some t2)), (3, .pointer (some out3)), (8, .int .i64 t8), (15, .bool ((t8 == (4 : Int))))]) := by kernel_rfl
@[go_sem] theorem c72_r8 (r1 : Addr) (t2 : Addr) (out3 : Addr) (t8 : Int) (K : Env → W) : RP c72 8 [(1, .pointer (some r1)), (2, .pointer (some t2)), (3, .pointer (some out3)), (8, .int .i64 t8)] K =
    (K [(1, .pointer (some r1)), (2, .pointer (some t2)), (3, .pointer (some out3)), (8, .int .i64 t8), (15, .bool ((t8 == (5 : Int))))]) := by kernel_rfl
@[go_sem] theorem c72_r9 (r1 : Addr) (t2 : Addr) (out3 : Addr) (K : Env → W) : RP c72 9 [(1, .pointer (some r1)), (2, .pointer (some t2)), (3, .pointer (some out3))] K =
    (ph fun S0 => (ldq S0 eI ((r1.add 1)) fun (y1_ : Int) => (ldq S0 eI ((r1.add 2)) fun (y2_ : Int) => (ldq S0 eI ((r1.add 3)) fun (y3_ : Int) => (ldq S0 eS ((r1.add 5)) fun (y4_ : List UInt8) => (ldq S0 eS ((r1.add 6)) fun (y5_ : List UInt8) => (ldq S0 eS ((r1.add 7)) fun (y6_ : List UInt8) => (st ((out3.add 1)) (.int .i64 y1_) (kpn S0 fun S1 => (st ((out3.add 2)) (.int .i64 y2_) (kpn S1 fun S2 => (st ((out3.add 3)) (.int .i64 y3_) (kpn S2 fun S3 => (st ((out3.add 5)) (str y4_) (kpn S3 fun S4 => (st ((out3.add 6)) (str y5_) (kpn S4 fun S5 => (st ((out3.add 7)) (str y6_) (K [(1, .pointer (some r1)), (2, .pointer (some t2)), (3, .pointer (some out3))]))))))))))))))))))) := by kernel_rfl
@[go_sem] theorem c72_r10 (r1 : Addr) (t2 : Addr) (out3 : Addr) (K : Env → W) : RP c72 10 [(1, .pointer (some r1)), (2, .pointer (some t2)), (3, .pointer (some out3))] K =
    (ld eI r1 fun (y1_ : Int) => (cal eN Tryz.prog 109 #[.pointer (some out3), .int .i64 y1_] fun (y2_ : Unit) => (K [(2, .pointer (some t2)), (3, .pointer (some out3))]))) := by kernel_rfl
@[go_sem] theorem c72_r11 (r1 : Addr) (t2 : Addr) (out3 : Addr) (t8 : Int) (K : Env → W) : RP c72 11 [(1, .pointer (some r1)), (2, .pointer (some t2)), (3, .pointer (some out3)), (8, .int .i64 t8)] K =
    (K [(1, .pointer (some r1)), (2, .pointer (some t2)), (3, .pointer (some out3)), (8, .int .i64 t8), (40, .bool ((t8 == (6 : Int))))]) := by kernel_rfl
@[go_sem] theorem c72_r12 (r1 : Addr) (t2 : Addr) (out3 : Addr) (K : Env → W) : RP c72 12 [(1, .pointer (some r1)), (2, .pointer (some t2)), (3, .pointer (some out3))] K =
    (ph fun S0 => (ldq S0 eI ((r1.add 1)) fun (y1_ : Int) => (ldq S0 eI ((r1.add 2)) fun (y2_ : Int) => (ldq S0 eI ((r1.add 8)) fun (y3_ : Int) => (ldq S0 eI ((r1.add 4)) fun (y4_ : Int) => (ldq S0 eI ((r1.add 3)) fun (y5_ : Int) => (ldq S0 eS ((r1.add 5)) fun (y6_ : List UInt8) => (ldq S0 eS ((r1.add 6)) fun (y7_ : List UInt8) => (ldq S0 eS ((r1.add 7)) fun (y8_ : List UInt8) => (st ((out3.add 1)) (.int .i64 y1_) (kpn S0 fun S1 => (st ((out3.add 2)) (.int .i64 y2_) (kpn S1 fun S2 => (st ((out3.add 8)) (.int .i64 y3_) (kpn S2 fun S3 => (st ((out3.add 4)) (.int .i64 y4_) (kpn S3 fun S4 => (st ((out3.add 3)) (.int .i64 y5_) (kpn S4 fun S5 => (st ((out3.add 5)) (str y6_) (kpn S5 fun S6 => (st ((out3.add 6)) (str y7_) (kpn S6 fun S7 => (st ((out3.add 7)) (str y8_) (K [(1, .pointer (some r1)), (2, .pointer (some t2)), (3, .pointer (some out3))]))))))))))))))))))))))))) := by kernel_rfl
@[go_sem] theorem c72_r13 (r1 : Addr) (t2 : Addr) (out3 : Addr) (K : Env → W) : RP c72 13 [(1, .pointer (some r1)), (2, .pointer (some t2)), (3, .pointer (some out3))] K =
    (ld eI ((r1.add 4)) fun (y1_ : Int) => (cal eN Tryz.prog 109 #[.pointer (some out3), .int .i64 y1_] fun (y2_ : Unit) => (K [(2, .pointer (some t2)), (3, .pointer (some out3))]))) := by kernel_rfl
@[go_sem] theorem c72_r14 (r1 : Addr) (t2 : Addr) (out3 : Addr) (t8 : Int) (K : Env → W) : RP c72 14 [(1, .pointer (some r1)), (2, .pointer (some t2)), (3, .pointer (some out3)), (8, .int .i64 t8)] K =
    (K [(1, .pointer (some r1)), (2, .pointer (some t2)), (3, .pointer (some out3)), (8, .int .i64 t8), (69, .bool ((t8 == (7 : Int))))]) := by kernel_rfl
@[go_sem] theorem c72_r15 (r1 : Addr) (t2 : Addr) (out3 : Addr) (t8 : Int) (K : Env → W) : RP c72 15 [(1, .pointer (some r1)), (2, .pointer (some t2)), (3, .pointer (some out3)), (8, .int .i64 t8)] K =
    (K [(1, .pointer (some r1)), (2, .pointer (some t2)), (3, .pointer (some out3)), (8, .int .i64 t8), (69, .bool ((t8 == (8 : Int))))]) := by kernel_rfl
@[go_sem] theorem c72_r16 (r1 : Addr) (t2 : Addr) (out3 : Addr) (K : Env → W) : RP c72 16 [(1, .pointer (some r1)), (2, .pointer (some t2)), (3, .pointer (some out3))] K =
    (ph fun S0 => (ldq S0 eI ((r1.add 1)) fun (y1_ : Int) => (ldq S0 eI ((r1.add 2)) fun (y2_ : Int) => (st ((out3.add 1)) (.int .i64 y1_) (kpn S0 fun S1 => (st ((out3.add 2)) (.int .i64 y2_) (K [(2, .pointer (some t2)), (3, .pointer (some out3))]))))))) := by kernel_rfl
@[go_sem] theorem c72_r17 (r1 : Addr) (t2 : Addr) (out3 : Addr) (t8 : Int) (K : Env → W) : RP c72 17 [(1, .pointer (some r1)), (2, .pointer (some t2)), (3, .pointer (some out3)), (8, .int .i64 t8)] K =
    (K [(1, .pointer (some r1)), (2, .pointer (some t2)), (3, .pointer (some out3)), (8, .int .i64 t8), (78, .bool ((t8 == (9 : Int))))]) := by kernel_rfl
@[go_sem] theorem c72_r18 (r1 : Addr) (t2 : Addr) (out3 : Addr) (K : Env → W) : RP c72 18 [(1, .pointer (some r1)), (2, .pointer (some t2)), (3, .pointer (some out3))] K =
    (ld eSl ((r1.add 10)) fun (y1_ : (Option Addr × Nat × Nat)) => (st ((out3.add 10)) (.slice y1_.1 y1_.2.1 y1_.2.2) (K [(2, .pointer (some t2)), (3, .pointer (some out3))]))) := by kernel_rfl
@[go_sem] theorem c72_r19 (r1 : Addr) (t2 : Addr) (out3 : Addr) (t8 : Int) (K : Env → W) : RP c72 19 [(1, .pointer (some r1)), (2, .pointer (some t2)), (3, .pointer (some out3)), (8, .int .i64 t8)] K =
    (K [(1, .pointer (some r1)), (2, .pointer (some t2)), (3, .pointer (some out3)), (83, .bool ((t8 == (10 : Int))))]) := by kernel_rfl
@[go_sem] theorem c72_r20 (r1 : Addr) (t2 : Addr) (out3 : Addr) (K : Env → W) : RP c72 20 [(1, .pointer (some r1)), (2, .pointer (some t2)), (3, .pointer (some out3))] K =
    (ph fun S0 => (ldq S0 eI ((r1.add 11)) fun (y1_ : Int) => (ldq S0 eI ((r1.add 12)) fun (y2_ : Int) => (st ((out3.add 11)) (.int .i64 y1_) (kpn S0 fun S1 => (st ((out3.add 12)) (.int .i64 y2_) (K [(2, .pointer (some t2)), (3, .pointer (some out3))]))))))) := by kernel_rfl
@[go_sem] theorem c72_r21 (t2 : Addr) (out3 : Addr) (K : Env → W) : RP c72 21 [(2, .pointer (some t2)), (3, .pointer (some out3))] K =
    (ldn e_api_Rec 13 out3 fun (y1_ : api_Rec) => (stl [.int .i64 y1_.Kind, .int .i64 y1_.Txn, .int .i64 y1_.Prev, .int .i64 y1_.Page, .int .i64 y1_.Act, str y1_.Key, str y1_.Old, str y1_.New, .int .i64 y1_.Next, .slice y1_.Images.1 y1_.Images.2.1 y1_.Images.2.2, .slice y1_.Table.1 y1_.Table.2.1 y1_.Table.2.2, .int .i64 y1_.Epoch, .int .i64 y1_.Node] t2 0 (K [(2, .pointer (some t2))]))) := by kernel_rfl
@[go_sem] theorem c72_o : c72.lo 1000000 = [2] := rfl
@[go_sem] theorem c72_e (t2 : Addr) (k : Value → W) : RTp c72 [(2, .pointer (some t2))] k = (ldn e_api_Rec 13 t2 fun (y1_ : api_Rec) => (k (v_api_Rec y1_))) := by kernel_rfl
theorem c72_ok : (c72.P.follows .mixedOrders && okc c72 c72.body) = true := by kernel_rfl
theorem c72_fn {e : Enc} {args : Array Value} {G : e.α → W} {L : List HP} {ρ : Env} (hρ : envA 0 args.toList = ρ) (hs : Nat.ble args.size 92 = true) (h : E L (D c72 (.seq (.reg 0) (.seq (.reg 1) (.seq (.seq (.reg 2) (.block 0 (.seq (.seq (.reg 3) (.cond (.tmp 9) (.skip) (.reg 4))) (.cond (.tmp 9) (.reg 5) (.seq (.seq (.reg 6) (.cond (.tmp 15) (.skip) (.seq (.reg 7) (.cond (.tmp 15) (.skip) (.reg 8))))) (.cond (.tmp 15) (.seq (.reg 9) (.reg 10)) (.seq (.reg 11) (.cond (.tmp 40) (.seq (.reg 12) (.reg 13)) (.seq (.seq (.reg 14) (.cond (.tmp 69) (.skip) (.reg 15))) (.cond (.tmp 69) (.reg 16) (.seq (.reg 17) (.cond (.tmp 78) (.reg 18) (.seq (.reg 19) (.cond (.tmp 83) (.reg 20) (.skip))))))))))))))) (.seq (.reg 21) (.ret))))) (fnQ c72 e G) ρ)) : E L (cal e Tryz.prog 72 args G) :=
  d_fn (c := c72) Tryz.func72 (by kernel_rfl) (by kernel_rfl) (by kernel_rfl) c72_ok (by kernel_rfl) (by kernel_rfl) hρ hs h
/-! gharry.rec.images -/
noncomputable def c104 : Cfg := { P := Tryz.prog, n := 30, T := TT, body := (Tryz.f104.body).getD .skip, res := Tryz.f104.results.toList, li := lk [] [(0, [0, 1]), (1, [0, 1]), (2, [0, 1]), (3, [0, 11, 12, 13]), (4, [0, 11, 12, 13]), (5, [0, 6, 11, 12, 13]), (6, []), (7, [0, 6, 11, 12, 13]), (8, [0, 6, 11, 12, 13]), (9, [0, 11, 12, 13]), (10, [])], lo := lk [] [(0, [0, 1]), (1, [0, 1]), (2, [0, 11, 12, 13]), (3, [0, 11, 12, 13, 14]), (4, [0, 6, 11, 12, 13]), (5, [0, 6, 11, 12, 13, 20]), (6, [4]), (7, [0, 6, 11, 12, 13]), (8, [0, 11, 12, 13]), (9, [0, 11, 12, 13]), (10, [4]), (1000000, [4])], ord := lk (false, []) [] }
@[go_sem] theorem c104_i0 : c104.li 0 = [0, 1] := rfl
@[go_sem] theorem c104_i1 : c104.li 1 = [0, 1] := rfl
@[go_sem] theorem c104_i2 : c104.li 2 = [0, 1] := rfl
@[go_sem] theorem c104_i3 : c104.li 3 = [0, 11, 12, 13] := rfl
@[go_sem] theorem c104_i4 : c104.li 4 = [0, 11, 12, 13] := rfl
@[go_sem] theorem c104_i5 : c104.li 5 = [0, 6, 11, 12, 13] := rfl
@[go_sem] theorem c104_i6 : c104.li 6 = [] := rfl
@[go_sem] theorem c104_i7 : c104.li 7 = [0, 6, 11, 12, 13] := rfl
@[go_sem] theorem c104_i8 : c104.li 8 = [0, 6, 11, 12, 13] := rfl
@[go_sem] theorem c104_i9 : c104.li 9 = [0, 11, 12, 13] := rfl
@[go_sem] theorem c104_i10 : c104.li 10 = [] := rfl
@[go_sem] theorem c104_r0 (w0 : Option Addr) (l1p : Option Addr) (l1n l1c : Nat) (K : Env → W) : RP c104 0 [(0, .pointer w0), (1, .slice l1p l1n l1c)] K =
    (K [(0, .pointer w0), (1, .slice l1p l1n l1c)]) := by kernel_rfl
@[go_sem] theorem c104_r1 (w0 : Option Addr) (l1p : Option Addr) (l1n l1c : Nat) (K : Env → W) : RP c104 1 [(0, .pointer w0), (1, .slice l1p l1n l1c)] K =
    (cal eN Tryz.prog 103 #[.pointer w0, .int .i64 ((l1n : Int)), .int .i64 (1 : Int)] fun (y1_ : Unit) => (K [(0, .pointer w0), (1, .slice l1p l1n l1c)])) := by kernel_rfl
@[go_sem] theorem c104_r2 (w0 : Option Addr) (l1p : Option Addr) (l1n l1c : Nat) (K : Env → W) : RP c104 2 [(0, .pointer w0), (1, .slice l1p l1n l1c)] K =
    (K [(0, .pointer w0), (11, .slice l1p l1n l1c), (12, .int .i64 ((l1n : Int))), (13, .int .i64 (0 : Int))]) := by kernel_rfl
@[go_sem] theorem c104_r3 (w0 : Option Addr) (t11p : Option Addr) (t11n t11c : Nat) (t12 : Int) (t13 : Int) (K : Env → W) : RP c104 3 [(0, .pointer w0), (11, .slice t11p t11n t11c), (12, .int .i64 t12), (13, .int .i64 t13)] K =
    (K [(0, .pointer w0), (11, .slice t11p t11n t11c), (12, .int .i64 t12), (13, .int .i64 t13), (14, .bool ((decide (t13 < t12))))]) := by kernel_rfl
@[go_sem] theorem c104_r4 (w0 : Option Addr) (t11p : Option Addr) (t11n t11c : Nat) (t12 : Int) (t13 : Int) (K : Env → W) : RP c104 4 [(0, .pointer w0), (11, .slice t11p t11n t11c), (12, .int .i64 t12), (13, .int .i64 t13)] K =
    (rq (0 ≤ t13 ∧ t13 < (t11n : Int)) (nn t11p fun y1_ => (ldn e_api_Image 2 ((Addr.add y1_ ((t13).toNat * 2))) fun (y2_ : api_Image) => (nwc #[.int .i64 (0 : Int), str (([] : List UInt8))] 123 fun y3_ => (stl [.int .i64 y2_.Page, str y2_.Text] y3_ 0 (K [(0, .pointer w0), (6, .pointer (some y3_)), (11, .slice t11p t11n t11c), (12, .int .i64 t12), (13, .int .i64 t13)])))))) := by kernel_rfl
@[go_sem] theorem c104_r5 (w0 : Option Addr) (m6 : Addr) (t11p : Option Addr) (t11n t11c : Nat) (t12 : Int) (t13 : Int) (K : Env → W) : RP c104 5 [(0, .pointer w0), (6, .pointer (some m6)), (11, .slice t11p t11n t11c), (12, .int .i64 t12), (13, .int .i64 t13)] K =
    (ld eS ((m6.add 1)) fun (y1_ : List UInt8) => (K [(0, .pointer w0), (6, .pointer (some m6)), (11, .slice t11p t11n t11c), (12, .int .i64 t12), (13, .int .i64 t13), (20, .bool ((((y1_).length : Int) != (224 : Int))))])) := by kernel_rfl
@[go_sem] theorem c104_r6 (K : Env → W) : RP c104 6 [] K =
    (K [(4, .int .i64 (4 : Int))]) := by kernel_rfl
@[go_sem] theorem c104_r7 (w0 : Option Addr) (m6 : Addr) (t11p : Option Addr) (t11n t11c : Nat) (t12 : Int) (t13 : Int) (K : Env → W) : RP c104 7 [(0, .pointer w0), (6, .pointer (some m6)), (11, .slice t11p t11n t11c), (12, .int .i64 t12), (13, .int .i64 t13)] K =
    (ld eI m6 fun (y1_ : Int) => (cal eN Tryz.prog 103 #[.pointer w0, .int .i64 y1_, .int .i64 (2 : Int)] fun (y2_ : Unit) => (K [(0, .pointer w0), (6, .pointer (some m6)), (11, .slice t11p t11n t11c), (12, .int .i64 t12), (13, .int .i64 t13)]))) := by kernel_rfl
@[go_sem] theorem c104_r8 (w0 : Option Addr) (m6 : Addr) (t11p : Option Addr) (t11n t11c : Nat) (t12 : Int) (t13 : Int) (K : Env → W) : RP c104 8 [(0, .pointer w0), (6, .pointer (some m6)), (11, .slice t11p t11n t11c), (12, .int .i64 t12), (13, .int .i64 t13)] K =
    (ld eS ((m6.add 1)) fun (y1_ : List UInt8) => (cal eN Tryz.prog 127 #[.pointer w0, str y1_] fun (y2_ : Unit) => (K [(0, .pointer w0), (11, .slice t11p t11n t11c), (12, .int .i64 t12), (13, .int .i64 t13)]))) := by kernel_rfl
@[go_sem] theorem c104_r9 (w0 : Option Addr) (t11p : Option Addr) (t11n t11c : Nat) (t12 : Int) (t13 : Int) (K : Env → W) : RP c104 9 [(0, .pointer w0), (11, .slice t11p t11n t11c), (12, .int .i64 t12), (13, .int .i64 t13)] K =
    (K [(0, .pointer w0), (11, .slice t11p t11n t11c), (12, .int .i64 t12), (13, .int .i64 ((IntKind.wrap .i64 (t13 + (1 : Int)))))]) := by kernel_rfl
@[go_sem] theorem c104_r10 (K : Env → W) : RP c104 10 [] K =
    (K [(4, .int .i64 (0 : Int))]) := by kernel_rfl
@[go_sem] theorem c104_o : c104.lo 1000000 = [4] := rfl
@[go_sem] theorem c104_e (t4 : Int) (k : Value → W) : RTp c104 [(4, .int .i64 t4)] k = (k (.int .i64 t4)) := by kernel_rfl
theorem c104_ok : (c104.P.follows .mixedOrders && okc c104 c104.body) = true := by kernel_rfl
theorem c104_fn {e : Enc} {args : Array Value} {G : e.α → W} {L : List HP} {ρ : Env} (hρ : envA 0 args.toList = ρ) (hs : Nat.ble args.size 30 = true) (h : E L (D c104 (.seq (.reg 0) (.seq (.reg 1) (.seq (.seq (.reg 2) (.block 0 (.loop (.seq (.reg 3) (.seq (.cond (.tmp 14) (.skip) (.exit 0)) (.seq (.block 1 (.seq (.reg 4) (.seq (.seq (.reg 5) (.cond (.tmp 20) (.seq (.reg 6) (.ret)) (.skip))) (.seq (.reg 7) (.reg 8))))) (.reg 9))))))) (.seq (.reg 10) (.ret))))) (fnQ c104 e G) ρ)) : E L (cal e Tryz.prog 104 args G) :=
  d_fn (c := c104) Tryz.func104 (by kernel_rfl) (by kernel_rfl) (by kernel_rfl) c104_ok (by kernel_rfl) (by kernel_rfl) hρ hs h
-- loop (first region 3): live slots 0:w0 11:t11 12:t12 13:t13, of which it writes [13]
/-! gharry.rec.cut -/
noncomputable def c105 : Cfg := { P := Tryz.prog, n := 20, T := TT, body := (Tryz.f105.body).getD .skip, res := Tryz.f105.results.toList, li := lk [] [(0, [0, 1]), (1, [0, 1]), (2, []), (3, [1]), (4, [10, 11, 12]), (5, [10, 11, 12]), (6, [6, 10, 11, 12]), (7, []), (8, [10, 11, 12]), (9, [])], lo := lk [] [(0, [0, 1]), (1, [1, 9]), (2, [4]), (3, [10, 11, 12]), (4, [10, 11, 12, 13]), (5, [6, 10, 11, 12]), (6, [10, 11, 12, 18]), (7, [4]), (8, [10, 11, 12]), (9, [4]), (1000000, [4])], ord := lk (false, []) [] }
@[go_sem] theorem c105_i0 : c105.li 0 = [0, 1] := rfl
@[go_sem] theorem c105_i1 : c105.li 1 = [0, 1] := rfl
@[go_sem] theorem c105_i2 : c105.li 2 = [] := rfl
@[go_sem] theorem c105_i3 : c105.li 3 = [1] := rfl
@[go_sem] theorem c105_i4 : c105.li 4 = [10, 11, 12] := rfl
@[go_sem] theorem c105_i5 : c105.li 5 = [10, 11, 12] := rfl
@[go_sem] theorem c105_i6 : c105.li 6 = [6, 10, 11, 12] := rfl
@[go_sem] theorem c105_i7 : c105.li 7 = [] := rfl
@[go_sem] theorem c105_i8 : c105.li 8 = [10, 11, 12] := rfl
@[go_sem] theorem c105_i9 : c105.li 9 = [] := rfl
@[go_sem] theorem c105_r0 (key0 : List UInt8) (values1p : Option Addr) (values1n values1c : Nat) (K : Env → W) : RP c105 0 [(0, str key0), (1, .slice values1p values1n values1c)] K =
    (K [(0, str key0), (1, .slice values1p values1n values1c)]) := by kernel_rfl
@[go_sem] theorem c105_r1 (key0 : List UInt8) (values1p : Option Addr) (values1n values1c : Nat) (K : Env → W) : RP c105 1 [(0, str key0), (1, .slice values1p values1n values1c)] K =
    (K [(1, .slice values1p values1n values1c), (9, .bool ((decide ((16 : Int) < ((key0).length : Int)))))]) := by kernel_rfl
@[go_sem] theorem c105_r2 (K : Env → W) : RP c105 2 [] K =
    (K [(4, .int .i64 (17 : Int))]) := by kernel_rfl
@[go_sem] theorem c105_r3 (values1p : Option Addr) (values1n values1c : Nat) (K : Env → W) : RP c105 3 [(1, .slice values1p values1n values1c)] K =
    (K [(10, .slice values1p values1n values1c), (11, .int .i64 ((values1n : Int))), (12, .int .i64 (0 : Int))]) := by kernel_rfl
@[go_sem] theorem c105_r4 (t10p : Option Addr) (t10n t10c : Nat) (t11 : Int) (t12 : Int) (K : Env → W) : RP c105 4 [(10, .slice t10p t10n t10c), (11, .int .i64 t11), (12, .int .i64 t12)] K =
    (K [(10, .slice t10p t10n t10c), (11, .int .i64 t11), (12, .int .i64 t12), (13, .bool ((decide (t12 < t11))))]) := by kernel_rfl
@[go_sem] theorem c105_r5 (t10p : Option Addr) (t10n t10c : Nat) (t11 : Int) (t12 : Int) (K : Env → W) : RP c105 5 [(10, .slice t10p t10n t10c), (11, .int .i64 t11), (12, .int .i64 t12)] K =
    (rq (0 ≤ t12 ∧ t12 < (t10n : Int)) (nn t10p fun y1_ => (ld eS ((Addr.add y1_ ((t12).toNat * 1))) fun (y2_ : List UInt8) => (K [(6, str y2_), (10, .slice t10p t10n t10c), (11, .int .i64 t11), (12, .int .i64 t12)])))) := by kernel_rfl
@[go_sem] theorem c105_r6 (v6 : List UInt8) (t10p : Option Addr) (t10n t10c : Nat) (t11 : Int) (t12 : Int) (K : Env → W) : RP c105 6 [(6, str v6), (10, .slice t10p t10n t10c), (11, .int .i64 t11), (12, .int .i64 t12)] K =
    (K [(10, .slice t10p t10n t10c), (11, .int .i64 t11), (12, .int .i64 t12), (18, .bool ((decide ((32 : Int) < ((v6).length : Int)))))]) := by kernel_rfl
@[go_sem] theorem c105_r7 (K : Env → W) : RP c105 7 [] K =
    (K [(4, .int .i64 (18 : Int))]) := by kernel_rfl
@[go_sem] theorem c105_r8 (t10p : Option Addr) (t10n t10c : Nat) (t11 : Int) (t12 : Int) (K : Env → W) : RP c105 8 [(10, .slice t10p t10n t10c), (11, .int .i64 t11), (12, .int .i64 t12)] K =
    (K [(10, .slice t10p t10n t10c), (11, .int .i64 t11), (12, .int .i64 ((IntKind.wrap .i64 (t12 + (1 : Int)))))]) := by kernel_rfl
@[go_sem] theorem c105_r9 (K : Env → W) : RP c105 9 [] K =
    (K [(4, .int .i64 (0 : Int))]) := by kernel_rfl
@[go_sem] theorem c105_o : c105.lo 1000000 = [4] := rfl
@[go_sem] theorem c105_e (t4 : Int) (k : Value → W) : RTp c105 [(4, .int .i64 t4)] k = (k (.int .i64 t4)) := by kernel_rfl
theorem c105_ok : (c105.P.follows .mixedOrders && okc c105 c105.body) = true := by kernel_rfl
theorem c105_fn {e : Enc} {args : Array Value} {G : e.α → W} {L : List HP} {ρ : Env} (hρ : envA 0 args.toList = ρ) (hs : Nat.ble args.size 20 = true) (h : E L (D c105 (.seq (.reg 0) (.seq (.seq (.reg 1) (.cond (.tmp 9) (.seq (.reg 2) (.ret)) (.skip))) (.seq (.seq (.reg 3) (.block 0 (.loop (.seq (.reg 4) (.seq (.cond (.tmp 13) (.skip) (.exit 0)) (.seq (.block 1 (.seq (.reg 5) (.seq (.reg 6) (.cond (.tmp 18) (.seq (.reg 7) (.ret)) (.skip))))) (.reg 8))))))) (.seq (.reg 9) (.ret))))) (fnQ c105 e G) ρ)) : E L (cal e Tryz.prog 105 args G) :=
  d_fn (c := c105) Tryz.func105 (by kernel_rfl) (by kernel_rfl) (by kernel_rfl) c105_ok (by kernel_rfl) (by kernel_rfl) hρ hs h
-- loop (first region 4): live slots 10:t10 11:t11 12:t12, of which it writes [12]
/-! gharry.rec.link -/
noncomputable def c106 : Cfg := { P := Tryz.prog, n := 12, T := TT, body := (Tryz.f106.body).getD .skip, res := Tryz.f106.results.toList, li := lk [] [(0, [0, 1]), (1, [0, 3]), (2, [0, 3])], lo := lk [] [(0, [0, 3]), (1, [0, 3]), (2, []), (1000000, [])], ord := lk (false, []) [] }
@[go_sem] theorem c106_i0 : c106.li 0 = [0, 1] := rfl
@[go_sem] theorem c106_i1 : c106.li 1 = [0, 3] := rfl
@[go_sem] theorem c106_i2 : c106.li 2 = [0, 3] := rfl
@[go_sem] theorem c106_r0 (w0 : Option Addr) (r1 : api_Rec) (K : Env → W) : RP c106 0 [(0, .pointer w0), (1, v_api_Rec r1)] K =
    (nwc #[.int .i64 r1.Kind, .int .i64 r1.Txn, .int .i64 r1.Prev, .int .i64 r1.Page, .int .i64 r1.Act, str r1.Key, str r1.Old, str r1.New, .int .i64 r1.Next, .slice r1.Images.1 r1.Images.2.1 r1.Images.2.2, .slice r1.Table.1 r1.Table.2.1 r1.Table.2.2, .int .i64 r1.Epoch, .int .i64 r1.Node] 36 fun y1_ => (K [(0, .pointer w0), (3, .pointer (some y1_))])) := by kernel_rfl
@[go_sem] theorem c106_r1 (w0 : Option Addr) (r3 : Addr) (K : Env → W) : RP c106 1 [(0, .pointer w0), (3, .pointer (some r3))] K =
    (ld eI ((r3.add 1)) fun (y1_ : Int) => (cal eN Tryz.prog 103 #[.pointer w0, .int .i64 y1_, .int .i64 (6 : Int)] fun (y2_ : Unit) => (K [(0, .pointer w0), (3, .pointer (some r3))]))) := by kernel_rfl
@[go_sem] theorem c106_r2 (w0 : Option Addr) (r3 : Addr) (K : Env → W) : RP c106 2 [(0, .pointer w0), (3, .pointer (some r3))] K =
    (ld eI ((r3.add 2)) fun (y1_ : Int) => (cal eN Tryz.prog 103 #[.pointer w0, .int .i64 y1_, .int .i64 (6 : Int)] fun (y2_ : Unit) => (K []))) := by kernel_rfl
@[go_sem] theorem c106_o : c106.lo 1000000 = [] := rfl
@[go_sem] theorem c106_e (k : Value → W) : RTp c106 [] k = (k (.tuple #[])) := by kernel_rfl
theorem c106_ok : (c106.P.follows .mixedOrders && okc c106 c106.body) = true := by kernel_rfl
theorem c106_fn {e : Enc} {args : Array Value} {G : e.α → W} {L : List HP} {ρ : Env} (hρ : envA 0 args.toList = ρ) (hs : Nat.ble args.size 12 = true) (h : E L (D c106 (.seq (.reg 0) (.seq (.reg 1) (.reg 2))) (fnQ c106 e G) ρ)) : E L (cal e Tryz.prog 106 args G) :=
  d_fn (c := c106) Tryz.func106 (by kernel_rfl) (by kernel_rfl) (by kernel_rfl) c106_ok (by kernel_rfl) (by kernel_rfl) hρ hs h
/-! gharry.rec.change -/
noncomputable def c107 : Cfg := { P := Tryz.prog, n := 26, T := TT, body := (Tryz.f107.body).getD .skip, res := Tryz.f107.results.toList, li := lk [] [(0, [0, 1, 2]), (1, [0, 2, 4]), (2, [0, 2, 4]), (3, [0, 2, 4]), (4, [0, 2, 4]), (5, [0, 2, 4]), (6, [0, 4])], lo := lk [] [(0, [0, 2, 4]), (1, [0, 2, 4]), (2, [0, 2, 4]), (3, [0, 2, 4, 15]), (4, [0, 2, 4]), (5, [0, 4, 21]), (6, []), (1000000, [])], ord := lk (false, []) [] }
@[go_sem] theorem c107_i0 : c107.li 0 = [0, 1, 2] := rfl
@[go_sem] theorem c107_i1 : c107.li 1 = [0, 2, 4] := rfl
@[go_sem] theorem c107_i2 : c107.li 2 = [0, 2, 4] := rfl
@[go_sem] theorem c107_i3 : c107.li 3 = [0, 2, 4] := rfl
@[go_sem] theorem c107_i4 : c107.li 4 = [0, 2, 4] := rfl
@[go_sem] theorem c107_i5 : c107.li 5 = [0, 2, 4] := rfl
@[go_sem] theorem c107_i6 : c107.li 6 = [0, 4] := rfl
@[go_sem] theorem c107_r0 (w0 : Option Addr) (r1 : api_Rec) (act2 : Int) (K : Env → W) : RP c107 0 [(0, .pointer w0), (1, v_api_Rec r1), (2, .int .i64 act2)] K =
    (nwc #[.int .i64 r1.Kind, .int .i64 r1.Txn, .int .i64 r1.Prev, .int .i64 r1.Page, .int .i64 r1.Act, str r1.Key, str r1.Old, str r1.New, .int .i64 r1.Next, .slice r1.Images.1 r1.Images.2.1 r1.Images.2.2, .slice r1.Table.1 r1.Table.2.1 r1.Table.2.2, .int .i64 r1.Epoch, .int .i64 r1.Node] 36 fun y1_ => (K [(0, .pointer w0), (2, .int .i64 act2), (4, .pointer (some y1_))])) := by kernel_rfl
@[go_sem] theorem c107_r1 (w0 : Option Addr) (act2 : Int) (r4 : Addr) (K : Env → W) : RP c107 1 [(0, .pointer w0), (2, .int .i64 act2), (4, .pointer (some r4))] K =
    (ld eI ((r4.add 3)) fun (y1_ : Int) => (cal eN Tryz.prog 103 #[.pointer w0, .int .i64 y1_, .int .i64 (2 : Int)] fun (y2_ : Unit) => (K [(0, .pointer w0), (2, .int .i64 act2), (4, .pointer (some r4))]))) := by kernel_rfl
@[go_sem] theorem c107_r2 (w0 : Option Addr) (act2 : Int) (r4 : Addr) (K : Env → W) : RP c107 2 [(0, .pointer w0), (2, .int .i64 act2), (4, .pointer (some r4))] K =
    (ld eS ((r4.add 5)) fun (y1_ : List UInt8) => (cal eN Tryz.prog 127 #[.pointer w0, str y1_] fun (y2_ : Unit) => (K [(0, .pointer w0), (2, .int .i64 act2), (4, .pointer (some r4))]))) := by kernel_rfl
@[go_sem] theorem c107_r3 (w0 : Option Addr) (act2 : Int) (r4 : Addr) (K : Env → W) : RP c107 3 [(0, .pointer w0), (2, .int .i64 act2), (4, .pointer (some r4))] K =
    (K [(0, .pointer w0), (2, .int .i64 act2), (4, .pointer (some r4)), (15, .bool ((act2 != (3 : Int))))]) := by kernel_rfl
@[go_sem] theorem c107_r4 (w0 : Option Addr) (act2 : Int) (r4 : Addr) (K : Env → W) : RP c107 4 [(0, .pointer w0), (2, .int .i64 act2), (4, .pointer (some r4))] K =
    (ld eS ((r4.add 6)) fun (y1_ : List UInt8) => (cal eN Tryz.prog 127 #[.pointer w0, str y1_] fun (y2_ : Unit) => (K [(0, .pointer w0), (2, .int .i64 act2), (4, .pointer (some r4))]))) := by kernel_rfl
@[go_sem] theorem c107_r5 (w0 : Option Addr) (act2 : Int) (r4 : Addr) (K : Env → W) : RP c107 5 [(0, .pointer w0), (2, .int .i64 act2), (4, .pointer (some r4))] K =
    (K [(0, .pointer w0), (4, .pointer (some r4)), (21, .bool ((act2 != (4 : Int))))]) := by kernel_rfl
@[go_sem] theorem c107_r6 (w0 : Option Addr) (r4 : Addr) (K : Env → W) : RP c107 6 [(0, .pointer w0), (4, .pointer (some r4))] K =
    (ld eS ((r4.add 7)) fun (y1_ : List UInt8) => (cal eN Tryz.prog 127 #[.pointer w0, str y1_] fun (y2_ : Unit) => (K []))) := by kernel_rfl
@[go_sem] theorem c107_o : c107.lo 1000000 = [] := rfl
@[go_sem] theorem c107_e (k : Value → W) : RTp c107 [] k = (k (.tuple #[])) := by kernel_rfl
theorem c107_ok : (c107.P.follows .mixedOrders && okc c107 c107.body) = true := by kernel_rfl
theorem c107_fn {e : Enc} {args : Array Value} {G : e.α → W} {L : List HP} {ρ : Env} (hρ : envA 0 args.toList = ρ) (hs : Nat.ble args.size 26 = true) (h : E L (D c107 (.seq (.reg 0) (.seq (.reg 1) (.seq (.reg 2) (.seq (.seq (.reg 3) (.cond (.tmp 15) (.reg 4) (.skip))) (.seq (.reg 5) (.cond (.tmp 21) (.reg 6) (.skip))))))) (fnQ c107 e G) ρ)) : E L (cal e Tryz.prog 107 args G) :=
  d_fn (c := c107) Tryz.func107 (by kernel_rfl) (by kernel_rfl) (by kernel_rfl) c107_ok (by kernel_rfl) (by kernel_rfl) hρ hs h
/-! gharry.rec.tidy -/
noncomputable def c109 : Cfg := { P := Tryz.prog, n := 15, T := TT, body := (Tryz.f109.body).getD .skip, res := Tryz.f109.results.toList, li := lk [] [(0, [0, 1]), (1, [0, 4]), (2, [0]), (3, [0, 4]), (4, [0])], lo := lk [] [(0, [0, 4]), (1, [0, 4, 5]), (2, []), (3, [0, 10]), (4, []), (1000000, [])], ord := lk (false, []) [] }
@[go_sem] theorem c109_i0 : c109.li 0 = [0, 1] := rfl
@[go_sem] theorem c109_i1 : c109.li 1 = [0, 4] := rfl
@[go_sem] theorem c109_i2 : c109.li 2 = [0] := rfl
@[go_sem] theorem c109_i3 : c109.li 3 = [0, 4] := rfl
@[go_sem] theorem c109_i4 : c109.li 4 = [0] := rfl
@[go_sem] theorem c109_r0 (r0 : Option Addr) (act1 : Int) (K : Env → W) : RP c109 0 [(0, .pointer r0), (1, .int .i64 act1)] K =
    (K [(0, .pointer r0), (4, .int .i64 act1)]) := by kernel_rfl
@[go_sem] theorem c109_r1 (r0 : Option Addr) (t4 : Int) (K : Env → W) : RP c109 1 [(0, .pointer r0), (4, .int .i64 t4)] K =
    (K [(0, .pointer r0), (4, .int .i64 t4), (5, .bool ((t4 == (3 : Int))))]) := by kernel_rfl
@[go_sem] theorem c109_r2 (r0 : Option Addr) (K : Env → W) : RP c109 2 [(0, .pointer r0)] K =
    (nn r0 fun y1_ => (st ((y1_.add 6)) (str (([] : List UInt8))) (K []))) := by kernel_rfl
@[go_sem] theorem c109_r3 (r0 : Option Addr) (t4 : Int) (K : Env → W) : RP c109 3 [(0, .pointer r0), (4, .int .i64 t4)] K =
    (K [(0, .pointer r0), (10, .bool ((t4 == (4 : Int))))]) := by kernel_rfl
@[go_sem] theorem c109_r4 (r0 : Option Addr) (K : Env → W) : RP c109 4 [(0, .pointer r0)] K =
    (nn r0 fun y1_ => (st ((y1_.add 7)) (str (([] : List UInt8))) (K []))) := by kernel_rfl
@[go_sem] theorem c109_o : c109.lo 1000000 = [] := rfl
@[go_sem] theorem c109_e (k : Value → W) : RTp c109 [] k = (k (.tuple #[])) := by kernel_rfl
theorem c109_ok : (c109.P.follows .mixedOrders && okc c109 c109.body) = true := by kernel_rfl
theorem c109_fn {e : Enc} {args : Array Value} {G : e.α → W} {L : List HP} {ρ : Env} (hρ : envA 0 args.toList = ρ) (hs : Nat.ble args.size 15 = true) (h : E L (D c109 (.seq (.reg 0) (.block 0 (.seq (.reg 1) (.cond (.tmp 5) (.reg 2) (.seq (.reg 3) (.cond (.tmp 10) (.reg 4) (.skip))))))) (fnQ c109 e G) ρ)) : E L (cal e Tryz.prog 109 args G) :=
  d_fn (c := c109) Tryz.func109 (by kernel_rfl) (by kernel_rfl) (by kernel_rfl) c109_ok (by kernel_rfl) (by kernel_rfl) hρ hs h
/-! gharry.rec.Frame -/
noncomputable def c18 : Cfg := { P := Tryz.prog, n := 27, T := TT, body := (Tryz.f18.body).getD .skip, res := Tryz.f18.results.toList, li := lk [] [(0, [0]), (1, [1]), (2, [4, 5]), (3, [5]), (4, [4]), (5, [4, 6])], lo := lk [] [(0, [1]), (1, [4, 5]), (2, [4, 5, 15]), (3, [2, 3]), (4, [4, 6]), (5, [2, 3]), (1000000, [2, 3])], ord := lk (false, []) [] }
@[go_sem] theorem c18_i0 : c18.li 0 = [0] := rfl
@[go_sem] theorem c18_i1 : c18.li 1 = [1] := rfl
@[go_sem] theorem c18_i2 : c18.li 2 = [4, 5] := rfl
@[go_sem] theorem c18_i3 : c18.li 3 = [5] := rfl
@[go_sem] theorem c18_i4 : c18.li 4 = [4] := rfl
@[go_sem] theorem c18_i5 : c18.li 5 = [4, 6] := rfl
@[go_sem] theorem c18_r0 (r0 : api_Rec) (K : Env → W) : RP c18 0 [(0, v_api_Rec r0)] K =
    (nwc #[.int .i64 r0.Kind, .int .i64 r0.Txn, .int .i64 r0.Prev, .int .i64 r0.Page, .int .i64 r0.Act, str r0.Key, str r0.Old, str r0.New, .int .i64 r0.Next, .slice r0.Images.1 r0.Images.2.1 r0.Images.2.2, .slice r0.Table.1 r0.Table.2.1 r0.Table.2.2, .int .i64 r0.Epoch, .int .i64 r0.Node] 36 fun y1_ => (K [(1, .pointer (some y1_))])) := by kernel_rfl
@[go_sem] theorem c18_r1 (r1 : Addr) (K : Env → W) : RP c18 1 [(1, .pointer (some r1))] K =
    (ldn e_api_Rec 13 r1 fun (y1_ : api_Rec) => (cal e_api_Rec Tryz.prog 72 #[v_api_Rec y1_] fun (y2_ : api_Rec) => (cal (eT2 eS eI) Tryz.prog 71 #[v_api_Rec y2_] fun (y3_ : ((List UInt8) × Int)) => (K [(4, str y3_.1), (5, .int .i64 y3_.2)])))) := by kernel_rfl
@[go_sem] theorem c18_r2 (s4 : List UInt8) (e5 : Int) (K : Env → W) : RP c18 2 [(4, str s4), (5, .int .i64 e5)] K =
    (K [(4, str s4), (5, .int .i64 e5), (15, .bool ((e5 != (0 : Int))))]) := by kernel_rfl
@[go_sem] theorem c18_r3 (e5 : Int) (K : Env → W) : RP c18 3 [(5, .int .i64 e5)] K =
    (K [(2, str (([] : List UInt8))), (3, .int .i64 e5)]) := by kernel_rfl
@[go_sem] theorem c18_r4 (s4 : List UInt8) (K : Env → W) : RP c18 4 [(4, str s4)] K =
    (cal (eT2 eS eI) Tryz.prog 73 #[str (([] : List UInt8)), .int .i64 (((s4).length : Int)), .int .i64 (2 : Int)] fun (y1_ : ((List UInt8) × Int)) => (K [(4, str s4), (6, str y1_.1)])) := by kernel_rfl
@[go_sem] theorem c18_r5 (s4 : List UInt8) (out6 : List UInt8) (K : Env → W) : RP c18 5 [(4, str s4), (6, str out6)] K =
    (cal eS Tryz.prog 74 #[str s4] fun (y1_ : List UInt8) => (rq (((out6).length : Int) + ((y1_).length : Int) ≤ 9223372036854775807) (K [(2, str ((out6 ++ y1_))), (3, .int .i64 (0 : Int))]))) := by kernel_rfl
@[go_sem] theorem c18_o : c18.lo 1000000 = [2, 3] := rfl
@[go_sem] theorem c18_e (t2 : List UInt8) (t3 : Int) (k : Value → W) : RTp c18 [(2, str t2), (3, .int .i64 t3)] k = (k (.tuple #[str t2, .int .i64 t3])) := by kernel_rfl
theorem c18_ok : (c18.P.follows .mixedOrders && okc c18 c18.body) = true := by kernel_rfl
theorem c18_fn {e : Enc} {args : Array Value} {G : e.α → W} {L : List HP} {ρ : Env} (hρ : envA 0 args.toList = ρ) (hs : Nat.ble args.size 27 = true) (h : E L (D c18 (.seq (.reg 0) (.seq (.reg 1) (.seq (.seq (.reg 2) (.cond (.tmp 15) (.seq (.reg 3) (.ret)) (.skip))) (.seq (.reg 4) (.seq (.reg 5) (.ret)))))) (fnQ c18 e G) ρ)) : E L (cal e Tryz.prog 18 args G) :=
  d_fn (c := c18) Tryz.func18 (by kernel_rfl) (by kernel_rfl) (by kernel_rfl) c18_ok (by kernel_rfl) (by kernel_rfl) hρ hs h
end Go.Sp
