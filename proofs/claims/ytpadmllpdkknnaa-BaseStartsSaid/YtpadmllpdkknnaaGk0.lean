/- What each region of the Go functions does. Written by my own generator. -/
import Derived.Test.YtpadmllpdkknnaaT
namespace Go.Sp
open Go
set_option maxRecDepth 100000
set_option linter.unusedVariables false
open Go.Proofs
/-! gharry.pack.Read -/
noncomputable def c72 : Cfg := { P := Try.prog, n := 6, T := TT, body := (Try.f72.body).getD .skip, res := Try.f72.results.toList, li := lk [] [(0, [0]), (1, [0])], lo := lk [] [(0, [0]), (1, [2]), (1000000, [2])], ord := lk (false, []) [] }
@[go_sem] theorem c72_i0 : c72.li 0 = [0] := rfl
@[go_sem] theorem c72_i1 : c72.li 1 = [0] := rfl
@[go_sem] theorem c72_r0 (s0 : List UInt8) (K : Env → W) : RP c72 0 [(0, str s0)] K =
    (K [(0, str s0)]) := by kernel_rfl
@[go_sem] theorem c72_r1 (s0 : List UInt8) (K : Env → W) : RP c72 1 [(0, str s0)] K =
    (nwc #[str (((⟨s0, (0 : Int), (0 : Int)⟩ : pack_Reader)).s), .int .i64 (((⟨s0, (0 : Int), (0 : Int)⟩ : pack_Reader)).f_at), .int .i64 (((⟨s0, (0 : Int), (0 : Int)⟩ : pack_Reader)).e)] 130 fun y1_ => (K [(2, .pointer (some y1_))])) := by kernel_rfl
@[go_sem] theorem c72_o : c72.lo 1000000 = [2] := rfl
@[go_sem] theorem c72_e (t2 : Option Addr) (k : Value → W) : RTp c72 [(2, .pointer t2)] k = (k (.pointer t2)) := by kernel_rfl
theorem c72_ok : (c72.P.follows .mixedOrders && okc c72 c72.body) = true := by kernel_rfl
theorem c72_fn {e : Enc} {args : Array Value} {G : e.α → W} {L : List HP} {ρ : Env} (hρ : envA 0 args.toList = ρ) (hs : Nat.ble args.size 6 = true) (h : E L (D c72 (.seq (.reg 0) (.seq (.reg 1) (.ret))) (fnQ c72 e G) ρ)) : E L (cal e Try.prog 72 args G) :=
  d_fn (c := c72) Try.func72 (by kernel_rfl) (by kernel_rfl) (by kernel_rfl) c72_ok (by kernel_rfl) (by kernel_rfl) hρ hs h
/-! (*gharry.pack.Reader).Text -/
noncomputable def c73 : Cfg := { P := Try.prog, n := 21, T := TT, body := (Try.f73.body).getD .skip, res := Try.f73.results.toList, li := lk [] [(0, [0, 1]), (1, [0, 1]), (2, [0, 1, 5]), (3, [0, 5]), (4, [0, 5])], lo := lk [] [(0, [0, 1]), (1, [0, 1, 5]), (2, [0, 5, 15]), (3, [0, 5]), (4, [4]), (1000000, [4])], ord := lk (false, []) [] }
@[go_sem] theorem c73_i0 : c73.li 0 = [0, 1] := rfl
@[go_sem] theorem c73_i1 : c73.li 1 = [0, 1] := rfl
@[go_sem] theorem c73_i2 : c73.li 2 = [0, 1, 5] := rfl
@[go_sem] theorem c73_i3 : c73.li 3 = [0, 5] := rfl
@[go_sem] theorem c73_i4 : c73.li 4 = [0, 5] := rfl
@[go_sem] theorem c73_r0 (r0 : Option Addr) (most1 : Int) (K : Env → W) : RP c73 0 [(0, .pointer r0), (1, .int .i64 most1)] K =
    (K [(0, .pointer r0), (1, .int .i64 most1)]) := by kernel_rfl
@[go_sem] theorem c73_r1 (r0 : Option Addr) (most1 : Int) (K : Env → W) : RP c73 1 [(0, .pointer r0), (1, .int .i64 most1)] K =
    (cal eI Try.prog 75 #[.pointer r0, .int .i64 ((2 : Int))] fun (y1_ : Int) => (K [(0, .pointer r0), (1, .int .i64 most1), (5, .int .i64 y1_)])) := by kernel_rfl
@[go_sem] theorem c73_r2 (r0 : Option Addr) (most1 : Int) (n5 : Int) (K : Env → W) : RP c73 2 [(0, .pointer r0), (1, .int .i64 most1), (5, .int .i64 n5)] K =
    (cal eB Try.prog 88 #[.pointer r0] fun (y1_ : Bool) => (cnd ((!y1_)) (K [(0, .pointer r0), (5, .int .i64 n5), (15, .bool ((decide (most1 < n5))))]) (K [(0, .pointer r0), (5, .int .i64 n5), (15, .bool false)]))) := by kernel_rfl
@[go_sem] theorem c73_r3 (r0 : Option Addr) (n5 : Int) (K : Env → W) : RP c73 3 [(0, .pointer r0), (5, .int .i64 n5)] K =
    (cal eN Try.prog 89 #[.pointer r0, .int .i64 ((3 : Int))] fun (y1_ : Unit) => (K [(0, .pointer r0), (5, .int .i64 n5)])) := by kernel_rfl
@[go_sem] theorem c73_r4 (r0 : Option Addr) (n5 : Int) (K : Env → W) : RP c73 4 [(0, .pointer r0), (5, .int .i64 n5)] K =
    (cal eS Try.prog 90 #[.pointer r0, .int .i64 n5] fun (y1_ : List UInt8) => (K [(4, str y1_)])) := by kernel_rfl
@[go_sem] theorem c73_o : c73.lo 1000000 = [4] := rfl
@[go_sem] theorem c73_e (t4 : List UInt8) (k : Value → W) : RTp c73 [(4, str t4)] k = (k (str t4)) := by kernel_rfl
theorem c73_ok : (c73.P.follows .mixedOrders && okc c73 c73.body) = true := by kernel_rfl
theorem c73_fn {e : Enc} {args : Array Value} {G : e.α → W} {L : List HP} {ρ : Env} (hρ : envA 0 args.toList = ρ) (hs : Nat.ble args.size 21 = true) (h : E L (D c73 (.seq (.reg 0) (.seq (.reg 1) (.seq (.seq (.reg 2) (.cond (.tmp 15) (.reg 3) (.skip))) (.seq (.reg 4) (.ret))))) (fnQ c73 e G) ρ)) : E L (cal e Try.prog 73 args G) :=
  d_fn (c := c73) Try.func73 (by kernel_rfl) (by kernel_rfl) (by kernel_rfl) c73_ok (by kernel_rfl) (by kernel_rfl) hρ hs h
/-! (*gharry.pack.Reader).Err -/
noncomputable def c74 : Cfg := { P := Try.prog, n := 9, T := TT, body := (Try.f74.body).getD .skip, res := Try.f74.results.toList, li := lk [] [(0, [0]), (1, [0]), (2, []), (3, [0])], lo := lk [] [(0, [0]), (1, [0, 4]), (2, [2]), (3, [2]), (1000000, [2])], ord := lk (false, []) [] }
@[go_sem] theorem c74_i0 : c74.li 0 = [0] := rfl
@[go_sem] theorem c74_i1 : c74.li 1 = [0] := rfl
@[go_sem] theorem c74_i2 : c74.li 2 = [] := rfl
@[go_sem] theorem c74_i3 : c74.li 3 = [0] := rfl
@[go_sem] theorem c74_r0 (r0 : Option Addr) (K : Env → W) : RP c74 0 [(0, .pointer r0)] K =
    (K [(0, .pointer r0)]) := by kernel_rfl
@[go_sem] theorem c74_r1 (r0 : Option Addr) (K : Env → W) : RP c74 1 [(0, .pointer r0)] K =
    (K [(0, .pointer r0), (4, .bool ((r0).isNone))]) := by kernel_rfl
@[go_sem] theorem c74_r2 (K : Env → W) : RP c74 2 [] K =
    (K [(2, .int .i64 ((11 : Int)))]) := by kernel_rfl
@[go_sem] theorem c74_r3 (r0 : Option Addr) (K : Env → W) : RP c74 3 [(0, .pointer r0)] K =
    (nn r0 fun y1_ => (ld eI ((y1_.add 2)) fun (y2_ : Int) => (K [(2, .int .i64 y2_)]))) := by kernel_rfl
@[go_sem] theorem c74_o : c74.lo 1000000 = [2] := rfl
@[go_sem] theorem c74_e (t2 : Int) (k : Value → W) : RTp c74 [(2, .int .i64 t2)] k = (k (.int .i64 t2)) := by kernel_rfl
theorem c74_ok : (c74.P.follows .mixedOrders && okc c74 c74.body) = true := by kernel_rfl
theorem c74_fn {e : Enc} {args : Array Value} {G : e.α → W} {L : List HP} {ρ : Env} (hρ : envA 0 args.toList = ρ) (hs : Nat.ble args.size 9 = true) (h : E L (D c74 (.seq (.reg 0) (.seq (.seq (.reg 1) (.cond (.tmp 4) (.seq (.reg 2) (.ret)) (.skip))) (.seq (.reg 3) (.ret)))) (fnQ c74 e G) ρ)) : E L (cal e Try.prog 74 args G) :=
  d_fn (c := c74) Try.func74 (by kernel_rfl) (by kernel_rfl) (by kernel_rfl) c74_ok (by kernel_rfl) (by kernel_rfl) hρ hs h
/-! (*gharry.pack.Reader).Num -/
noncomputable def c75 : Cfg := { P := Try.prog, n := 37, T := TT, body := (Try.f75.body).getD .skip, res := Try.f75.results.toList, li := lk [] [(0, [0, 1]), (1, [0, 1]), (2, [0, 1]), (3, [0, 1]), (4, [0, 1, 5]), (5, [5, 24, 25, 26]), (6, [5, 24, 25, 26]), (7, [5, 7, 24, 25, 26]), (8, [5, 24, 25, 26]), (9, [5])], lo := lk [] [(0, [0, 1]), (1, [0, 1, 18]), (2, [0, 1]), (3, [0, 1, 5]), (4, [5, 24, 25, 26]), (5, [5, 24, 25, 26, 27]), (6, [5, 7, 24, 25, 26]), (7, [5, 24, 25, 26]), (8, [5, 24, 25, 26]), (9, [4]), (1000000, [4])], ord := lk (false, []) [] }
@[go_sem] theorem c75_i0 : c75.li 0 = [0, 1] := rfl
@[go_sem] theorem c75_i1 : c75.li 1 = [0, 1] := rfl
@[go_sem] theorem c75_i2 : c75.li 2 = [0, 1] := rfl
@[go_sem] theorem c75_i3 : c75.li 3 = [0, 1] := rfl
@[go_sem] theorem c75_i4 : c75.li 4 = [0, 1, 5] := rfl
@[go_sem] theorem c75_i5 : c75.li 5 = [5, 24, 25, 26] := rfl
@[go_sem] theorem c75_i6 : c75.li 6 = [5, 24, 25, 26] := rfl
@[go_sem] theorem c75_i7 : c75.li 7 = [5, 7, 24, 25, 26] := rfl
@[go_sem] theorem c75_i8 : c75.li 8 = [5, 24, 25, 26] := rfl
@[go_sem] theorem c75_i9 : c75.li 9 = [5] := rfl
@[go_sem] theorem c75_r0 (r0 : Option Addr) (width1 : Int) (K : Env → W) : RP c75 0 [(0, .pointer r0), (1, .int .i64 width1)] K =
    (K [(0, .pointer r0), (1, .int .i64 width1)]) := by kernel_rfl
@[go_sem] theorem c75_r1 (r0 : Option Addr) (width1 : Int) (K : Env → W) : RP c75 1 [(0, .pointer r0), (1, .int .i64 width1)] K =
    (cal eB Try.prog 88 #[.pointer r0] fun (y1_ : Bool) => (cnd ((!y1_)) (cnd ((decide (width1 < (1 : Int)))) (K [(0, .pointer r0), (1, .int .i64 width1), (18, .bool true)]) (K [(0, .pointer r0), (1, .int .i64 width1), (18, .bool ((decide ((6 : Int) < width1))))])) (K [(0, .pointer r0), (1, .int .i64 width1), (18, .bool false)]))) := by kernel_rfl
@[go_sem] theorem c75_r2 (r0 : Option Addr) (width1 : Int) (K : Env → W) : RP c75 2 [(0, .pointer r0), (1, .int .i64 width1)] K =
    (cal eN Try.prog 89 #[.pointer r0, .int .i64 ((1 : Int))] fun (y1_ : Unit) => (K [(0, .pointer r0), (1, .int .i64 width1)])) := by kernel_rfl
@[go_sem] theorem c75_r3 (r0 : Option Addr) (width1 : Int) (K : Env → W) : RP c75 3 [(0, .pointer r0), (1, .int .i64 width1)] K =
    (K [(0, .pointer r0), (1, .int .i64 width1), (5, .int .i64 ((0 : Int)))]) := by kernel_rfl
@[go_sem] theorem c75_r4 (r0 : Option Addr) (width1 : Int) (n5 : Int) (K : Env → W) : RP c75 4 [(0, .pointer r0), (1, .int .i64 width1), (5, .int .i64 n5)] K =
    (cal eS Try.prog 90 #[.pointer r0, .int .i64 width1] fun (y1_ : List UInt8) => (val eSl Try.prog (oConv 9 125 (str y1_)) fun (y2_ : (Option Addr × Nat × Nat)) => (K [(5, .int .i64 n5), (24, .slice y2_.1 y2_.2.1 y2_.2.2), (25, .int .i64 ((y2_.2.1 : Int))), (26, .int .i64 ((0 : Int)))]))) := by kernel_rfl
@[go_sem] theorem c75_r5 (n5 : Int) (t24p : Option Addr) (t24n t24c : Nat) (t25 : Int) (t26 : Int) (K : Env → W) : RP c75 5 [(5, .int .i64 n5), (24, .slice t24p t24n t24c), (25, .int .i64 t25), (26, .int .i64 t26)] K =
    (K [(5, .int .i64 n5), (24, .slice t24p t24n t24c), (25, .int .i64 t25), (26, .int .i64 t26), (27, .bool ((decide (t26 < t25))))]) := by kernel_rfl
@[go_sem] theorem c75_r6 (n5 : Int) (t24p : Option Addr) (t24n t24c : Nat) (t25 : Int) (t26 : Int) (K : Env → W) : RP c75 6 [(5, .int .i64 n5), (24, .slice t24p t24n t24c), (25, .int .i64 t25), (26, .int .i64 t26)] K =
    (rq (0 ≤ t26 ∧ t26 < (t24n : Int)) (nn t24p fun y1_ => (ld eU8 ((Addr.add y1_ ((t26).toNat * 1))) fun (y2_ : Int) => (K [(5, .int .i64 n5), (7, .int .u8 y2_), (24, .slice t24p t24n t24c), (25, .int .i64 t25), (26, .int .i64 t26)])))) := by kernel_rfl
@[go_sem] theorem c75_r7 (n5 : Int) (c7 : Int) (t24p : Option Addr) (t24n t24c : Nat) (t25 : Int) (t26 : Int) (K : Env → W) : RP c75 7 [(5, .int .i64 n5), (7, .int .u8 c7), (24, .slice t24p t24n t24c), (25, .int .i64 t25), (26, .int .i64 t26)] K =
    (rq (0 ≤ (8 : Int)) (K [(5, .int .i64 ((bits .or .i64 ((IntKind.wrap .i64 (n5 * 2 ^ (min ((8 : Int)).toNat 64)))) ((IntKind.wrap .i64 c7))))), (24, .slice t24p t24n t24c), (25, .int .i64 t25), (26, .int .i64 t26)])) := by kernel_rfl
@[go_sem] theorem c75_r8 (n5 : Int) (t24p : Option Addr) (t24n t24c : Nat) (t25 : Int) (t26 : Int) (K : Env → W) : RP c75 8 [(5, .int .i64 n5), (24, .slice t24p t24n t24c), (25, .int .i64 t25), (26, .int .i64 t26)] K =
    (K [(5, .int .i64 n5), (24, .slice t24p t24n t24c), (25, .int .i64 t25), (26, .int .i64 ((IntKind.wrap .i64 (t26 + (1 : Int)))))]) := by kernel_rfl
@[go_sem] theorem c75_r9 (n5 : Int) (K : Env → W) : RP c75 9 [(5, .int .i64 n5)] K =
    (K [(4, .int .i64 n5)]) := by kernel_rfl
@[go_sem] theorem c75_o : c75.lo 1000000 = [4] := rfl
@[go_sem] theorem c75_e (t4 : Int) (k : Value → W) : RTp c75 [(4, .int .i64 t4)] k = (k (.int .i64 t4)) := by kernel_rfl
theorem c75_ok : (c75.P.follows .mixedOrders && okc c75 c75.body) = true := by kernel_rfl
theorem c75_fn {e : Enc} {args : Array Value} {G : e.α → W} {L : List HP} {ρ : Env} (hρ : envA 0 args.toList = ρ) (hs : Nat.ble args.size 37 = true) (h : E L (D c75 (.seq (.reg 0) (.seq (.seq (.reg 1) (.cond (.tmp 18) (.reg 2) (.skip))) (.seq (.reg 3) (.seq (.seq (.reg 4) (.block 0 (.loop (.seq (.reg 5) (.seq (.cond (.tmp 27) (.skip) (.exit 0)) (.seq (.block 1 (.seq (.reg 6) (.reg 7))) (.reg 8))))))) (.seq (.reg 9) (.ret)))))) (fnQ c75 e G) ρ)) : E L (cal e Try.prog 75 args G) :=
  d_fn (c := c75) Try.func75 (by kernel_rfl) (by kernel_rfl) (by kernel_rfl) c75_ok (by kernel_rfl) (by kernel_rfl) hρ hs h
-- loop (first region 5): live slots 5:n5 24:t24 25:t25 26:t26, of which it writes [5, 26]
/-! (*gharry.pack.Reader).off -/
noncomputable def c88 : Cfg := { P := Try.prog, n := 12, T := TT, body := (Try.f88.body).getD .skip, res := Try.f88.results.toList, li := lk [] [(0, [0]), (1, [0])], lo := lk [] [(0, [0]), (1, [2]), (1000000, [2])], ord := lk (false, []) [] }
@[go_sem] theorem c88_i0 : c88.li 0 = [0] := rfl
@[go_sem] theorem c88_i1 : c88.li 1 = [0] := rfl
@[go_sem] theorem c88_r0 (r0 : Option Addr) (K : Env → W) : RP c88 0 [(0, .pointer r0)] K =
    (K [(0, .pointer r0)]) := by kernel_rfl
@[go_sem] theorem c88_r1 (r0 : Option Addr) (K : Env → W) : RP c88 1 [(0, .pointer r0)] K =
    (cnd ((r0).isNone) (K [(2, .bool true)]) (nn r0 fun y1_ => (ld eI ((y1_.add 2)) fun (y2_ : Int) => (K [(2, .bool ((y2_ != (0 : Int))))])))) := by kernel_rfl
@[go_sem] theorem c88_o : c88.lo 1000000 = [2] := rfl
@[go_sem] theorem c88_e (t2 : Bool) (k : Value → W) : RTp c88 [(2, .bool t2)] k = (k (.bool t2)) := by kernel_rfl
theorem c88_ok : (c88.P.follows .mixedOrders && okc c88 c88.body) = true := by kernel_rfl
theorem c88_fn {e : Enc} {args : Array Value} {G : e.α → W} {L : List HP} {ρ : Env} (hρ : envA 0 args.toList = ρ) (hs : Nat.ble args.size 12 = true) (h : E L (D c88 (.seq (.reg 0) (.seq (.reg 1) (.ret))) (fnQ c88 e G) ρ)) : E L (cal e Try.prog 88 args G) :=
  d_fn (c := c88) Try.func88 (by kernel_rfl) (by kernel_rfl) (by kernel_rfl) c88_ok (by kernel_rfl) (by kernel_rfl) hρ hs h
/-! (*gharry.pack.Reader).fail -/
noncomputable def c89 : Cfg := { P := Try.prog, n := 13, T := TT, body := (Try.f89.body).getD .skip, res := Try.f89.results.toList, li := lk [] [(0, [0, 1]), (1, [0, 1])], lo := lk [] [(0, [0, 1, 8]), (1, []), (1000000, [])], ord := lk (false, []) [] }
@[go_sem] theorem c89_i0 : c89.li 0 = [0, 1] := rfl
@[go_sem] theorem c89_i1 : c89.li 1 = [0, 1] := rfl
@[go_sem] theorem c89_r0 (r0 : Option Addr) (e1 : Int) (K : Env → W) : RP c89 0 [(0, .pointer r0), (1, .int .i64 e1)] K =
    (nn r0 fun y1_ => (ld eI ((y1_.add 2)) fun (y2_ : Int) => (K [(0, .pointer r0), (1, .int .i64 e1), (8, .bool ((y2_ == (0 : Int))))]))) := by kernel_rfl
@[go_sem] theorem c89_r1 (r0 : Option Addr) (e1 : Int) (K : Env → W) : RP c89 1 [(0, .pointer r0), (1, .int .i64 e1)] K =
    (nn r0 fun y1_ => (st ((y1_.add 2)) (.int .i64 e1) (K []))) := by kernel_rfl
@[go_sem] theorem c89_o : c89.lo 1000000 = [] := rfl
@[go_sem] theorem c89_e (k : Value → W) : RTp c89 [] k = (k (.tuple #[])) := by kernel_rfl
theorem c89_ok : (c89.P.follows .mixedOrders && okc c89 c89.body) = true := by kernel_rfl
theorem c89_fn {e : Enc} {args : Array Value} {G : e.α → W} {L : List HP} {ρ : Env} (hρ : envA 0 args.toList = ρ) (hs : Nat.ble args.size 13 = true) (h : E L (D c89 (.seq (.reg 0) (.cond (.tmp 8) (.reg 1) (.skip))) (fnQ c89 e G) ρ)) : E L (cal e Try.prog 89 args G) :=
  d_fn (c := c89) Try.func89 (by kernel_rfl) (by kernel_rfl) (by kernel_rfl) c89_ok (by kernel_rfl) (by kernel_rfl) hρ hs h
/-! (*gharry.pack.Reader).Raw -/
noncomputable def c90 : Cfg := { P := Try.prog, n := 51, T := TT, body := (Try.f90.body).getD .skip, res := Try.f90.results.toList, li := lk [] [(0, [0, 1]), (1, [0, 1]), (2, []), (3, [0, 1]), (4, [0]), (5, []), (6, [0, 1]), (7, [0]), (8, []), (9, [0, 1]), (10, [0, 1])], lo := lk [] [(0, [0, 1]), (1, [0, 1, 5]), (2, [4]), (3, [0, 1, 8]), (4, []), (5, [4]), (6, [0, 1, 13]), (7, []), (8, [4]), (9, [0, 1]), (10, [4]), (1000000, [4])], ord := lk (false, []) [(6, (true, [(0, 1), (1, 1), (2, 1), (3, 1), (4, 0), (5, 1), (6, 1), (7, 1), (8, 1), (9, 0), (10, 1), (11, 1), (12, 1)])), (10, (true, [(0, 1), (1, 1), (2, 1), (3, 0), (4, 1), (5, 1), (6, 1), (7, 0), (8, 1), (9, 1), (10, 1), (11, 1), (12, 1), (13, 0), (14, 1), (15, 1)]))] }
@[go_sem] theorem c90_i0 : c90.li 0 = [0, 1] := rfl
@[go_sem] theorem c90_i1 : c90.li 1 = [0, 1] := rfl
@[go_sem] theorem c90_i2 : c90.li 2 = [] := rfl
@[go_sem] theorem c90_i3 : c90.li 3 = [0, 1] := rfl
@[go_sem] theorem c90_i4 : c90.li 4 = [0] := rfl
@[go_sem] theorem c90_i5 : c90.li 5 = [] := rfl
@[go_sem] theorem c90_i6 : c90.li 6 = [0, 1] := rfl
@[go_sem] theorem c90_i7 : c90.li 7 = [0] := rfl
@[go_sem] theorem c90_i8 : c90.li 8 = [] := rfl
@[go_sem] theorem c90_i9 : c90.li 9 = [0, 1] := rfl
@[go_sem] theorem c90_i10 : c90.li 10 = [0, 1] := rfl
@[go_sem] theorem c90_r0 (r0 : Option Addr) (n1 : Int) (K : Env → W) : RP c90 0 [(0, .pointer r0), (1, .int .i64 n1)] K =
    (K [(0, .pointer r0), (1, .int .i64 n1)]) := by kernel_rfl
@[go_sem] theorem c90_r1 (r0 : Option Addr) (n1 : Int) (K : Env → W) : RP c90 1 [(0, .pointer r0), (1, .int .i64 n1)] K =
    (cal eB Try.prog 88 #[.pointer r0] fun (y1_ : Bool) => (K [(0, .pointer r0), (1, .int .i64 n1), (5, .bool y1_)])) := by kernel_rfl
@[go_sem] theorem c90_r2 (K : Env → W) : RP c90 2 [] K =
    (K [(4, str (([] : List UInt8)))]) := by kernel_rfl
@[go_sem] theorem c90_r3 (r0 : Option Addr) (n1 : Int) (K : Env → W) : RP c90 3 [(0, .pointer r0), (1, .int .i64 n1)] K =
    (K [(0, .pointer r0), (1, .int .i64 n1), (8, .bool ((decide (n1 < (0 : Int)))))]) := by kernel_rfl
@[go_sem] theorem c90_r4 (r0 : Option Addr) (K : Env → W) : RP c90 4 [(0, .pointer r0)] K =
    (cal eN Try.prog 89 #[.pointer r0, .int .i64 ((1 : Int))] fun (y1_ : Unit) => (K [])) := by kernel_rfl
@[go_sem] theorem c90_r5 (K : Env → W) : RP c90 5 [] K =
    (K [(4, str (([] : List UInt8)))]) := by kernel_rfl
@[go_sem] theorem c90_r6 (r0 : Option Addr) (n1 : Int) (K : Env → W) : RP c90 6 [(0, .pointer r0), (1, .int .i64 n1)] K =
    (ph fun S0 => (nn r0 fun y1_ => (ldq S0 eS y1_ fun (y2_ : List UInt8) => (nn r0 fun y3_ => (ldq S0 eI ((y3_.add 1)) fun (y4_ : Int) => (K [(0, .pointer r0), (1, .int .i64 n1), (13, .bool ((decide ((IntKind.wrap .i64 (((y2_).length : Int) - y4_)) < n1))))])))))) := by kernel_rfl
@[go_sem] theorem c90_r7 (r0 : Option Addr) (K : Env → W) : RP c90 7 [(0, .pointer r0)] K =
    (cal eN Try.prog 89 #[.pointer r0, .int .i64 ((2 : Int))] fun (y1_ : Unit) => (K [])) := by kernel_rfl
@[go_sem] theorem c90_r8 (K : Env → W) : RP c90 8 [] K =
    (K [(4, str (([] : List UInt8)))]) := by kernel_rfl
@[go_sem] theorem c90_r9 (r0 : Option Addr) (n1 : Int) (K : Env → W) : RP c90 9 [(0, .pointer r0), (1, .int .i64 n1)] K =
    (nn r0 fun y1_ => (ld eI ((y1_.add 1)) fun (y2_ : Int) => (nn r0 fun y3_ => (st ((y3_.add 1)) (.int .i64 ((IntKind.wrap .i64 (y2_ + n1)))) (K [(0, .pointer r0), (1, .int .i64 n1)]))))) := by kernel_rfl
@[go_sem] theorem c90_r10 (r0 : Option Addr) (n1 : Int) (K : Env → W) : RP c90 10 [(0, .pointer r0), (1, .int .i64 n1)] K =
    (ph fun S0 => (nn r0 fun y1_ => (ldq S0 eS y1_ fun (y2_ : List UInt8) => (nn r0 fun y3_ => (ldq S0 eI ((y3_.add 1)) fun (y4_ : Int) => (nn r0 fun y5_ => (ldq S0 eI ((y5_.add 1)) fun (y6_ : Int) => (rq (0 ≤ ((IntKind.wrap .i64 (y4_ - n1)) : Int) ∧ (IntKind.wrap .i64 (y4_ - n1)) ≤ y6_ ∧ y6_ ≤ ((y2_).length : Int)) (K [(4, str ((ss y2_ ((IntKind.wrap .i64 (y4_ - n1))) y6_)))]))))))))) := by kernel_rfl
@[go_sem] theorem c90_o : c90.lo 1000000 = [4] := rfl
@[go_sem] theorem c90_e (t4 : List UInt8) (k : Value → W) : RTp c90 [(4, str t4)] k = (k (str t4)) := by kernel_rfl
theorem c90_ok : (c90.P.follows .mixedOrders && okc c90 c90.body) = true := by kernel_rfl
theorem c90_fn {e : Enc} {args : Array Value} {G : e.α → W} {L : List HP} {ρ : Env} (hρ : envA 0 args.toList = ρ) (hs : Nat.ble args.size 51 = true) (h : E L (D c90 (.seq (.reg 0) (.seq (.block 0 (.seq (.reg 1) (.cond (.tmp 5) (.seq (.reg 2) (.ret)) (.seq (.reg 3) (.cond (.tmp 8) (.seq (.reg 4) (.seq (.reg 5) (.ret))) (.seq (.reg 6) (.cond (.tmp 13) (.seq (.reg 7) (.seq (.reg 8) (.ret))) (.skip)))))))) (.seq (.reg 9) (.seq (.reg 10) (.ret))))) (fnQ c90 e G) ρ)) : E L (cal e Try.prog 90 args G) :=
  d_fn (c := c90) Try.func90 (by kernel_rfl) (by kernel_rfl) (by kernel_rfl) c90_ok (by kernel_rfl) (by kernel_rfl) hρ hs h
end Go.Sp
