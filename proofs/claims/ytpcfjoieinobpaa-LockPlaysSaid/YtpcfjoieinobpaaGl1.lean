/- What each region of the Go functions does. Written by my own generator. -/
import Derived.Test.YtpcfjoieinobpaaT
namespace Go.Sp
open Go
set_option maxRecDepth 100000
set_option linter.unusedVariables false
open Go.Proofs
/-! (*gharry.lock.Table).Who -/
noncomputable def c33 : Cfg := { P := Try.prog, n := 43, T := TT, body := (Try.f33.body).getD .skip, res := Try.f33.results.toList, li := lk [] [(0, [0, 1]), (1, [0, 3]), (2, []), (3, [0, 3]), (4, [0, 3, 5]), (5, [3, 5, 15, 16, 17]), (6, [3, 5, 15, 16, 17]), (7, [3, 5, 7, 15, 16, 17]), (8, [3, 5, 7, 15, 16, 17]), (9, [3, 5, 7, 15, 16, 17, 25, 26, 27]), (10, [3, 5, 7, 15, 16, 17, 25, 26, 27]), (11, [3, 5, 7, 9, 15, 16, 17, 25, 26, 27]), (12, [3, 5, 7, 15, 16, 17, 25, 26, 27]), (13, [3, 5, 7, 15, 16, 17]), (14, [3, 5, 15, 16, 17]), (15, [5])], lo := lk [] [(0, [0, 3]), (1, [0, 3, 11]), (2, [4]), (3, [0, 3, 5]), (4, [3, 5, 15, 16, 17]), (5, [3, 5, 15, 16, 17, 18]), (6, [3, 5, 7, 15, 16, 17]), (7, [3, 5, 7, 15, 16, 17, 24]), (8, [3, 5, 7, 15, 16, 17, 25, 26, 27]), (9, [3, 5, 7, 15, 16, 17, 25, 26, 27, 28]), (10, [3, 5, 7, 9, 15, 16, 17, 25, 26, 27]), (11, [3, 5, 7, 15, 16, 17, 25, 26, 27, 34]), (12, [3, 5, 7, 15, 16, 17, 25, 26, 27]), (13, [3, 5, 15, 16, 17]), (14, [3, 5, 15, 16, 17]), (15, [4]), (1000000, [4])], ord := lk (false, []) [] }
@[go_sem] theorem c33_i0 : c33.li 0 = [0, 1] := rfl
@[go_sem] theorem c33_i1 : c33.li 1 = [0, 3] := rfl
@[go_sem] theorem c33_i2 : c33.li 2 = [] := rfl
@[go_sem] theorem c33_i3 : c33.li 3 = [0, 3] := rfl
@[go_sem] theorem c33_i4 : c33.li 4 = [0, 3, 5] := rfl
@[go_sem] theorem c33_i5 : c33.li 5 = [3, 5, 15, 16, 17] := rfl
@[go_sem] theorem c33_i6 : c33.li 6 = [3, 5, 15, 16, 17] := rfl
@[go_sem] theorem c33_i7 : c33.li 7 = [3, 5, 7, 15, 16, 17] := rfl
@[go_sem] theorem c33_i8 : c33.li 8 = [3, 5, 7, 15, 16, 17] := rfl
@[go_sem] theorem c33_i9 : c33.li 9 = [3, 5, 7, 15, 16, 17, 25, 26, 27] := rfl
@[go_sem] theorem c33_i10 : c33.li 10 = [3, 5, 7, 15, 16, 17, 25, 26, 27] := rfl
@[go_sem] theorem c33_i11 : c33.li 11 = [3, 5, 7, 9, 15, 16, 17, 25, 26, 27] := rfl
@[go_sem] theorem c33_i12 : c33.li 12 = [3, 5, 7, 15, 16, 17, 25, 26, 27] := rfl
@[go_sem] theorem c33_i13 : c33.li 13 = [3, 5, 7, 15, 16, 17] := rfl
@[go_sem] theorem c33_i14 : c33.li 14 = [3, 5, 15, 16, 17] := rfl
@[go_sem] theorem c33_i15 : c33.li 15 = [5] := rfl
@[go_sem] theorem c33_r0 (t0 : Option Addr) (h1 : lock_Hold) (K : Env → W) : RP c33 0 [(0, .pointer t0), (1, v_lock_Hold h1)] K =
    (nwc #[.int .i64 h1.Txn, .int .i64 h1.Mode, str h1.Lo, str h1.Hi, .bool h1.Open] 27 fun y1_ => (K [(0, .pointer t0), (3, .pointer (some y1_))])) := by kernel_rfl
@[go_sem] theorem c33_r1 (t0 : Option Addr) (h3 : Addr) (K : Env → W) : RP c33 1 [(0, .pointer t0), (3, .pointer (some h3))] K =
    (K [(0, .pointer t0), (3, .pointer (some h3)), (11, .bool ((t0).isNone))]) := by kernel_rfl
@[go_sem] theorem c33_r2 (K : Env → W) : RP c33 2 [] K =
    (K [(4, .slice none 0 0)]) := by kernel_rfl
@[go_sem] theorem c33_r3 (t0 : Option Addr) (h3 : Addr) (K : Env → W) : RP c33 3 [(0, .pointer t0), (3, .pointer (some h3))] K =
    (K [(0, .pointer t0), (3, .pointer (some h3)), (5, .slice none 0 0)]) := by kernel_rfl
@[go_sem] theorem c33_r4 (t0 : Option Addr) (h3 : Addr) (out5p : Option Addr) (out5n out5c : Nat) (K : Env → W) : RP c33 4 [(0, .pointer t0), (3, .pointer (some h3)), (5, .slice out5p out5n out5c)] K =
    (nn t0 fun y1_ => (ld eSl y1_ fun (y2_ : (Option Addr × Nat × Nat)) => (K [(3, .pointer (some h3)), (5, .slice out5p out5n out5c), (15, .slice y2_.1 y2_.2.1 y2_.2.2), (16, .int .i64 ((y2_.2.1 : Int))), (17, .int .i64 ((0 : Int)))]))) := by kernel_rfl
@[go_sem] theorem c33_r5 (h3 : Addr) (out5p : Option Addr) (out5n out5c : Nat) (t15p : Option Addr) (t15n t15c : Nat) (t16 : Int) (t17 : Int) (K : Env → W) : RP c33 5 [(3, .pointer (some h3)), (5, .slice out5p out5n out5c), (15, .slice t15p t15n t15c), (16, .int .i64 t16), (17, .int .i64 t17)] K =
    (K [(3, .pointer (some h3)), (5, .slice out5p out5n out5c), (15, .slice t15p t15n t15c), (16, .int .i64 t16), (17, .int .i64 t17), (18, .bool ((decide (t17 < t16))))]) := by kernel_rfl
@[go_sem] theorem c33_r6 (h3 : Addr) (out5p : Option Addr) (out5n out5c : Nat) (t15p : Option Addr) (t15n t15c : Nat) (t16 : Int) (t17 : Int) (K : Env → W) : RP c33 6 [(3, .pointer (some h3)), (5, .slice out5p out5n out5c), (15, .slice t15p t15n t15c), (16, .int .i64 t16), (17, .int .i64 t17)] K =
    (rq (0 ≤ t17 ∧ t17 < (t15n : Int)) (nn t15p fun y1_ => (ldn e_lock_Hold 5 ((Addr.add y1_ ((t17).toNat * 5))) fun (y2_ : lock_Hold) => (nwc #[.int .i64 (((⟨(0 : Int), (0 : Int), ([] : List UInt8), ([] : List UInt8), false⟩ : lock_Hold)).Txn), .int .i64 (((⟨(0 : Int), (0 : Int), ([] : List UInt8), ([] : List UInt8), false⟩ : lock_Hold)).Mode), str (((⟨(0 : Int), (0 : Int), ([] : List UInt8), ([] : List UInt8), false⟩ : lock_Hold)).Lo), str (((⟨(0 : Int), (0 : Int), ([] : List UInt8), ([] : List UInt8), false⟩ : lock_Hold)).Hi), .bool (((⟨(0 : Int), (0 : Int), ([] : List UInt8), ([] : List UInt8), false⟩ : lock_Hold)).Open)] 27 fun y3_ => (stl [.int .i64 y2_.Txn, .int .i64 y2_.Mode, str y2_.Lo, str y2_.Hi, .bool y2_.Open] y3_ 0 (K [(3, .pointer (some h3)), (5, .slice out5p out5n out5c), (7, .pointer (some y3_)), (15, .slice t15p t15n t15c), (16, .int .i64 t16), (17, .int .i64 t17)])))))) := by kernel_rfl
@[go_sem] theorem c33_r7 (h3 : Addr) (out5p : Option Addr) (out5n out5c : Nat) (x7 : Addr) (t15p : Option Addr) (t15n t15c : Nat) (t16 : Int) (t17 : Int) (K : Env → W) : RP c33 7 [(3, .pointer (some h3)), (5, .slice out5p out5n out5c), (7, .pointer (some x7)), (15, .slice t15p t15n t15c), (16, .int .i64 t16), (17, .int .i64 t17)] K =
    (ldn e_lock_Hold 5 x7 fun (y1_ : lock_Hold) => (ldn e_lock_Hold 5 h3 fun (y2_ : lock_Hold) => (cal eB Try.prog 22 #[v_lock_Hold y1_, v_lock_Hold y2_] fun (y3_ : Bool) => (K [(3, .pointer (some h3)), (5, .slice out5p out5n out5c), (7, .pointer (some x7)), (15, .slice t15p t15n t15c), (16, .int .i64 t16), (17, .int .i64 t17), (24, .bool ((!y3_)))])))) := by kernel_rfl
@[go_sem] theorem c33_r8 (h3 : Addr) (out5p : Option Addr) (out5n out5c : Nat) (x7 : Addr) (t15p : Option Addr) (t15n t15c : Nat) (t16 : Int) (t17 : Int) (K : Env → W) : RP c33 8 [(3, .pointer (some h3)), (5, .slice out5p out5n out5c), (7, .pointer (some x7)), (15, .slice t15p t15n t15c), (16, .int .i64 t16), (17, .int .i64 t17)] K =
    (K [(3, .pointer (some h3)), (5, .slice out5p out5n out5c), (7, .pointer (some x7)), (15, .slice t15p t15n t15c), (16, .int .i64 t16), (17, .int .i64 t17), (25, .slice out5p out5n out5c), (26, .int .i64 ((out5n : Int))), (27, .int .i64 ((0 : Int)))]) := by kernel_rfl
@[go_sem] theorem c33_r9 (h3 : Addr) (out5p : Option Addr) (out5n out5c : Nat) (x7 : Addr) (t15p : Option Addr) (t15n t15c : Nat) (t16 : Int) (t17 : Int) (t25p : Option Addr) (t25n t25c : Nat) (t26 : Int) (t27 : Int) (K : Env → W) : RP c33 9 [(3, .pointer (some h3)), (5, .slice out5p out5n out5c), (7, .pointer (some x7)), (15, .slice t15p t15n t15c), (16, .int .i64 t16), (17, .int .i64 t17), (25, .slice t25p t25n t25c), (26, .int .i64 t26), (27, .int .i64 t27)] K =
    (K [(3, .pointer (some h3)), (5, .slice out5p out5n out5c), (7, .pointer (some x7)), (15, .slice t15p t15n t15c), (16, .int .i64 t16), (17, .int .i64 t17), (25, .slice t25p t25n t25c), (26, .int .i64 t26), (27, .int .i64 t27), (28, .bool ((decide (t27 < t26))))]) := by kernel_rfl
@[go_sem] theorem c33_r10 (h3 : Addr) (out5p : Option Addr) (out5n out5c : Nat) (x7 : Addr) (t15p : Option Addr) (t15n t15c : Nat) (t16 : Int) (t17 : Int) (t25p : Option Addr) (t25n t25c : Nat) (t26 : Int) (t27 : Int) (K : Env → W) : RP c33 10 [(3, .pointer (some h3)), (5, .slice out5p out5n out5c), (7, .pointer (some x7)), (15, .slice t15p t15n t15c), (16, .int .i64 t16), (17, .int .i64 t17), (25, .slice t25p t25n t25c), (26, .int .i64 t26), (27, .int .i64 t27)] K =
    (rq (0 ≤ t27 ∧ t27 < (t25n : Int)) (nn t25p fun y1_ => (ld eI ((Addr.add y1_ ((t27).toNat * 1))) fun (y2_ : Int) => (K [(3, .pointer (some h3)), (5, .slice out5p out5n out5c), (7, .pointer (some x7)), (9, .int .i64 y2_), (15, .slice t15p t15n t15c), (16, .int .i64 t16), (17, .int .i64 t17), (25, .slice t25p t25n t25c), (26, .int .i64 t26), (27, .int .i64 t27)])))) := by kernel_rfl
@[go_sem] theorem c33_r11 (h3 : Addr) (out5p : Option Addr) (out5n out5c : Nat) (x7 : Addr) (id9 : Int) (t15p : Option Addr) (t15n t15c : Nat) (t16 : Int) (t17 : Int) (t25p : Option Addr) (t25n t25c : Nat) (t26 : Int) (t27 : Int) (K : Env → W) : RP c33 11 [(3, .pointer (some h3)), (5, .slice out5p out5n out5c), (7, .pointer (some x7)), (9, .int .i64 id9), (15, .slice t15p t15n t15c), (16, .int .i64 t16), (17, .int .i64 t17), (25, .slice t25p t25n t25c), (26, .int .i64 t26), (27, .int .i64 t27)] K =
    (ld eI x7 fun (y1_ : Int) => (K [(3, .pointer (some h3)), (5, .slice out5p out5n out5c), (7, .pointer (some x7)), (15, .slice t15p t15n t15c), (16, .int .i64 t16), (17, .int .i64 t17), (25, .slice t25p t25n t25c), (26, .int .i64 t26), (27, .int .i64 t27), (34, .bool ((id9 == y1_)))])) := by kernel_rfl
@[go_sem] theorem c33_r12 (h3 : Addr) (out5p : Option Addr) (out5n out5c : Nat) (x7 : Addr) (t15p : Option Addr) (t15n t15c : Nat) (t16 : Int) (t17 : Int) (t25p : Option Addr) (t25n t25c : Nat) (t26 : Int) (t27 : Int) (K : Env → W) : RP c33 12 [(3, .pointer (some h3)), (5, .slice out5p out5n out5c), (7, .pointer (some x7)), (15, .slice t15p t15n t15c), (16, .int .i64 t16), (17, .int .i64 t17), (25, .slice t25p t25n t25c), (26, .int .i64 t26), (27, .int .i64 t27)] K =
    (K [(3, .pointer (some h3)), (5, .slice out5p out5n out5c), (7, .pointer (some x7)), (15, .slice t15p t15n t15c), (16, .int .i64 t16), (17, .int .i64 t17), (25, .slice t25p t25n t25c), (26, .int .i64 t26), (27, .int .i64 ((IntKind.wrap .i64 (t27 + (1 : Int)))))]) := by kernel_rfl
@[go_sem] theorem c33_r13 (h3 : Addr) (out5p : Option Addr) (out5n out5c : Nat) (x7 : Addr) (t15p : Option Addr) (t15n t15c : Nat) (t16 : Int) (t17 : Int) (K : Env → W) : RP c33 13 [(3, .pointer (some h3)), (5, .slice out5p out5n out5c), (7, .pointer (some x7)), (15, .slice t15p t15n t15c), (16, .int .i64 t16), (17, .int .i64 t17)] K =
    (ld eI x7 fun (y1_ : Int) => (nwc #[.int .i64 y1_] 3 fun y2_ => (val eSl Try.prog (oB_append #[45, 45] 45 #[.slice out5p out5n out5c, .slice ((some y2_)) 1 1]) fun (y3_ : (Option Addr × Nat × Nat)) => (K [(3, .pointer (some h3)), (5, .slice y3_.1 y3_.2.1 y3_.2.2), (15, .slice t15p t15n t15c), (16, .int .i64 t16), (17, .int .i64 t17)])))) := by kernel_rfl
@[go_sem] theorem c33_r14 (h3 : Addr) (out5p : Option Addr) (out5n out5c : Nat) (t15p : Option Addr) (t15n t15c : Nat) (t16 : Int) (t17 : Int) (K : Env → W) : RP c33 14 [(3, .pointer (some h3)), (5, .slice out5p out5n out5c), (15, .slice t15p t15n t15c), (16, .int .i64 t16), (17, .int .i64 t17)] K =
    (K [(3, .pointer (some h3)), (5, .slice out5p out5n out5c), (15, .slice t15p t15n t15c), (16, .int .i64 t16), (17, .int .i64 ((IntKind.wrap .i64 (t17 + (1 : Int)))))]) := by kernel_rfl
@[go_sem] theorem c33_r15 (out5p : Option Addr) (out5n out5c : Nat) (K : Env → W) : RP c33 15 [(5, .slice out5p out5n out5c)] K =
    (K [(4, .slice out5p out5n out5c)]) := by kernel_rfl
@[go_sem] theorem c33_o : c33.lo 1000000 = [4] := rfl
@[go_sem] theorem c33_e (t4p : Option Addr) (t4n t4c : Nat) (k : Value → W) : RTp c33 [(4, .slice t4p t4n t4c)] k = (k (.slice t4p t4n t4c)) := by kernel_rfl
theorem c33_ok : (c33.P.follows .mixedOrders && okc c33 c33.body) = true := by kernel_rfl
theorem c33_fn {e : Enc} {args : Array Value} {G : e.α → W} {L : List HP} {ρ : Env} (hρ : envA 0 args.toList = ρ) (hs : Nat.ble args.size 43 = true) (h : E L (D c33 (.seq (.reg 0) (.seq (.seq (.reg 1) (.cond (.tmp 11) (.seq (.reg 2) (.ret)) (.skip))) (.seq (.reg 3) (.seq (.skip) (.seq (.seq (.reg 4) (.block 0 (.loop (.seq (.reg 5) (.seq (.cond (.tmp 18) (.skip) (.exit 0)) (.seq (.block 1 (.seq (.reg 6) (.seq (.seq (.reg 7) (.cond (.tmp 24) (.exit 1) (.skip))) (.seq (.seq (.reg 8) (.block 2 (.loop (.seq (.reg 9) (.seq (.cond (.tmp 28) (.skip) (.exit 2)) (.seq (.block 3 (.seq (.reg 10) (.seq (.reg 11) (.cond (.tmp 34) (.exit 1) (.skip))))) (.reg 12))))))) (.reg 13))))) (.reg 14))))))) (.seq (.reg 15) (.ret))))))) (fnQ c33 e G) ρ)) : E L (cal e Try.prog 33 args G) :=
  d_fn (c := c33) Try.func33 (by kernel_rfl) (by kernel_rfl) (by kernel_rfl) c33_ok (by kernel_rfl) (by kernel_rfl) hρ hs h
-- loop (first region 9): live slots 5:out5 7:x7 17:t17 25:t25 26:t26 27:t27, of which it writes [27]
-- loop (first region 9): live slots 3:h3 5:out5 7:x7 15:t15 16:t16 17:t17 25:t25 26:t26 27:t27, of which it writes [27]
-- loop (first region 5): live slots 3:h3 5:out5 15:t15 16:t16 17:t17, of which it writes [5, 17]
/-! gharry.gharrylaw12.has -/
noncomputable def c34 : Cfg := { P := Try.prog, n := 64, T := TT, body := (Try.f34.body).getD .skip, res := Try.f34.results.toList, li := lk [] [(0, [0, 1]), (1, [0, 3]), (2, [0, 3, 5]), (3, [0, 3, 5]), (4, [0, 3, 5]), (5, [0, 3, 5, 6]), (6, []), (7, [])], lo := lk [] [(0, [0, 3]), (1, [0, 3, 5]), (2, [0, 3, 5, 10]), (3, [0, 3, 5]), (4, [0, 3, 5, 6]), (5, [0, 3, 5, 63]), (6, [4]), (7, [4]), (1000000, [4])], ord := lk (false, []) [(4, (true, [(0, 1), (1, 1), (2, 1), (3, 1), (4, 0), (5, 1), (6, 1), (7, 0), (8, 1), (9, 1), (10, 1), (11, 0), (12, 1), (13, 1), (14, 1), (15, 1), (16, 0), (17, 1), (18, 1), (19, 1), (20, 1)])), (5, (true, [(0, 1), (1, 1), (2, 1), (3, 1), (4, 0), (5, 1), (6, 0), (7, 1), (8, 1), (9, 1), (10, 1), (11, 1), (12, 1), (13, 0), (14, 1), (15, 0), (16, 1), (17, 1), (18, 1), (19, 1), (20, 1), (21, 1), (22, 1), (23, 0), (24, 1), (25, 0), (26, 1), (27, 1), (28, 1), (29, 1), (30, 1)]))] }
@[go_sem] theorem c34_i0 : c34.li 0 = [0, 1] := rfl
@[go_sem] theorem c34_i1 : c34.li 1 = [0, 3] := rfl
@[go_sem] theorem c34_i2 : c34.li 2 = [0, 3, 5] := rfl
@[go_sem] theorem c34_i3 : c34.li 3 = [0, 3, 5] := rfl
@[go_sem] theorem c34_i4 : c34.li 4 = [0, 3, 5] := rfl
@[go_sem] theorem c34_i5 : c34.li 5 = [0, 3, 5, 6] := rfl
@[go_sem] theorem c34_i6 : c34.li 6 = [] := rfl
@[go_sem] theorem c34_i7 : c34.li 7 = [] := rfl
@[go_sem] theorem c34_r0 (l0p : Option Addr) (l0n l0c : Nat) (h1 : lock_Hold) (K : Env → W) : RP c34 0 [(0, .slice l0p l0n l0c), (1, v_lock_Hold h1)] K =
    (nwc #[.int .i64 h1.Txn, .int .i64 h1.Mode, str h1.Lo, str h1.Hi, .bool h1.Open] 27 fun y1_ => (K [(0, .slice l0p l0n l0c), (3, .pointer (some y1_))])) := by kernel_rfl
@[go_sem] theorem c34_r1 (l0p : Option Addr) (l0n l0c : Nat) (h3 : Addr) (K : Env → W) : RP c34 1 [(0, .slice l0p l0n l0c), (3, .pointer (some h3))] K =
    (K [(0, .slice l0p l0n l0c), (3, .pointer (some h3)), (5, .int .i64 ((0 : Int)))]) := by kernel_rfl
@[go_sem] theorem c34_r2 (l0p : Option Addr) (l0n l0c : Nat) (h3 : Addr) (i5 : Int) (K : Env → W) : RP c34 2 [(0, .slice l0p l0n l0c), (3, .pointer (some h3)), (5, .int .i64 i5)] K =
    (K [(0, .slice l0p l0n l0c), (3, .pointer (some h3)), (5, .int .i64 i5), (10, .bool ((decide (i5 < (l0n : Int)))))]) := by kernel_rfl
@[go_sem] theorem c34_r3 (l0p : Option Addr) (l0n l0c : Nat) (h3 : Addr) (i5 : Int) (K : Env → W) : RP c34 3 [(0, .slice l0p l0n l0c), (3, .pointer (some h3)), (5, .int .i64 i5)] K =
    (K [(0, .slice l0p l0n l0c), (3, .pointer (some h3)), (5, .int .i64 ((IntKind.wrap .i64 (i5 + (1 : Int)))))]) := by kernel_rfl
@[go_sem] theorem c34_r4 (l0p : Option Addr) (l0n l0c : Nat) (h3 : Addr) (i5 : Int) (K : Env → W) : RP c34 4 [(0, .slice l0p l0n l0c), (3, .pointer (some h3)), (5, .int .i64 i5)] K =
    (ph fun S0 => (rq (0 ≤ i5 ∧ i5 < (l0n : Int)) (nn l0p fun y1_ => (ldq S0 eB ((((Addr.add y1_ ((i5).toNat * 5))).add 4)) fun (y2_ : Bool) => (cnd y2_ (K [(0, .slice l0p l0n l0c), (3, .pointer (some h3)), (5, .int .i64 i5), (6, .bool true)]) (ldq S0 eB ((h3.add 4)) fun (y3_ : Bool) => (cnd ((!y3_)) (ldq S0 eS ((h3.add 3)) fun (y4_ : List UInt8) => (rq (0 ≤ i5 ∧ i5 < (l0n : Int)) (nn l0p fun y5_ => (ldq S0 eS ((((Addr.add y5_ ((i5).toNat * 5))).add 3)) fun (y6_ : List UInt8) => (K [(0, .slice l0p l0n l0c), (3, .pointer (some h3)), (5, .int .i64 i5), (6, .bool ((Op.bytesLess y4_ y6_ || y4_ == y6_)))]))))) (K [(0, .slice l0p l0n l0c), (3, .pointer (some h3)), (5, .int .i64 i5), (6, .bool false)])))))))) := by kernel_rfl
@[go_sem] theorem c34_r5 (l0p : Option Addr) (l0n l0c : Nat) (h3 : Addr) (i5 : Int) (ends6 : Bool) (K : Env → W) : RP c34 5 [(0, .slice l0p l0n l0c), (3, .pointer (some h3)), (5, .int .i64 i5), (6, .bool ends6)] K =
    (ph fun S0 => (rq (0 ≤ i5 ∧ i5 < (l0n : Int)) (nn l0p fun y1_ => (ldq S0 eI ((Addr.add y1_ ((i5).toNat * 5))) fun (y2_ : Int) => (ldq S0 eI h3 fun (y3_ : Int) => (cnd ((y2_ == y3_)) (rq (0 ≤ i5 ∧ i5 < (l0n : Int)) (nn l0p fun y4_ => (ldq S0 eI ((((Addr.add y4_ ((i5).toNat * 5))).add 1)) fun (y5_ : Int) => (ldq S0 eI ((h3.add 1)) fun (y6_ : Int) => (cnd ((decide (y6_ ≤ y5_))) (rq (0 ≤ i5 ∧ i5 < (l0n : Int)) (nn l0p fun y7_ => (ldq S0 eS ((((Addr.add y7_ ((i5).toNat * 5))).add 2)) fun (y8_ : List UInt8) => (ldq S0 eS ((h3.add 2)) fun (y9_ : List UInt8) => (cnd ((Op.bytesLess y8_ y9_ || y8_ == y9_)) (K [(0, .slice l0p l0n l0c), (3, .pointer (some h3)), (5, .int .i64 i5), (63, .bool ends6)]) (K [(0, .slice l0p l0n l0c), (3, .pointer (some h3)), (5, .int .i64 i5), (63, .bool false)])))))) (K [(0, .slice l0p l0n l0c), (3, .pointer (some h3)), (5, .int .i64 i5), (63, .bool false)])))))) (K [(0, .slice l0p l0n l0c), (3, .pointer (some h3)), (5, .int .i64 i5), (63, .bool false)]))))))) := by kernel_rfl
@[go_sem] theorem c34_r6 (K : Env → W) : RP c34 6 [] K =
    (K [(4, .bool true)]) := by kernel_rfl
@[go_sem] theorem c34_r7 (K : Env → W) : RP c34 7 [] K =
    (K [(4, .bool false)]) := by kernel_rfl
@[go_sem] theorem c34_o : c34.lo 1000000 = [4] := rfl
@[go_sem] theorem c34_e (t4 : Bool) (k : Value → W) : RTp c34 [(4, .bool t4)] k = (k (.bool t4)) := by kernel_rfl
theorem c34_ok : (c34.P.follows .mixedOrders && okc c34 c34.body) = true := by kernel_rfl
theorem c34_fn {e : Enc} {args : Array Value} {G : e.α → W} {L : List HP} {ρ : Env} (hρ : envA 0 args.toList = ρ) (hs : Nat.ble args.size 64 = true) (h : E L (D c34 (.seq (.reg 0) (.seq (.seq (.reg 1) (.block 0 (.loop (.seq (.seq (.reg 2) (.cond (.tmp 10) (.skip) (.exit 0))) (.seq (.block 1 (.seq (.reg 4) (.seq (.reg 5) (.cond (.tmp 63) (.seq (.reg 6) (.ret)) (.skip))))) (.reg 3)))))) (.seq (.reg 7) (.ret)))) (fnQ c34 e G) ρ)) : E L (cal e Try.prog 34 args G) :=
  d_fn (c := c34) Try.func34 (by kernel_rfl) (by kernel_rfl) (by kernel_rfl) c34_ok (by kernel_rfl) (by kernel_rfl) hρ hs h
-- loop (first region 2): live slots 0:l0 3:h3 5:i5, of which it writes [5]
/-! gharry.gharrylaw12.same -/
noncomputable def c35 : Cfg := { P := Try.prog, n := 26, T := TT, body := (Try.f35.body).getD .skip, res := Try.f35.results.toList, li := lk [] [(0, [0, 1]), (1, [0, 1]), (2, []), (3, [0, 1]), (4, [0, 1, 5]), (5, [0, 1, 5]), (6, [0, 1, 5]), (7, []), (8, [])], lo := lk [] [(0, [0, 1]), (1, [0, 1, 10]), (2, [4]), (3, [0, 1, 5]), (4, [0, 1, 5, 14]), (5, [0, 1, 5]), (6, [0, 1, 5, 25]), (7, [4]), (8, [4]), (1000000, [4])], ord := lk (false, []) [(6, (true, [(0, 1), (1, 1), (2, 1), (3, 0), (4, 1), (5, 1), (6, 1), (7, 0), (8, 0)]))] }
@[go_sem] theorem c35_i0 : c35.li 0 = [0, 1] := rfl
@[go_sem] theorem c35_i1 : c35.li 1 = [0, 1] := rfl
@[go_sem] theorem c35_i2 : c35.li 2 = [] := rfl
@[go_sem] theorem c35_i3 : c35.li 3 = [0, 1] := rfl
@[go_sem] theorem c35_i4 : c35.li 4 = [0, 1, 5] := rfl
@[go_sem] theorem c35_i5 : c35.li 5 = [0, 1, 5] := rfl
@[go_sem] theorem c35_i6 : c35.li 6 = [0, 1, 5] := rfl
@[go_sem] theorem c35_i7 : c35.li 7 = [] := rfl
@[go_sem] theorem c35_i8 : c35.li 8 = [] := rfl
@[go_sem] theorem c35_r0 (a0p : Option Addr) (a0n a0c : Nat) (b1p : Option Addr) (b1n b1c : Nat) (K : Env → W) : RP c35 0 [(0, .slice a0p a0n a0c), (1, .slice b1p b1n b1c)] K =
    (K [(0, .slice a0p a0n a0c), (1, .slice b1p b1n b1c)]) := by kernel_rfl
@[go_sem] theorem c35_r1 (a0p : Option Addr) (a0n a0c : Nat) (b1p : Option Addr) (b1n b1c : Nat) (K : Env → W) : RP c35 1 [(0, .slice a0p a0n a0c), (1, .slice b1p b1n b1c)] K =
    (K [(0, .slice a0p a0n a0c), (1, .slice b1p b1n b1c), (10, .bool (((a0n : Int) != (b1n : Int))))]) := by kernel_rfl
@[go_sem] theorem c35_r2 (K : Env → W) : RP c35 2 [] K =
    (K [(4, .bool false)]) := by kernel_rfl
@[go_sem] theorem c35_r3 (a0p : Option Addr) (a0n a0c : Nat) (b1p : Option Addr) (b1n b1c : Nat) (K : Env → W) : RP c35 3 [(0, .slice a0p a0n a0c), (1, .slice b1p b1n b1c)] K =
    (K [(0, .slice a0p a0n a0c), (1, .slice b1p b1n b1c), (5, .int .i64 ((0 : Int)))]) := by kernel_rfl
@[go_sem] theorem c35_r4 (a0p : Option Addr) (a0n a0c : Nat) (b1p : Option Addr) (b1n b1c : Nat) (i5 : Int) (K : Env → W) : RP c35 4 [(0, .slice a0p a0n a0c), (1, .slice b1p b1n b1c), (5, .int .i64 i5)] K =
    (K [(0, .slice a0p a0n a0c), (1, .slice b1p b1n b1c), (5, .int .i64 i5), (14, .bool ((decide (i5 < (a0n : Int)))))]) := by kernel_rfl
@[go_sem] theorem c35_r5 (a0p : Option Addr) (a0n a0c : Nat) (b1p : Option Addr) (b1n b1c : Nat) (i5 : Int) (K : Env → W) : RP c35 5 [(0, .slice a0p a0n a0c), (1, .slice b1p b1n b1c), (5, .int .i64 i5)] K =
    (K [(0, .slice a0p a0n a0c), (1, .slice b1p b1n b1c), (5, .int .i64 ((IntKind.wrap .i64 (i5 + (1 : Int)))))]) := by kernel_rfl
@[go_sem] theorem c35_r6 (a0p : Option Addr) (a0n a0c : Nat) (b1p : Option Addr) (b1n b1c : Nat) (i5 : Int) (K : Env → W) : RP c35 6 [(0, .slice a0p a0n a0c), (1, .slice b1p b1n b1c), (5, .int .i64 i5)] K =
    (ph fun S0 => (rq (0 ≤ i5 ∧ i5 < (a0n : Int)) (nn a0p fun y1_ => (ldnq S0 e_lock_Hold 5 ((Addr.add y1_ ((i5).toNat * 5))) fun (y2_ : lock_Hold) => (rq (0 ≤ i5 ∧ i5 < (b1n : Int)) (nn b1p fun y3_ => (ldnq S0 e_lock_Hold 5 ((Addr.add y3_ ((i5).toNat * 5))) fun (y4_ : lock_Hold) => (valq S0 eB Try.prog (oEq .neq 27 (.tmp 20) (.tmp 24) (v_lock_Hold y2_) (v_lock_Hold y4_)) fun (y5_ : Bool) => (K [(0, .slice a0p a0n a0c), (1, .slice b1p b1n b1c), (5, .int .i64 i5), (25, .bool y5_)]))))))))) := by kernel_rfl
@[go_sem] theorem c35_r7 (K : Env → W) : RP c35 7 [] K =
    (K [(4, .bool false)]) := by kernel_rfl
@[go_sem] theorem c35_r8 (K : Env → W) : RP c35 8 [] K =
    (K [(4, .bool true)]) := by kernel_rfl
@[go_sem] theorem c35_o : c35.lo 1000000 = [4] := rfl
@[go_sem] theorem c35_e (t4 : Bool) (k : Value → W) : RTp c35 [(4, .bool t4)] k = (k (.bool t4)) := by kernel_rfl
theorem c35_ok : (c35.P.follows .mixedOrders && okc c35 c35.body) = true := by kernel_rfl
theorem c35_fn {e : Enc} {args : Array Value} {G : e.α → W} {L : List HP} {ρ : Env} (hρ : envA 0 args.toList = ρ) (hs : Nat.ble args.size 26 = true) (h : E L (D c35 (.seq (.reg 0) (.seq (.seq (.reg 1) (.cond (.tmp 10) (.seq (.reg 2) (.ret)) (.skip))) (.seq (.seq (.reg 3) (.block 0 (.loop (.seq (.seq (.reg 4) (.cond (.tmp 14) (.skip) (.exit 0))) (.seq (.block 1 (.seq (.reg 6) (.cond (.tmp 25) (.seq (.reg 7) (.ret)) (.skip)))) (.reg 5)))))) (.seq (.reg 8) (.ret))))) (fnQ c35 e G) ρ)) : E L (cal e Try.prog 35 args G) :=
  d_fn (c := c35) Try.func35 (by kernel_rfl) (by kernel_rfl) (by kernel_rfl) c35_ok (by kernel_rfl) (by kernel_rfl) hρ hs h
-- loop (first region 4): live slots 0:a0 1:b1 5:i5, of which it writes [5]
/-! (*gharry.lock.Table).Count -/
noncomputable def c36 : Cfg := { P := Try.prog, n := 9, T := TT, body := (Try.f36.body).getD .skip, res := Try.f36.results.toList, li := lk [] [(0, [0]), (1, [0]), (2, []), (3, [0])], lo := lk [] [(0, [0]), (1, [0, 4]), (2, [2]), (3, [2]), (1000000, [2])], ord := lk (false, []) [] }
@[go_sem] theorem c36_i0 : c36.li 0 = [0] := rfl
@[go_sem] theorem c36_i1 : c36.li 1 = [0] := rfl
@[go_sem] theorem c36_i2 : c36.li 2 = [] := rfl
@[go_sem] theorem c36_i3 : c36.li 3 = [0] := rfl
@[go_sem] theorem c36_r0 (t0 : Option Addr) (K : Env → W) : RP c36 0 [(0, .pointer t0)] K =
    (K [(0, .pointer t0)]) := by kernel_rfl
@[go_sem] theorem c36_r1 (t0 : Option Addr) (K : Env → W) : RP c36 1 [(0, .pointer t0)] K =
    (K [(0, .pointer t0), (4, .bool ((t0).isNone))]) := by kernel_rfl
@[go_sem] theorem c36_r2 (K : Env → W) : RP c36 2 [] K =
    (K [(2, .int .i64 ((0 : Int)))]) := by kernel_rfl
@[go_sem] theorem c36_r3 (t0 : Option Addr) (K : Env → W) : RP c36 3 [(0, .pointer t0)] K =
    (nn t0 fun y1_ => (ld eI ((y1_.add 1)) fun (y2_ : Int) => (K [(2, .int .i64 y2_)]))) := by kernel_rfl
@[go_sem] theorem c36_o : c36.lo 1000000 = [2] := rfl
@[go_sem] theorem c36_e (t2 : Int) (k : Value → W) : RTp c36 [(2, .int .i64 t2)] k = (k (.int .i64 t2)) := by kernel_rfl
theorem c36_ok : (c36.P.follows .mixedOrders && okc c36 c36.body) = true := by kernel_rfl
theorem c36_fn {e : Enc} {args : Array Value} {G : e.α → W} {L : List HP} {ρ : Env} (hρ : envA 0 args.toList = ρ) (hs : Nat.ble args.size 9 = true) (h : E L (D c36 (.seq (.reg 0) (.seq (.seq (.reg 1) (.cond (.tmp 4) (.seq (.reg 2) (.ret)) (.skip))) (.seq (.reg 3) (.ret)))) (fnQ c36 e G) ρ)) : E L (cal e Try.prog 36 args G) :=
  d_fn (c := c36) Try.func36 (by kernel_rfl) (by kernel_rfl) (by kernel_rfl) c36_ok (by kernel_rfl) (by kernel_rfl) hρ hs h
/-! (*gharry.lock.Table).Ask -/
noncomputable def c37 : Cfg := { P := Try.prog, n := 40, T := TT, body := (Try.f37.body).getD .skip, res := Try.f37.results.toList, li := lk [] [(0, [0, 1]), (1, [0, 3]), (2, []), (3, [0, 3]), (4, []), (5, [0, 3]), (6, []), (7, [0, 3]), (8, [0, 3]), (9, [0]), (10, [])], lo := lk [] [(0, [0, 3]), (1, [0, 3, 5]), (2, [4]), (3, [0, 3, 8]), (4, [4]), (5, [0, 3, 12]), (6, [4]), (7, [0, 3, 22]), (8, [0]), (9, []), (10, [4]), (1000000, [4])], ord := lk (false, []) [(8, (true, [(0, 1), (1, 1), (2, 1), (3, 1), (4, 0), (5, 0), (6, 2), (7, 4), (8, 1), (9, 1), (10, 4)]))] }
@[go_sem] theorem c37_i0 : c37.li 0 = [0, 1] := rfl
@[go_sem] theorem c37_i1 : c37.li 1 = [0, 3] := rfl
@[go_sem] theorem c37_i2 : c37.li 2 = [] := rfl
@[go_sem] theorem c37_i3 : c37.li 3 = [0, 3] := rfl
@[go_sem] theorem c37_i4 : c37.li 4 = [] := rfl
@[go_sem] theorem c37_i5 : c37.li 5 = [0, 3] := rfl
@[go_sem] theorem c37_i6 : c37.li 6 = [] := rfl
@[go_sem] theorem c37_i7 : c37.li 7 = [0, 3] := rfl
@[go_sem] theorem c37_i8 : c37.li 8 = [0, 3] := rfl
@[go_sem] theorem c37_i9 : c37.li 9 = [0] := rfl
@[go_sem] theorem c37_i10 : c37.li 10 = [] := rfl
@[go_sem] theorem c37_r0 (t0 : Option Addr) (h1 : lock_Hold) (K : Env → W) : RP c37 0 [(0, .pointer t0), (1, v_lock_Hold h1)] K =
    (nwc #[.int .i64 h1.Txn, .int .i64 h1.Mode, str h1.Lo, str h1.Hi, .bool h1.Open] 27 fun y1_ => (K [(0, .pointer t0), (3, .pointer (some y1_))])) := by kernel_rfl
@[go_sem] theorem c37_r1 (t0 : Option Addr) (h3 : Addr) (K : Env → W) : RP c37 1 [(0, .pointer t0), (3, .pointer (some h3))] K =
    (K [(0, .pointer t0), (3, .pointer (some h3)), (5, .bool ((t0).isNone))]) := by kernel_rfl
@[go_sem] theorem c37_r2 (K : Env → W) : RP c37 2 [] K =
    (K [(4, .int .i64 ((11 : Int)))]) := by kernel_rfl
@[go_sem] theorem c37_r3 (t0 : Option Addr) (h3 : Addr) (K : Env → W) : RP c37 3 [(0, .pointer t0), (3, .pointer (some h3))] K =
    (ldn e_lock_Hold 5 h3 fun (y1_ : lock_Hold) => (cal eB Try.prog 17 #[v_lock_Hold y1_] fun (y2_ : Bool) => (K [(0, .pointer t0), (3, .pointer (some h3)), (8, .bool ((!y2_)))]))) := by kernel_rfl
@[go_sem] theorem c37_r4 (K : Env → W) : RP c37 4 [] K =
    (K [(4, .int .i64 ((1 : Int)))]) := by kernel_rfl
@[go_sem] theorem c37_r5 (t0 : Option Addr) (h3 : Addr) (K : Env → W) : RP c37 5 [(0, .pointer t0), (3, .pointer (some h3))] K =
    (nn t0 fun y1_ => (ld eSl y1_ fun (y2_ : (Option Addr × Nat × Nat)) => (cal eB Try.prog 70 #[.slice y2_.1 y2_.2.1 y2_.2.2, .func (.func 74) #[] #[.pointer (some h3)]] fun (y3_ : Bool) => (K [(0, .pointer t0), (3, .pointer (some h3)), (12, .bool y3_)])))) := by kernel_rfl
@[go_sem] theorem c37_r6 (K : Env → W) : RP c37 6 [] K =
    (K [(4, .int .i64 ((12 : Int)))]) := by kernel_rfl
@[go_sem] theorem c37_r7 (t0 : Option Addr) (h3 : Addr) (K : Env → W) : RP c37 7 [(0, .pointer t0), (3, .pointer (some h3))] K =
    (ldn e_lock_Hold 5 h3 fun (y1_ : lock_Hold) => (cal eB Try.prog 28 #[.pointer t0, v_lock_Hold y1_] fun (y2_ : Bool) => (K [(0, .pointer t0), (3, .pointer (some h3)), (22, .bool ((!y2_)))]))) := by kernel_rfl
@[go_sem] theorem c37_r8 (t0 : Option Addr) (h3 : Addr) (K : Env → W) : RP c37 8 [(0, .pointer t0), (3, .pointer (some h3))] K =
    (ph fun S0 => (nn t0 fun y1_ => (ldq S0 eSl y1_ fun (y2_ : (Option Addr × Nat × Nat)) => (ldnq S0 e_lock_Hold 5 h3 fun (y3_ : lock_Hold) => (nwc #[.int .i64 y3_.Txn, .int .i64 y3_.Mode, str y3_.Lo, str y3_.Hi, .bool y3_.Open] 27 fun y4_ => (kp S0 (val eSl Try.prog (oB_append #[41, 41] 41 #[.slice y2_.1 y2_.2.1 y2_.2.2, .slice ((some y4_)) 1 1]) fun (y5_ : (Option Addr × Nat × Nat)) => (nn t0 fun y6_ => (st y6_ (.slice y5_.1 y5_.2.1 y5_.2.2) (K [(0, .pointer t0)])))))))))) := by kernel_rfl
@[go_sem] theorem c37_r9 (t0 : Option Addr) (K : Env → W) : RP c37 9 [(0, .pointer t0)] K =
    (nn t0 fun y1_ => (ld eI ((y1_.add 1)) fun (y2_ : Int) => (nn t0 fun y3_ => (st ((y3_.add 1)) (.int .i64 ((IntKind.wrap .i64 (y2_ + (1 : Int))))) (K []))))) := by kernel_rfl
@[go_sem] theorem c37_r10 (K : Env → W) : RP c37 10 [] K =
    (K [(4, .int .i64 ((0 : Int)))]) := by kernel_rfl
@[go_sem] theorem c37_o : c37.lo 1000000 = [4] := rfl
@[go_sem] theorem c37_e (t4 : Int) (k : Value → W) : RTp c37 [(4, .int .i64 t4)] k = (k (.int .i64 t4)) := by kernel_rfl
theorem c37_ok : (c37.P.follows .mixedOrders && okc c37 c37.body) = true := by kernel_rfl
theorem c37_fn {e : Enc} {args : Array Value} {G : e.α → W} {L : List HP} {ρ : Env} (hρ : envA 0 args.toList = ρ) (hs : Nat.ble args.size 40 = true) (h : E L (D c37 (.seq (.reg 0) (.seq (.block 0 (.seq (.reg 1) (.cond (.tmp 5) (.seq (.reg 2) (.ret)) (.seq (.reg 3) (.cond (.tmp 8) (.seq (.reg 4) (.ret)) (.seq (.reg 5) (.cond (.tmp 12) (.seq (.reg 6) (.ret)) (.skip)))))))) (.seq (.seq (.reg 7) (.cond (.tmp 22) (.seq (.reg 8) (.reg 9)) (.skip))) (.seq (.reg 10) (.ret))))) (fnQ c37 e G) ρ)) : E L (cal e Try.prog 37 args G) :=
  d_fn (c := c37) Try.func37 (by kernel_rfl) (by kernel_rfl) (by kernel_rfl) c37_ok (by kernel_rfl) (by kernel_rfl) hρ hs h
/-! (*gharry.lock.Table).Key -/
noncomputable def c38 : Cfg := { P := Try.prog, n := 16, T := TT, body := (Try.f38.body).getD .skip, res := Try.f38.results.toList, li := lk [] [(0, [0, 1, 2, 3]), (1, [0, 1, 2, 3])], lo := lk [] [(0, [0, 1, 2, 3]), (1, [8]), (1000000, [8])], ord := lk (false, []) [] }
@[go_sem] theorem c38_i0 : c38.li 0 = [0, 1, 2, 3] := rfl
@[go_sem] theorem c38_i1 : c38.li 1 = [0, 1, 2, 3] := rfl
@[go_sem] theorem c38_r0 (t0 : Option Addr) (txn1 : Int) (mode2 : Int) (key3 : List UInt8) (K : Env → W) : RP c38 0 [(0, .pointer t0), (1, .int .i64 txn1), (2, .int .i64 mode2), (3, str key3)] K =
    (K [(0, .pointer t0), (1, .int .i64 txn1), (2, .int .i64 mode2), (3, str key3)]) := by kernel_rfl
@[go_sem] theorem c38_r1 (t0 : Option Addr) (txn1 : Int) (mode2 : Int) (key3 : List UInt8) (K : Env → W) : RP c38 1 [(0, .pointer t0), (1, .int .i64 txn1), (2, .int .i64 mode2), (3, str key3)] K =
    (cal eI Try.prog 37 #[.pointer t0, v_lock_Hold ((⟨txn1, mode2, key3, key3, false⟩ : lock_Hold))] fun (y1_ : Int) => (K [(8, .int .i64 y1_)])) := by kernel_rfl
@[go_sem] theorem c38_o : c38.lo 1000000 = [8] := rfl
@[go_sem] theorem c38_e (t8 : Int) (k : Value → W) : RTp c38 [(8, .int .i64 t8)] k = (k (.int .i64 t8)) := by kernel_rfl
theorem c38_ok : (c38.P.follows .mixedOrders && okc c38 c38.body) = true := by kernel_rfl
theorem c38_fn {e : Enc} {args : Array Value} {G : e.α → W} {L : List HP} {ρ : Env} (hρ : envA 0 args.toList = ρ) (hs : Nat.ble args.size 16 = true) (h : E L (D c38 (.seq (.reg 0) (.seq (.reg 1) (.ret))) (fnQ c38 e G) ρ)) : E L (cal e Try.prog 38 args G) :=
  d_fn (c := c38) Try.func38 (by kernel_rfl) (by kernel_rfl) (by kernel_rfl) c38_ok (by kernel_rfl) (by kernel_rfl) hρ hs h
/-! (*gharry.lock.Table).Range -/
noncomputable def c39 : Cfg := { P := Try.prog, n := 20, T := TT, body := (Try.f39.body).getD .skip, res := Try.f39.results.toList, li := lk [] [(0, [0, 1, 2, 3, 4]), (1, [0, 1, 2, 3, 4])], lo := lk [] [(0, [0, 1, 2, 3, 4]), (1, [10]), (1000000, [10])], ord := lk (false, []) [] }
@[go_sem] theorem c39_i0 : c39.li 0 = [0, 1, 2, 3, 4] := rfl
@[go_sem] theorem c39_i1 : c39.li 1 = [0, 1, 2, 3, 4] := rfl
@[go_sem] theorem c39_r0 (t0 : Option Addr) (txn1 : Int) (mode2 : Int) (lo3 : List UInt8) (hi4 : List UInt8) (K : Env → W) : RP c39 0 [(0, .pointer t0), (1, .int .i64 txn1), (2, .int .i64 mode2), (3, str lo3), (4, str hi4)] K =
    (K [(0, .pointer t0), (1, .int .i64 txn1), (2, .int .i64 mode2), (3, str lo3), (4, str hi4)]) := by kernel_rfl
@[go_sem] theorem c39_r1 (t0 : Option Addr) (txn1 : Int) (mode2 : Int) (lo3 : List UInt8) (hi4 : List UInt8) (K : Env → W) : RP c39 1 [(0, .pointer t0), (1, .int .i64 txn1), (2, .int .i64 mode2), (3, str lo3), (4, str hi4)] K =
    (cal eI Try.prog 37 #[.pointer t0, v_lock_Hold ((⟨txn1, mode2, lo3, hi4, (hi4 == ([] : List UInt8))⟩ : lock_Hold))] fun (y1_ : Int) => (K [(10, .int .i64 y1_)])) := by kernel_rfl
@[go_sem] theorem c39_o : c39.lo 1000000 = [10] := rfl
@[go_sem] theorem c39_e (t10 : Int) (k : Value → W) : RTp c39 [(10, .int .i64 t10)] k = (k (.int .i64 t10)) := by kernel_rfl
theorem c39_ok : (c39.P.follows .mixedOrders && okc c39 c39.body) = true := by kernel_rfl
theorem c39_fn {e : Enc} {args : Array Value} {G : e.α → W} {L : List HP} {ρ : Env} (hρ : envA 0 args.toList = ρ) (hs : Nat.ble args.size 20 = true) (h : E L (D c39 (.seq (.reg 0) (.seq (.reg 1) (.ret))) (fnQ c39 e G) ρ)) : E L (cal e Try.prog 39 args G) :=
  d_fn (c := c39) Try.func39 (by kernel_rfl) (by kernel_rfl) (by kernel_rfl) c39_ok (by kernel_rfl) (by kernel_rfl) hρ hs h
/-! gharry.lock.keep[gharry.lock.Hold] -/
noncomputable def c68 : Cfg := { P := Try.prog, n := 23, T := TT, body := (Try.f68.body).getD .skip, res := Try.f68.results.toList, li := lk [] [(0, [0, 1]), (1, [0, 1]), (2, [0, 1, 5]), (3, [1, 5, 8, 9, 10]), (4, [1, 5, 8, 9, 10]), (5, [1, 5, 7, 8, 9, 10]), (6, [1, 5, 7, 8, 9, 10]), (7, [1, 5, 8, 9, 10]), (8, [5])], lo := lk [] [(0, [0, 1]), (1, [0, 1, 5]), (2, [1, 5, 8, 9, 10]), (3, [1, 5, 8, 9, 10, 11]), (4, [1, 5, 7, 8, 9, 10]), (5, [1, 5, 7, 8, 9, 10, 16]), (6, [1, 5, 8, 9, 10]), (7, [1, 5, 8, 9, 10]), (8, [4]), (1000000, [4])], ord := lk (false, []) [] }
@[go_sem] theorem c68_i0 : c68.li 0 = [0, 1] := rfl
@[go_sem] theorem c68_i1 : c68.li 1 = [0, 1] := rfl
@[go_sem] theorem c68_i2 : c68.li 2 = [0, 1, 5] := rfl
@[go_sem] theorem c68_i3 : c68.li 3 = [1, 5, 8, 9, 10] := rfl
@[go_sem] theorem c68_i4 : c68.li 4 = [1, 5, 8, 9, 10] := rfl
@[go_sem] theorem c68_i5 : c68.li 5 = [1, 5, 7, 8, 9, 10] := rfl
@[go_sem] theorem c68_i6 : c68.li 6 = [1, 5, 7, 8, 9, 10] := rfl
@[go_sem] theorem c68_i7 : c68.li 7 = [1, 5, 8, 9, 10] := rfl
@[go_sem] theorem c68_i8 : c68.li 8 = [5] := rfl
@[go_sem] theorem c68_r0 (l0p : Option Addr) (l0n l0c : Nat) (stays1f : Nat) (stays1c : Array Value) (K : Env → W) : RP c68 0 [(0, .slice l0p l0n l0c), (1, .func (.func stays1f) #[] stays1c)] K =
    (K [(0, .slice l0p l0n l0c), (1, .func (.func stays1f) #[] stays1c)]) := by kernel_rfl
@[go_sem] theorem c68_r1 (l0p : Option Addr) (l0n l0c : Nat) (stays1f : Nat) (stays1c : Array Value) (K : Env → W) : RP c68 1 [(0, .slice l0p l0n l0c), (1, .func (.func stays1f) #[] stays1c)] K =
    (K [(0, .slice l0p l0n l0c), (1, .func (.func stays1f) #[] stays1c), (5, .slice none 0 0)]) := by kernel_rfl
@[go_sem] theorem c68_r2 (l0p : Option Addr) (l0n l0c : Nat) (stays1f : Nat) (stays1c : Array Value) (out5p : Option Addr) (out5n out5c : Nat) (K : Env → W) : RP c68 2 [(0, .slice l0p l0n l0c), (1, .func (.func stays1f) #[] stays1c), (5, .slice out5p out5n out5c)] K =
    (K [(1, .func (.func stays1f) #[] stays1c), (5, .slice out5p out5n out5c), (8, .slice l0p l0n l0c), (9, .int .i64 ((l0n : Int))), (10, .int .i64 ((0 : Int)))]) := by kernel_rfl
@[go_sem] theorem c68_r3 (stays1f : Nat) (stays1c : Array Value) (out5p : Option Addr) (out5n out5c : Nat) (t8p : Option Addr) (t8n t8c : Nat) (t9 : Int) (t10 : Int) (K : Env → W) : RP c68 3 [(1, .func (.func stays1f) #[] stays1c), (5, .slice out5p out5n out5c), (8, .slice t8p t8n t8c), (9, .int .i64 t9), (10, .int .i64 t10)] K =
    (K [(1, .func (.func stays1f) #[] stays1c), (5, .slice out5p out5n out5c), (8, .slice t8p t8n t8c), (9, .int .i64 t9), (10, .int .i64 t10), (11, .bool ((decide (t10 < t9))))]) := by kernel_rfl
@[go_sem] theorem c68_r4 (stays1f : Nat) (stays1c : Array Value) (out5p : Option Addr) (out5n out5c : Nat) (t8p : Option Addr) (t8n t8c : Nat) (t9 : Int) (t10 : Int) (K : Env → W) : RP c68 4 [(1, .func (.func stays1f) #[] stays1c), (5, .slice out5p out5n out5c), (8, .slice t8p t8n t8c), (9, .int .i64 t9), (10, .int .i64 t10)] K =
    (rq (0 ≤ t10 ∧ t10 < (t8n : Int)) (nn t8p fun y1_ => (ldn e_lock_Hold 5 ((Addr.add y1_ ((t10).toNat * 5))) fun (y2_ : lock_Hold) => (nwc #[.int .i64 (((⟨(0 : Int), (0 : Int), ([] : List UInt8), ([] : List UInt8), false⟩ : lock_Hold)).Txn), .int .i64 (((⟨(0 : Int), (0 : Int), ([] : List UInt8), ([] : List UInt8), false⟩ : lock_Hold)).Mode), str (((⟨(0 : Int), (0 : Int), ([] : List UInt8), ([] : List UInt8), false⟩ : lock_Hold)).Lo), str (((⟨(0 : Int), (0 : Int), ([] : List UInt8), ([] : List UInt8), false⟩ : lock_Hold)).Hi), .bool (((⟨(0 : Int), (0 : Int), ([] : List UInt8), ([] : List UInt8), false⟩ : lock_Hold)).Open)] 27 fun y3_ => (stl [.int .i64 y2_.Txn, .int .i64 y2_.Mode, str y2_.Lo, str y2_.Hi, .bool y2_.Open] y3_ 0 (K [(1, .func (.func stays1f) #[] stays1c), (5, .slice out5p out5n out5c), (7, .pointer (some y3_)), (8, .slice t8p t8n t8c), (9, .int .i64 t9), (10, .int .i64 t10)])))))) := by kernel_rfl
@[go_sem] theorem c68_r5 (stays1f : Nat) (stays1c : Array Value) (out5p : Option Addr) (out5n out5c : Nat) (x7 : Addr) (t8p : Option Addr) (t8n t8c : Nat) (t9 : Int) (t10 : Int) (K : Env → W) : RP c68 5 [(1, .func (.func stays1f) #[] stays1c), (5, .slice out5p out5n out5c), (7, .pointer (some x7)), (8, .slice t8p t8n t8c), (9, .int .i64 t9), (10, .int .i64 t10)] K =
    (ldn e_lock_Hold 5 x7 fun (y1_ : lock_Hold) => (ent Try.prog stays1f (cal eB Try.prog stays1f (#[v_lock_Hold y1_] ++ stays1c) fun (y2_ : Bool) => (K [(1, .func (.func stays1f) #[] stays1c), (5, .slice out5p out5n out5c), (7, .pointer (some x7)), (8, .slice t8p t8n t8c), (9, .int .i64 t9), (10, .int .i64 t10), (16, .bool y2_)])))) := by kernel_rfl
@[go_sem] theorem c68_r6 (stays1f : Nat) (stays1c : Array Value) (out5p : Option Addr) (out5n out5c : Nat) (x7 : Addr) (t8p : Option Addr) (t8n t8c : Nat) (t9 : Int) (t10 : Int) (K : Env → W) : RP c68 6 [(1, .func (.func stays1f) #[] stays1c), (5, .slice out5p out5n out5c), (7, .pointer (some x7)), (8, .slice t8p t8n t8c), (9, .int .i64 t9), (10, .int .i64 t10)] K =
    (ldn e_lock_Hold 5 x7 fun (y1_ : lock_Hold) => (nwc #[.int .i64 y1_.Txn, .int .i64 y1_.Mode, str y1_.Lo, str y1_.Hi, .bool y1_.Open] 27 fun y2_ => (val eSl Try.prog (oB_append #[41, 41] 41 #[.slice out5p out5n out5c, .slice ((some y2_)) 1 1]) fun (y3_ : (Option Addr × Nat × Nat)) => (K [(1, .func (.func stays1f) #[] stays1c), (5, .slice y3_.1 y3_.2.1 y3_.2.2), (8, .slice t8p t8n t8c), (9, .int .i64 t9), (10, .int .i64 t10)])))) := by kernel_rfl
@[go_sem] theorem c68_r7 (stays1f : Nat) (stays1c : Array Value) (out5p : Option Addr) (out5n out5c : Nat) (t8p : Option Addr) (t8n t8c : Nat) (t9 : Int) (t10 : Int) (K : Env → W) : RP c68 7 [(1, .func (.func stays1f) #[] stays1c), (5, .slice out5p out5n out5c), (8, .slice t8p t8n t8c), (9, .int .i64 t9), (10, .int .i64 t10)] K =
    (K [(1, .func (.func stays1f) #[] stays1c), (5, .slice out5p out5n out5c), (8, .slice t8p t8n t8c), (9, .int .i64 t9), (10, .int .i64 ((IntKind.wrap .i64 (t10 + (1 : Int)))))]) := by kernel_rfl
@[go_sem] theorem c68_r8 (out5p : Option Addr) (out5n out5c : Nat) (K : Env → W) : RP c68 8 [(5, .slice out5p out5n out5c)] K =
    (K [(4, .slice out5p out5n out5c)]) := by kernel_rfl
@[go_sem] theorem c68_o : c68.lo 1000000 = [4] := rfl
@[go_sem] theorem c68_e (t4p : Option Addr) (t4n t4c : Nat) (k : Value → W) : RTp c68 [(4, .slice t4p t4n t4c)] k = (k (.slice t4p t4n t4c)) := by kernel_rfl
theorem c68_ok : (c68.P.follows .mixedOrders && okc c68 c68.body) = true := by kernel_rfl
theorem c68_fn {e : Enc} {args : Array Value} {G : e.α → W} {L : List HP} {ρ : Env} (hρ : envA 0 args.toList = ρ) (hs : Nat.ble args.size 23 = true) (h : E L (D c68 (.seq (.reg 0) (.seq (.reg 1) (.seq (.seq (.reg 2) (.block 0 (.loop (.seq (.reg 3) (.seq (.cond (.tmp 11) (.skip) (.exit 0)) (.seq (.block 1 (.seq (.reg 4) (.seq (.reg 5) (.cond (.tmp 16) (.reg 6) (.skip))))) (.reg 7))))))) (.seq (.reg 8) (.ret))))) (fnQ c68 e G) ρ)) : E L (cal e Try.prog 68 args G) :=
  d_fn (c := c68) Try.func68 (by kernel_rfl) (by kernel_rfl) (by kernel_rfl) c68_ok (by kernel_rfl) (by kernel_rfl) hρ hs h
-- loop (first region 3): live slots 1:stays1 5:out5 8:t8 9:t9 10:t10, of which it writes [5, 10]
/-! (*gharry.lock.Table).Drop$1 -/
noncomputable def c69 : Cfg := { P := Try.prog, n := 8, T := TT, body := (Try.f69.body).getD .skip, res := Try.f69.results.toList, li := lk [] [(0, [0, 1]), (1, [1, 2])], lo := lk [] [(0, [1, 2]), (1, [3]), (1000000, [3])], ord := lk (false, []) [] }
@[go_sem] theorem c69_i0 : c69.li 0 = [0, 1] := rfl
@[go_sem] theorem c69_i1 : c69.li 1 = [1, 2] := rfl
@[go_sem] theorem c69_r0 (x0 : lock_Hold) (t1 : Addr) (K : Env → W) : RP c69 0 [(0, v_lock_Hold x0), (1, .pointer (some t1))] K =
    (nwc #[.int .i64 x0.Txn, .int .i64 x0.Mode, str x0.Lo, str x0.Hi, .bool x0.Open] 27 fun y1_ => (K [(1, .pointer (some t1)), (2, .pointer (some y1_))])) := by kernel_rfl
@[go_sem] theorem c69_r1 (t1 : Addr) (x2 : Addr) (K : Env → W) : RP c69 1 [(1, .pointer (some t1)), (2, .pointer (some x2))] K =
    (ld eI x2 fun (y1_ : Int) => (ld eI t1 fun (y2_ : Int) => (K [(3, .bool ((y1_ != y2_)))]))) := by kernel_rfl
@[go_sem] theorem c69_o : c69.lo 1000000 = [3] := rfl
@[go_sem] theorem c69_e (t3 : Bool) (k : Value → W) : RTp c69 [(3, .bool t3)] k = (k (.bool t3)) := by kernel_rfl
theorem c69_ok : (c69.P.follows .mixedOrders && okc c69 c69.body) = true := by kernel_rfl
theorem c69_fn {e : Enc} {args : Array Value} {G : e.α → W} {L : List HP} {ρ : Env} (hρ : envA 0 args.toList = ρ) (hs : Nat.ble args.size 8 = true) (h : E L (D c69 (.seq (.reg 0) (.seq (.reg 1) (.ret))) (fnQ c69 e G) ρ)) : E L (cal e Try.prog 69 args G) :=
  d_fn (c := c69) Try.func69 (by kernel_rfl) (by kernel_rfl) (by kernel_rfl) c69_ok (by kernel_rfl) (by kernel_rfl) hρ hs h
/-! slices.ContainsFunc[[]gharry.lock.Hold,gharry.lock.Hold] -/
noncomputable def c70 : Cfg := { P := Try.prog, n := 9, T := TT, body := (Try.f70.body).getD .skip, res := Try.f70.results.toList, li := lk [] [(0, [0, 1]), (1, [0, 1])], lo := lk [] [(0, [0, 1]), (1, [4]), (1000000, [4])], ord := lk (false, []) [] }
@[go_sem] theorem c70_i0 : c70.li 0 = [0, 1] := rfl
@[go_sem] theorem c70_i1 : c70.li 1 = [0, 1] := rfl
@[go_sem] theorem c70_r0 (s0p : Option Addr) (s0n s0c : Nat) (f1f : Nat) (f1c : Array Value) (K : Env → W) : RP c70 0 [(0, .slice s0p s0n s0c), (1, .func (.func f1f) #[] f1c)] K =
    (K [(0, .slice s0p s0n s0c), (1, .func (.func f1f) #[] f1c)]) := by kernel_rfl
@[go_sem] theorem c70_r1 (s0p : Option Addr) (s0n s0c : Nat) (f1f : Nat) (f1c : Array Value) (K : Env → W) : RP c70 1 [(0, .slice s0p s0n s0c), (1, .func (.func f1f) #[] f1c)] K =
    (cal eI Try.prog 89 #[.slice s0p s0n s0c, .func (.func f1f) #[] f1c] fun (y1_ : Int) => (K [(4, .bool ((decide ((0 : Int) ≤ y1_))))])) := by kernel_rfl
@[go_sem] theorem c70_o : c70.lo 1000000 = [4] := rfl
@[go_sem] theorem c70_e (t4 : Bool) (k : Value → W) : RTp c70 [(4, .bool t4)] k = (k (.bool t4)) := by kernel_rfl
theorem c70_ok : (c70.P.follows .mixedOrders && okc c70 c70.body) = true := by kernel_rfl
theorem c70_fn {e : Enc} {args : Array Value} {G : e.α → W} {L : List HP} {ρ : Env} (hρ : envA 0 args.toList = ρ) (hs : Nat.ble args.size 9 = true) (h : E L (D c70 (.seq (.reg 0) (.seq (.reg 1) (.ret))) (fnQ c70 e G) ρ)) : E L (cal e Try.prog 70 args G) :=
  d_fn (c := c70) Try.func70 (by kernel_rfl) (by kernel_rfl) (by kernel_rfl) c70_ok (by kernel_rfl) (by kernel_rfl) hρ hs h
/-! (*gharry.lock.Table).Has$1 -/
noncomputable def c71 : Cfg := { P := Try.prog, n := 21, T := TT, body := (Try.f71.body).getD .skip, res := Try.f71.results.toList, li := lk [] [(0, [0, 1]), (1, [1, 2])], lo := lk [] [(0, [1, 2]), (1, [3]), (1000000, [3])], ord := lk (false, []) [] }
@[go_sem] theorem c71_i0 : c71.li 0 = [0, 1] := rfl
@[go_sem] theorem c71_i1 : c71.li 1 = [1, 2] := rfl
@[go_sem] theorem c71_r0 (x0 : lock_Hold) (t1 : Addr) (K : Env → W) : RP c71 0 [(0, v_lock_Hold x0), (1, .pointer (some t1))] K =
    (nwc #[.int .i64 x0.Txn, .int .i64 x0.Mode, str x0.Lo, str x0.Hi, .bool x0.Open] 27 fun y1_ => (K [(1, .pointer (some t1)), (2, .pointer (some y1_))])) := by kernel_rfl
@[go_sem] theorem c71_r1 (t1 : Addr) (x2 : Addr) (K : Env → W) : RP c71 1 [(1, .pointer (some t1)), (2, .pointer (some x2))] K =
    (ld eI x2 fun (y1_ : Int) => (ld eI t1 fun (y2_ : Int) => (cnd ((y1_ == y2_)) (ld eI ((x2.add 1)) fun (y3_ : Int) => (ld eI ((t1.add 1)) fun (y4_ : Int) => (cnd ((decide (y4_ ≤ y3_))) (ldn e_lock_Hold 5 t1 fun (y5_ : lock_Hold) => (ldn e_lock_Hold 5 x2 fun (y6_ : lock_Hold) => (cal eB Try.prog 72 #[v_lock_Hold y5_, v_lock_Hold y6_] fun (y7_ : Bool) => (K [(3, .bool y7_)])))) (K [(3, .bool false)])))) (K [(3, .bool false)])))) := by kernel_rfl
@[go_sem] theorem c71_o : c71.lo 1000000 = [3] := rfl
@[go_sem] theorem c71_e (t3 : Bool) (k : Value → W) : RTp c71 [(3, .bool t3)] k = (k (.bool t3)) := by kernel_rfl
theorem c71_ok : (c71.P.follows .mixedOrders && okc c71 c71.body) = true := by kernel_rfl
theorem c71_fn {e : Enc} {args : Array Value} {G : e.α → W} {L : List HP} {ρ : Env} (hρ : envA 0 args.toList = ρ) (hs : Nat.ble args.size 21 = true) (h : E L (D c71 (.seq (.reg 0) (.seq (.reg 1) (.ret))) (fnQ c71 e G) ρ)) : E L (cal e Try.prog 71 args G) :=
  d_fn (c := c71) Try.func71 (by kernel_rfl) (by kernel_rfl) (by kernel_rfl) c71_ok (by kernel_rfl) (by kernel_rfl) hρ hs h
/-! gharry.lock.within -/
noncomputable def c72 : Cfg := { P := Try.prog, n := 26, T := TT, body := (Try.f72.body).getD .skip, res := Try.f72.results.toList, li := lk [] [(0, [0, 1]), (1, [2, 3])], lo := lk [] [(0, [2, 3]), (1, [4]), (1000000, [4])], ord := lk (false, []) [] }
@[go_sem] theorem c72_i0 : c72.li 0 = [0, 1] := rfl
@[go_sem] theorem c72_i1 : c72.li 1 = [2, 3] := rfl
@[go_sem] theorem c72_r0 (a0 : lock_Hold) (b1 : lock_Hold) (K : Env → W) : RP c72 0 [(0, v_lock_Hold a0), (1, v_lock_Hold b1)] K =
    (nwc #[.int .i64 a0.Txn, .int .i64 a0.Mode, str a0.Lo, str a0.Hi, .bool a0.Open] 27 fun y1_ => (nwc #[.int .i64 b1.Txn, .int .i64 b1.Mode, str b1.Lo, str b1.Hi, .bool b1.Open] 27 fun y2_ => (K [(2, .pointer (some y1_)), (3, .pointer (some y2_))]))) := by kernel_rfl
@[go_sem] theorem c72_r1 (a2 : Addr) (b3 : Addr) (K : Env → W) : RP c72 1 [(2, .pointer (some a2)), (3, .pointer (some b3))] K =
    (ld eS ((b3.add 2)) fun (y1_ : List UInt8) => (ld eS ((a2.add 2)) fun (y2_ : List UInt8) => (cnd ((Op.bytesLess y1_ y2_ || y1_ == y2_)) (ld eB ((b3.add 4)) fun (y3_ : Bool) => (cnd y3_ (K [(4, .bool true)]) (ld eB ((a2.add 4)) fun (y4_ : Bool) => (cnd ((!y4_)) (ld eS ((a2.add 3)) fun (y5_ : List UInt8) => (ld eS ((b3.add 3)) fun (y6_ : List UInt8) => (K [(4, .bool ((Op.bytesLess y5_ y6_ || y5_ == y6_)))]))) (K [(4, .bool false)]))))) (K [(4, .bool false)])))) := by kernel_rfl
@[go_sem] theorem c72_o : c72.lo 1000000 = [4] := rfl
@[go_sem] theorem c72_e (t4 : Bool) (k : Value → W) : RTp c72 [(4, .bool t4)] k = (k (.bool t4)) := by kernel_rfl
theorem c72_ok : (c72.P.follows .mixedOrders && okc c72 c72.body) = true := by kernel_rfl
theorem c72_fn {e : Enc} {args : Array Value} {G : e.α → W} {L : List HP} {ρ : Env} (hρ : envA 0 args.toList = ρ) (hs : Nat.ble args.size 26 = true) (h : E L (D c72 (.seq (.reg 0) (.seq (.reg 1) (.ret))) (fnQ c72 e G) ρ)) : E L (cal e Try.prog 72 args G) :=
  d_fn (c := c72) Try.func72 (by kernel_rfl) (by kernel_rfl) (by kernel_rfl) c72_ok (by kernel_rfl) (by kernel_rfl) hρ hs h
/-! slices.Clone[[]gharry.lock.Hold,gharry.lock.Hold] -/
noncomputable def c73 : Cfg := { P := Try.prog, n := 8, T := TT, body := (Try.f73.body).getD .skip, res := Try.f73.results.toList, li := lk [] [(0, [0]), (1, [0]), (2, []), (3, [0])], lo := lk [] [(0, [0]), (1, [0, 4]), (2, [2]), (3, [2]), (1000000, [2])], ord := lk (false, []) [] }
@[go_sem] theorem c73_i0 : c73.li 0 = [0] := rfl
@[go_sem] theorem c73_i1 : c73.li 1 = [0] := rfl
@[go_sem] theorem c73_i2 : c73.li 2 = [] := rfl
@[go_sem] theorem c73_i3 : c73.li 3 = [0] := rfl
@[go_sem] theorem c73_r0 (s0p : Option Addr) (s0n s0c : Nat) (K : Env → W) : RP c73 0 [(0, .slice s0p s0n s0c)] K =
    (K [(0, .slice s0p s0n s0c)]) := by kernel_rfl
@[go_sem] theorem c73_r1 (s0p : Option Addr) (s0n s0c : Nat) (K : Env → W) : RP c73 1 [(0, .slice s0p s0n s0c)] K =
    (val eB Try.prog (oEq .eql 41 (.tmp 3) (.const (.slice none 0 0)) (.slice s0p s0n s0c) (.slice none 0 0)) fun (y1_ : Bool) => (K [(0, .slice s0p s0n s0c), (4, .bool y1_)])) := by kernel_rfl
@[go_sem] theorem c73_r2 (K : Env → W) : RP c73 2 [] K =
    (K [(2, .slice none 0 0)]) := by kernel_rfl
@[go_sem] theorem c73_r3 (s0p : Option Addr) (s0n s0c : Nat) (K : Env → W) : RP c73 3 [(0, .slice s0p s0n s0c)] K =
    (nwc #[] 27 fun y1_ => (val eSl Try.prog (oB_append #[41, 41] 41 #[.slice ((some y1_)) 0 0, .slice s0p s0n s0c]) fun (y2_ : (Option Addr × Nat × Nat)) => (K [(2, .slice y2_.1 y2_.2.1 y2_.2.2)]))) := by kernel_rfl
@[go_sem] theorem c73_o : c73.lo 1000000 = [2] := rfl
@[go_sem] theorem c73_e (t2p : Option Addr) (t2n t2c : Nat) (k : Value → W) : RTp c73 [(2, .slice t2p t2n t2c)] k = (k (.slice t2p t2n t2c)) := by kernel_rfl
theorem c73_ok : (c73.P.follows .mixedOrders && okc c73 c73.body) = true := by kernel_rfl
theorem c73_fn {e : Enc} {args : Array Value} {G : e.α → W} {L : List HP} {ρ : Env} (hρ : envA 0 args.toList = ρ) (hs : Nat.ble args.size 8 = true) (h : E L (D c73 (.seq (.reg 0) (.seq (.seq (.reg 1) (.cond (.tmp 4) (.seq (.reg 2) (.ret)) (.skip))) (.seq (.reg 3) (.ret)))) (fnQ c73 e G) ρ)) : E L (cal e Try.prog 73 args G) :=
  d_fn (c := c73) Try.func73 (by kernel_rfl) (by kernel_rfl) (by kernel_rfl) c73_ok (by kernel_rfl) (by kernel_rfl) hρ hs h
/-! (*gharry.lock.Table).Ask$1 -/
noncomputable def c74 : Cfg := { P := Try.prog, n := 7, T := TT, body := (Try.f74.body).getD .skip, res := Try.f74.results.toList, li := lk [] [(0, [0, 1]), (1, [1, 2])], lo := lk [] [(0, [1, 2]), (1, [3]), (1000000, [3])], ord := lk (false, []) [] }
@[go_sem] theorem c74_i0 : c74.li 0 = [0, 1] := rfl
@[go_sem] theorem c74_i1 : c74.li 1 = [1, 2] := rfl
@[go_sem] theorem c74_r0 (x0 : lock_Hold) (t1 : Addr) (K : Env → W) : RP c74 0 [(0, v_lock_Hold x0), (1, .pointer (some t1))] K =
    (nwc #[.int .i64 x0.Txn, .int .i64 x0.Mode, str x0.Lo, str x0.Hi, .bool x0.Open] 27 fun y1_ => (K [(1, .pointer (some t1)), (2, .pointer (some y1_))])) := by kernel_rfl
@[go_sem] theorem c74_r1 (t1 : Addr) (x2 : Addr) (K : Env → W) : RP c74 1 [(1, .pointer (some t1)), (2, .pointer (some x2))] K =
    (ldn e_lock_Hold 5 x2 fun (y1_ : lock_Hold) => (ldn e_lock_Hold 5 t1 fun (y2_ : lock_Hold) => (cal eB Try.prog 22 #[v_lock_Hold y1_, v_lock_Hold y2_] fun (y3_ : Bool) => (K [(3, .bool y3_)])))) := by kernel_rfl
@[go_sem] theorem c74_o : c74.lo 1000000 = [3] := rfl
@[go_sem] theorem c74_e (t3 : Bool) (k : Value → W) : RTp c74 [(3, .bool t3)] k = (k (.bool t3)) := by kernel_rfl
theorem c74_ok : (c74.P.follows .mixedOrders && okc c74 c74.body) = true := by kernel_rfl
theorem c74_fn {e : Enc} {args : Array Value} {G : e.α → W} {L : List HP} {ρ : Env} (hρ : envA 0 args.toList = ρ) (hs : Nat.ble args.size 7 = true) (h : E L (D c74 (.seq (.reg 0) (.seq (.reg 1) (.ret))) (fnQ c74 e G) ρ)) : E L (cal e Try.prog 74 args G) :=
  d_fn (c := c74) Try.func74 (by kernel_rfl) (by kernel_rfl) (by kernel_rfl) c74_ok (by kernel_rfl) (by kernel_rfl) hρ hs h
/-! slices.IndexFunc[[]gharry.lock.Hold,gharry.lock.Hold] -/
noncomputable def c89 : Cfg := { P := Try.prog, n := 19, T := TT, body := (Try.f89.body).getD .skip, res := Try.f89.results.toList, li := lk [] [(0, [0, 1]), (1, [0, 1]), (2, [0, 1, 7, 8]), (3, [0, 1, 7, 8]), (4, [0, 1, 5, 7, 8]), (5, [5]), (6, [0, 1, 7, 8]), (7, [])], lo := lk [] [(0, [0, 1]), (1, [0, 1, 7, 8]), (2, [0, 1, 7, 8, 9]), (3, [0, 1, 5, 7, 8]), (4, [0, 1, 5, 7, 8, 16]), (5, [4]), (6, [0, 1, 7, 8]), (7, [4]), (1000000, [4])], ord := lk (false, []) [] }
@[go_sem] theorem c89_i0 : c89.li 0 = [0, 1] := rfl
@[go_sem] theorem c89_i1 : c89.li 1 = [0, 1] := rfl
@[go_sem] theorem c89_i2 : c89.li 2 = [0, 1, 7, 8] := rfl
@[go_sem] theorem c89_i3 : c89.li 3 = [0, 1, 7, 8] := rfl
@[go_sem] theorem c89_i4 : c89.li 4 = [0, 1, 5, 7, 8] := rfl
@[go_sem] theorem c89_i5 : c89.li 5 = [5] := rfl
@[go_sem] theorem c89_i6 : c89.li 6 = [0, 1, 7, 8] := rfl
@[go_sem] theorem c89_i7 : c89.li 7 = [] := rfl
@[go_sem] theorem c89_r0 (s0p : Option Addr) (s0n s0c : Nat) (f1f : Nat) (f1c : Array Value) (K : Env → W) : RP c89 0 [(0, .slice s0p s0n s0c), (1, .func (.func f1f) #[] f1c)] K =
    (K [(0, .slice s0p s0n s0c), (1, .func (.func f1f) #[] f1c)]) := by kernel_rfl
@[go_sem] theorem c89_r1 (s0p : Option Addr) (s0n s0c : Nat) (f1f : Nat) (f1c : Array Value) (K : Env → W) : RP c89 1 [(0, .slice s0p s0n s0c), (1, .func (.func f1f) #[] f1c)] K =
    (K [(0, .slice s0p s0n s0c), (1, .func (.func f1f) #[] f1c), (7, .int .i64 ((s0n : Int))), (8, .int .i64 ((0 : Int)))]) := by kernel_rfl
@[go_sem] theorem c89_r2 (s0p : Option Addr) (s0n s0c : Nat) (f1f : Nat) (f1c : Array Value) (t7 : Int) (t8 : Int) (K : Env → W) : RP c89 2 [(0, .slice s0p s0n s0c), (1, .func (.func f1f) #[] f1c), (7, .int .i64 t7), (8, .int .i64 t8)] K =
    (K [(0, .slice s0p s0n s0c), (1, .func (.func f1f) #[] f1c), (7, .int .i64 t7), (8, .int .i64 t8), (9, .bool ((decide (t8 < t7))))]) := by kernel_rfl
@[go_sem] theorem c89_r3 (s0p : Option Addr) (s0n s0c : Nat) (f1f : Nat) (f1c : Array Value) (t7 : Int) (t8 : Int) (K : Env → W) : RP c89 3 [(0, .slice s0p s0n s0c), (1, .func (.func f1f) #[] f1c), (7, .int .i64 t7), (8, .int .i64 t8)] K =
    (K [(0, .slice s0p s0n s0c), (1, .func (.func f1f) #[] f1c), (5, .int .i64 t8), (7, .int .i64 t7), (8, .int .i64 t8)]) := by kernel_rfl
@[go_sem] theorem c89_r4 (s0p : Option Addr) (s0n s0c : Nat) (f1f : Nat) (f1c : Array Value) (i5 : Int) (t7 : Int) (t8 : Int) (K : Env → W) : RP c89 4 [(0, .slice s0p s0n s0c), (1, .func (.func f1f) #[] f1c), (5, .int .i64 i5), (7, .int .i64 t7), (8, .int .i64 t8)] K =
    (rq (0 ≤ i5 ∧ i5 < (s0n : Int)) (nn s0p fun y1_ => (ldn e_lock_Hold 5 ((Addr.add y1_ ((i5).toNat * 5))) fun (y2_ : lock_Hold) => (ent Try.prog f1f (cal eB Try.prog f1f (#[v_lock_Hold y2_] ++ f1c) fun (y3_ : Bool) => (K [(0, .slice s0p s0n s0c), (1, .func (.func f1f) #[] f1c), (5, .int .i64 i5), (7, .int .i64 t7), (8, .int .i64 t8), (16, .bool y3_)])))))) := by kernel_rfl
@[go_sem] theorem c89_r5 (i5 : Int) (K : Env → W) : RP c89 5 [(5, .int .i64 i5)] K =
    (K [(4, .int .i64 i5)]) := by kernel_rfl
@[go_sem] theorem c89_r6 (s0p : Option Addr) (s0n s0c : Nat) (f1f : Nat) (f1c : Array Value) (t7 : Int) (t8 : Int) (K : Env → W) : RP c89 6 [(0, .slice s0p s0n s0c), (1, .func (.func f1f) #[] f1c), (7, .int .i64 t7), (8, .int .i64 t8)] K =
    (K [(0, .slice s0p s0n s0c), (1, .func (.func f1f) #[] f1c), (7, .int .i64 t7), (8, .int .i64 ((IntKind.wrap .i64 (t8 + (1 : Int)))))]) := by kernel_rfl
@[go_sem] theorem c89_r7 (K : Env → W) : RP c89 7 [] K =
    (K [(4, .int .i64 ((-1 : Int)))]) := by kernel_rfl
@[go_sem] theorem c89_o : c89.lo 1000000 = [4] := rfl
@[go_sem] theorem c89_e (t4 : Int) (k : Value → W) : RTp c89 [(4, .int .i64 t4)] k = (k (.int .i64 t4)) := by kernel_rfl
theorem c89_ok : (c89.P.follows .mixedOrders && okc c89 c89.body) = true := by kernel_rfl
theorem c89_fn {e : Enc} {args : Array Value} {G : e.α → W} {L : List HP} {ρ : Env} (hρ : envA 0 args.toList = ρ) (hs : Nat.ble args.size 19 = true) (h : E L (D c89 (.seq (.reg 0) (.seq (.seq (.reg 1) (.block 0 (.loop (.seq (.reg 2) (.seq (.cond (.tmp 9) (.skip) (.exit 0)) (.seq (.block 1 (.seq (.reg 3) (.seq (.reg 4) (.cond (.tmp 16) (.seq (.reg 5) (.ret)) (.skip))))) (.reg 6))))))) (.seq (.reg 7) (.ret)))) (fnQ c89 e G) ρ)) : E L (cal e Try.prog 89 args G) :=
  d_fn (c := c89) Try.func89 (by kernel_rfl) (by kernel_rfl) (by kernel_rfl) c89_ok (by kernel_rfl) (by kernel_rfl) hρ hs h
-- loop (first region 2): live slots 0:s0 1:f1 7:t7 8:t8, of which it writes [8]
end Go.Sp
