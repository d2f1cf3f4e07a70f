/- What each region of the Go functions does. Written by my own generator. -/
import Derived.Test.YtpcfjoieinobpaaT
namespace Go.Sp
open Go
set_option maxRecDepth 100000
set_option linter.unusedVariables false
open Go.Proofs
/-! gharry.gharrylaw12.LockRights -/
noncomputable def c4 : Cfg := { P := Try.prog, n := 49, T := TT, body := (Try.f4.body).getD .skip, res := Try.f4.results.toList, li := lk [] [(0, [0, 1]), (1, [2, 3]), (2, []), (3, [2, 3]), (4, []), (5, [2, 3])], lo := lk [] [(0, [2, 3]), (1, [2, 3, 16]), (2, [4]), (3, [2, 3, 24]), (4, [4]), (5, [4]), (1000000, [4])], ord := lk (false, []) [(1, (true, [(0, 0), (2, 0), (1, 2), (3, 3), (4, 1), (5, 1), (6, 0), (8, 0), (7, 2), (9, 4), (10, 1), (11, 1)])), (5, (true, [(0, 0), (1, 0), (3, 0), (4, 0), (2, 2), (5, 3), (6, 1), (7, 1), (8, 0), (9, 0), (11, 0), (12, 0), (10, 2), (13, 4), (14, 1), (15, 1), (16, 1), (17, 1), (18, 1), (19, 1), (20, 1), (21, 4), (22, 1), (23, 1)]))] }
@[go_sem] theorem c4_i0 : c4.li 0 = [0, 1] := rfl
@[go_sem] theorem c4_i1 : c4.li 1 = [2, 3] := rfl
@[go_sem] theorem c4_i2 : c4.li 2 = [] := rfl
@[go_sem] theorem c4_i3 : c4.li 3 = [2, 3] := rfl
@[go_sem] theorem c4_i4 : c4.li 4 = [] := rfl
@[go_sem] theorem c4_i5 : c4.li 5 = [2, 3] := rfl
@[go_sem] theorem c4_r0 (a0 : lock_Hold) (b1 : lock_Hold) (K : Env → W) : RP c4 0 [(0, v_lock_Hold a0), (1, v_lock_Hold b1)] K =
    (nwc #[.int .i64 a0.Txn, .int .i64 a0.Mode, str a0.Lo, str a0.Hi, .bool a0.Open] 27 fun y1_ => (nwc #[.int .i64 b1.Txn, .int .i64 b1.Mode, str b1.Lo, str b1.Hi, .bool b1.Open] 27 fun y2_ => (K [(2, .pointer (some y1_)), (3, .pointer (some y2_))]))) := by kernel_rfl
@[go_sem] theorem c4_r1 (a2 : Addr) (b3 : Addr) (K : Env → W) : RP c4 1 [(2, .pointer (some a2)), (3, .pointer (some b3))] K =
    (ph fun S0 => (ldnq S0 e_lock_Hold 5 a2 fun (y1_ : lock_Hold) => (ldnq S0 e_lock_Hold 5 a2 fun (y2_ : lock_Hold) => (cal eB Try.prog 17 #[v_lock_Hold y1_] fun (y3_ : Bool) => (kp S0 (cal eB Try.prog 18 #[v_lock_Hold y2_] fun (y4_ : Bool) => (ph fun S1 => (cnd ((!(y3_ == y4_))) (kp S1 (K [(2, .pointer (some a2)), (3, .pointer (some b3)), (16, .bool true)])) (ldnq S1 e_lock_Hold 5 b3 fun (y5_ : lock_Hold) => (ldnq S1 e_lock_Hold 5 b3 fun (y6_ : lock_Hold) => (cal eB Try.prog 17 #[v_lock_Hold y5_] fun (y7_ : Bool) => (kp S1 (cal eB Try.prog 18 #[v_lock_Hold y6_] fun (y8_ : Bool) => (K [(2, .pointer (some a2)), (3, .pointer (some b3)), (16, .bool ((!(y7_ == y8_))))])))))))))))))) := by kernel_rfl
@[go_sem] theorem c4_r2 (K : Env → W) : RP c4 2 [] K =
    (K [(4, .bool false)]) := by kernel_rfl
@[go_sem] theorem c4_r3 (a2 : Addr) (b3 : Addr) (K : Env → W) : RP c4 3 [(2, .pointer (some a2)), (3, .pointer (some b3))] K =
    (ldn e_lock_Hold 5 a2 fun (y1_ : lock_Hold) => (cal eB Try.prog 18 #[v_lock_Hold y1_] fun (y2_ : Bool) => (cnd ((!y2_)) (K [(2, .pointer (some a2)), (3, .pointer (some b3)), (24, .bool true)]) (ldn e_lock_Hold 5 b3 fun (y3_ : lock_Hold) => (cal eB Try.prog 18 #[v_lock_Hold y3_] fun (y4_ : Bool) => (K [(2, .pointer (some a2)), (3, .pointer (some b3)), (24, .bool ((!y4_)))])))))) := by kernel_rfl
@[go_sem] theorem c4_r4 (K : Env → W) : RP c4 4 [] K =
    (cal eB Try.prog 19 #[] fun (y1_ : Bool) => (K [(4, .bool y1_)])) := by kernel_rfl
@[go_sem] theorem c4_r5 (a2 : Addr) (b3 : Addr) (K : Env → W) : RP c4 5 [(2, .pointer (some a2)), (3, .pointer (some b3))] K =
    (ph fun S0 => (ldnq S0 e_lock_Hold 5 a2 fun (y1_ : lock_Hold) => (ldnq S0 e_lock_Hold 5 b3 fun (y2_ : lock_Hold) => (ldnq S0 e_lock_Hold 5 a2 fun (y3_ : lock_Hold) => (ldnq S0 e_lock_Hold 5 b3 fun (y4_ : lock_Hold) => (cal eB Try.prog 20 #[v_lock_Hold y1_, v_lock_Hold y2_] fun (y5_ : Bool) => (kp S0 (cal eB Try.prog 21 #[v_lock_Hold y3_, v_lock_Hold y4_] fun (y6_ : Bool) => (ph fun S1 => (cnd ((y5_ == y6_)) (ldnq S1 e_lock_Hold 5 a2 fun (y7_ : lock_Hold) => (ldnq S1 e_lock_Hold 5 b3 fun (y8_ : lock_Hold) => (ldnq S1 e_lock_Hold 5 a2 fun (y9_ : lock_Hold) => (ldnq S1 e_lock_Hold 5 b3 fun (y10_ : lock_Hold) => (cal eB Try.prog 22 #[v_lock_Hold y7_, v_lock_Hold y8_] fun (y11_ : Bool) => (kp S1 (cal eB Try.prog 23 #[v_lock_Hold y9_, v_lock_Hold y10_] fun (y12_ : Bool) => (cnd ((y11_ == y12_)) (cal eB Try.prog 19 #[] fun (y13_ : Bool) => (K [(4, .bool y13_)])) (K [(4, .bool false)]))))))))) (kp S1 (K [(4, .bool false)])))))))))))) := by kernel_rfl
@[go_sem] theorem c4_o : c4.lo 1000000 = [4] := rfl
@[go_sem] theorem c4_e (t4 : Bool) (k : Value → W) : RTp c4 [(4, .bool t4)] k = (k (.bool t4)) := by kernel_rfl
theorem c4_ok : (c4.P.follows .mixedOrders && okc c4 c4.body) = true := by kernel_rfl
theorem c4_fn {e : Enc} {args : Array Value} {G : e.α → W} {L : List HP} {ρ : Env} (hρ : envA 0 args.toList = ρ) (hs : Nat.ble args.size 49 = true) (h : E L (D c4 (.seq (.reg 0) (.seq (.seq (.reg 1) (.cond (.tmp 16) (.seq (.reg 2) (.ret)) (.skip))) (.seq (.seq (.reg 3) (.cond (.tmp 24) (.seq (.reg 4) (.ret)) (.skip))) (.seq (.reg 5) (.ret))))) (fnQ c4 e G) ρ)) : E L (cal e Try.prog 4 args G) :=
  d_fn (c := c4) Try.func4 (by kernel_rfl) (by kernel_rfl) (by kernel_rfl) c4_ok (by kernel_rfl) (by kernel_rfl) hρ hs h
/-! gharry.gharrylaw12.LockMeets -/
noncomputable def c5 : Cfg := { P := Try.prog, n := 39, T := TT, body := (Try.f5.body).getD .skip, res := Try.f5.results.toList, li := lk [] [(0, [0, 1, 2]), (1, [2, 3, 4]), (2, []), (3, [3, 4])], lo := lk [] [(0, [2, 3, 4]), (1, [3, 4, 26]), (2, [6]), (3, [6]), (1000000, [6])], ord := lk (false, []) [] }
@[go_sem] theorem c5_i0 : c5.li 0 = [0, 1, 2] := rfl
@[go_sem] theorem c5_i1 : c5.li 1 = [2, 3, 4] := rfl
@[go_sem] theorem c5_i2 : c5.li 2 = [] := rfl
@[go_sem] theorem c5_i3 : c5.li 3 = [3, 4] := rfl
@[go_sem] theorem c5_r0 (a0 : lock_Hold) (b1 : lock_Hold) (key2 : List UInt8) (K : Env → W) : RP c5 0 [(0, v_lock_Hold a0), (1, v_lock_Hold b1), (2, str key2)] K =
    (nwc #[.int .i64 a0.Txn, .int .i64 a0.Mode, str a0.Lo, str a0.Hi, .bool a0.Open] 27 fun y1_ => (nwc #[.int .i64 b1.Txn, .int .i64 b1.Mode, str b1.Lo, str b1.Hi, .bool b1.Open] 27 fun y2_ => (K [(2, str key2), (3, .pointer (some y1_)), (4, .pointer (some y2_))]))) := by kernel_rfl
@[go_sem] theorem c5_r1 (key2 : List UInt8) (a3 : Addr) (b4 : Addr) (K : Env → W) : RP c5 1 [(2, str key2), (3, .pointer (some a3)), (4, .pointer (some b4))] K =
    (ldn e_lock_Hold 5 a3 fun (y1_ : lock_Hold) => (cal eB Try.prog 18 #[v_lock_Hold y1_] fun (y2_ : Bool) => (cnd ((!y2_)) (K [(3, .pointer (some a3)), (4, .pointer (some b4)), (26, .bool true)]) (ldn e_lock_Hold 5 b4 fun (y3_ : lock_Hold) => (cal eB Try.prog 18 #[v_lock_Hold y3_] fun (y4_ : Bool) => (cnd ((!y4_)) (K [(3, .pointer (some a3)), (4, .pointer (some b4)), (26, .bool true)]) (ldn e_lock_Hold 5 a3 fun (y5_ : lock_Hold) => (cal eB Try.prog 24 #[v_lock_Hold y5_, str key2] fun (y6_ : Bool) => (cnd ((!y6_)) (K [(3, .pointer (some a3)), (4, .pointer (some b4)), (26, .bool true)]) (ldn e_lock_Hold 5 b4 fun (y7_ : lock_Hold) => (cal eB Try.prog 24 #[v_lock_Hold y7_, str key2] fun (y8_ : Bool) => (K [(3, .pointer (some a3)), (4, .pointer (some b4)), (26, .bool ((!y8_)))])))))))))))) := by kernel_rfl
@[go_sem] theorem c5_r2 (K : Env → W) : RP c5 2 [] K =
    (cal eB Try.prog 19 #[] fun (y1_ : Bool) => (K [(6, .bool y1_)])) := by kernel_rfl
@[go_sem] theorem c5_r3 (a3 : Addr) (b4 : Addr) (K : Env → W) : RP c5 3 [(3, .pointer (some a3)), (4, .pointer (some b4))] K =
    (ldn e_lock_Hold 5 a3 fun (y1_ : lock_Hold) => (ldn e_lock_Hold 5 b4 fun (y2_ : lock_Hold) => (cal eB Try.prog 20 #[v_lock_Hold y1_, v_lock_Hold y2_] fun (y3_ : Bool) => (cnd y3_ (ldn e_lock_Hold 5 b4 fun (y4_ : lock_Hold) => (ldn e_lock_Hold 5 a3 fun (y5_ : lock_Hold) => (cal eB Try.prog 20 #[v_lock_Hold y4_, v_lock_Hold y5_] fun (y6_ : Bool) => (cnd y6_ (cal eB Try.prog 19 #[] fun (y7_ : Bool) => (K [(6, .bool y7_)])) (K [(6, .bool false)]))))) (K [(6, .bool false)]))))) := by kernel_rfl
@[go_sem] theorem c5_o : c5.lo 1000000 = [6] := rfl
@[go_sem] theorem c5_e (t6 : Bool) (k : Value → W) : RTp c5 [(6, .bool t6)] k = (k (.bool t6)) := by kernel_rfl
theorem c5_ok : (c5.P.follows .mixedOrders && okc c5 c5.body) = true := by kernel_rfl
theorem c5_fn {e : Enc} {args : Array Value} {G : e.α → W} {L : List HP} {ρ : Env} (hρ : envA 0 args.toList = ρ) (hs : Nat.ble args.size 39 = true) (h : E L (D c5 (.seq (.reg 0) (.seq (.seq (.reg 1) (.cond (.tmp 26) (.seq (.reg 2) (.ret)) (.skip))) (.seq (.reg 3) (.ret)))) (fnQ c5 e G) ρ)) : E L (cal e Try.prog 5 args G) :=
  d_fn (c := c5) Try.func5 (by kernel_rfl) (by kernel_rfl) (by kernel_rfl) c5_ok (by kernel_rfl) (by kernel_rfl) hρ hs h
/-! gharry.gharrylaw12.LockApart -/
noncomputable def c6 : Cfg := { P := Try.prog, n := 75, T := TT, body := (Try.f6.body).getD .skip, res := Try.f6.results.toList, li := lk [] [(0, [0]), (1, [0]), (2, [0, 3]), (3, [0, 3, 4]), (4, [0, 3, 4]), (5, [0, 3, 4]), (6, [0, 3, 4, 5]), (7, [0, 3, 4, 5]), (8, [0, 3, 4, 5]), (9, []), (10, [3]), (11, [6]), (12, [6, 7]), (13, [6, 7]), (14, [6, 7]), (15, [6, 7, 8]), (16, [6, 7, 8]), (17, [6, 7, 8]), (18, []), (19, [])], lo := lk [] [(0, [0]), (1, [0, 3]), (2, [0, 3, 4]), (3, [0, 3, 4, 17]), (4, [0, 3, 4]), (5, [0, 3, 4, 5]), (6, [0, 3, 4, 5, 26]), (7, [0, 3, 4]), (8, [0, 3, 4, 42]), (9, [2]), (10, [6]), (11, [6, 7]), (12, [6, 7, 48]), (13, [6, 7]), (14, [6, 7, 8]), (15, [6, 7, 8, 54]), (16, [6, 7, 8]), (17, [6, 7, 8, 73]), (18, [2]), (19, [2]), (1000000, [2])], ord := lk (false, []) [(17, (true, [(0, 1), (1, 1), (2, 1), (3, 0), (4, 1), (5, 1), (6, 1), (7, 0), (8, 3), (9, 1), (10, 1), (11, 1), (12, 1), (13, 0), (14, 4), (15, 1), (16, 1)]))] }
@[go_sem] theorem c6_i0 : c6.li 0 = [0] := rfl
@[go_sem] theorem c6_i1 : c6.li 1 = [0] := rfl
@[go_sem] theorem c6_i2 : c6.li 2 = [0, 3] := rfl
@[go_sem] theorem c6_i3 : c6.li 3 = [0, 3, 4] := rfl
@[go_sem] theorem c6_i4 : c6.li 4 = [0, 3, 4] := rfl
@[go_sem] theorem c6_i5 : c6.li 5 = [0, 3, 4] := rfl
@[go_sem] theorem c6_i6 : c6.li 6 = [0, 3, 4, 5] := rfl
@[go_sem] theorem c6_i7 : c6.li 7 = [0, 3, 4, 5] := rfl
@[go_sem] theorem c6_i8 : c6.li 8 = [0, 3, 4, 5] := rfl
@[go_sem] theorem c6_i9 : c6.li 9 = [] := rfl
@[go_sem] theorem c6_i10 : c6.li 10 = [3] := rfl
@[go_sem] theorem c6_i11 : c6.li 11 = [6] := rfl
@[go_sem] theorem c6_i12 : c6.li 12 = [6, 7] := rfl
@[go_sem] theorem c6_i13 : c6.li 13 = [6, 7] := rfl
@[go_sem] theorem c6_i14 : c6.li 14 = [6, 7] := rfl
@[go_sem] theorem c6_i15 : c6.li 15 = [6, 7, 8] := rfl
@[go_sem] theorem c6_i16 : c6.li 16 = [6, 7, 8] := rfl
@[go_sem] theorem c6_i17 : c6.li 17 = [6, 7, 8] := rfl
@[go_sem] theorem c6_i18 : c6.li 18 = [] := rfl
@[go_sem] theorem c6_i19 : c6.li 19 = [] := rfl
@[go_sem] theorem c6_r0 (script0p : Option Addr) (script0n script0c : Nat) (K : Env → W) : RP c6 0 [(0, .slice script0p script0n script0c)] K =
    (K [(0, .slice script0p script0n script0c)]) := by kernel_rfl
@[go_sem] theorem c6_r1 (script0p : Option Addr) (script0n script0c : Nat) (K : Env → W) : RP c6 1 [(0, .slice script0p script0n script0c)] K =
    (cal eP Try.prog 25 #[] fun (y1_ : Option Addr) => (K [(0, .slice script0p script0n script0c), (3, .pointer y1_)])) := by kernel_rfl
@[go_sem] theorem c6_r2 (script0p : Option Addr) (script0n script0c : Nat) (t3 : Option Addr) (K : Env → W) : RP c6 2 [(0, .slice script0p script0n script0c), (3, .pointer t3)] K =
    (K [(0, .slice script0p script0n script0c), (3, .pointer t3), (4, .int .i64 ((0 : Int)))]) := by kernel_rfl
@[go_sem] theorem c6_r3 (script0p : Option Addr) (script0n script0c : Nat) (t3 : Option Addr) (i4 : Int) (K : Env → W) : RP c6 3 [(0, .slice script0p script0n script0c), (3, .pointer t3), (4, .int .i64 i4)] K =
    (cnd ((decide (i4 < (script0n : Int)))) (K [(0, .slice script0p script0n script0c), (3, .pointer t3), (4, .int .i64 i4), (17, .bool ((decide (i4 < (40 : Int)))))]) (K [(0, .slice script0p script0n script0c), (3, .pointer t3), (4, .int .i64 i4), (17, .bool false)])) := by kernel_rfl
@[go_sem] theorem c6_r4 (script0p : Option Addr) (script0n script0c : Nat) (t3 : Option Addr) (i4 : Int) (K : Env → W) : RP c6 4 [(0, .slice script0p script0n script0c), (3, .pointer t3), (4, .int .i64 i4)] K =
    (K [(0, .slice script0p script0n script0c), (3, .pointer t3), (4, .int .i64 ((IntKind.wrap .i64 (i4 + (1 : Int)))))]) := by kernel_rfl
@[go_sem] theorem c6_r5 (script0p : Option Addr) (script0n script0c : Nat) (t3 : Option Addr) (i4 : Int) (K : Env → W) : RP c6 5 [(0, .slice script0p script0n script0c), (3, .pointer t3), (4, .int .i64 i4)] K =
    (rq (0 ≤ i4 ∧ i4 < (script0n : Int)) (nn script0p fun y1_ => (ldn e_gharrylaw12_Op 6 ((Addr.add y1_ ((i4).toNat * 6))) fun (y2_ : gharrylaw12_Op) => (nwc #[.int .i64 (((⟨(0 : Int), (⟨(0 : Int), (0 : Int), ([] : List UInt8), ([] : List UInt8), false⟩ : lock_Hold)⟩ : gharrylaw12_Op)).Kind), .int .i64 ((((⟨(0 : Int), (⟨(0 : Int), (0 : Int), ([] : List UInt8), ([] : List UInt8), false⟩ : lock_Hold)⟩ : gharrylaw12_Op)).H).Txn), .int .i64 ((((⟨(0 : Int), (⟨(0 : Int), (0 : Int), ([] : List UInt8), ([] : List UInt8), false⟩ : lock_Hold)⟩ : gharrylaw12_Op)).H).Mode), str ((((⟨(0 : Int), (⟨(0 : Int), (0 : Int), ([] : List UInt8), ([] : List UInt8), false⟩ : lock_Hold)⟩ : gharrylaw12_Op)).H).Lo), str ((((⟨(0 : Int), (⟨(0 : Int), (0 : Int), ([] : List UInt8), ([] : List UInt8), false⟩ : lock_Hold)⟩ : gharrylaw12_Op)).H).Hi), .bool ((((⟨(0 : Int), (⟨(0 : Int), (0 : Int), ([] : List UInt8), ([] : List UInt8), false⟩ : lock_Hold)⟩ : gharrylaw12_Op)).H).Open)] 36 fun y3_ => (stl [.int .i64 y2_.Kind, .int .i64 y2_.H.Txn, .int .i64 y2_.H.Mode, str y2_.H.Lo, str y2_.H.Hi, .bool y2_.H.Open] y3_ 0 (K [(0, .slice script0p script0n script0c), (3, .pointer t3), (4, .int .i64 i4), (5, .pointer (some y3_))])))))) := by kernel_rfl
@[go_sem] theorem c6_r6 (script0p : Option Addr) (script0n script0c : Nat) (t3 : Option Addr) (i4 : Int) (o5 : Addr) (K : Env → W) : RP c6 6 [(0, .slice script0p script0n script0c), (3, .pointer t3), (4, .int .i64 i4), (5, .pointer (some o5))] K =
    (ld eI o5 fun (y1_ : Int) => (K [(0, .slice script0p script0n script0c), (3, .pointer t3), (4, .int .i64 i4), (5, .pointer (some o5)), (26, .bool ((y1_ == (3 : Int))))])) := by kernel_rfl
@[go_sem] theorem c6_r7 (script0p : Option Addr) (script0n script0c : Nat) (t3 : Option Addr) (i4 : Int) (o5 : Addr) (K : Env → W) : RP c6 7 [(0, .slice script0p script0n script0c), (3, .pointer t3), (4, .int .i64 i4), (5, .pointer (some o5))] K =
    (ld eI ((o5.add 1)) fun (y1_ : Int) => (cal eI Try.prog 26 #[.pointer t3, .int .i64 y1_] fun (y2_ : Int) => (K [(0, .slice script0p script0n script0c), (3, .pointer t3), (4, .int .i64 i4)]))) := by kernel_rfl
@[go_sem] theorem c6_r8 (script0p : Option Addr) (script0n script0c : Nat) (t3 : Option Addr) (i4 : Int) (o5 : Addr) (K : Env → W) : RP c6 8 [(0, .slice script0p script0n script0c), (3, .pointer t3), (4, .int .i64 i4), (5, .pointer (some o5))] K =
    (ldn e_gharrylaw12_Op 6 o5 fun (y1_ : gharrylaw12_Op) => (cal eI Try.prog 27 #[.pointer t3, v_gharrylaw12_Op y1_] fun (y2_ : Int) => (cnd ((y2_ == (0 : Int))) (ldn e_gharrylaw12_Op 6 o5 fun (y3_ : gharrylaw12_Op) => (cal e_lock_Hold Try.prog 29 #[v_gharrylaw12_Op y3_] fun (y4_ : lock_Hold) => (cal eB Try.prog 28 #[.pointer t3, v_lock_Hold y4_] fun (y5_ : Bool) => (K [(0, .slice script0p script0n script0c), (3, .pointer t3), (4, .int .i64 i4), (42, .bool ((!y5_)))])))) (K [(0, .slice script0p script0n script0c), (3, .pointer t3), (4, .int .i64 i4), (42, .bool false)])))) := by kernel_rfl
@[go_sem] theorem c6_r9 (K : Env → W) : RP c6 9 [] K =
    (K [(2, .bool false)]) := by kernel_rfl
@[go_sem] theorem c6_r10 (t3 : Option Addr) (K : Env → W) : RP c6 10 [(3, .pointer t3)] K =
    (cal eSl Try.prog 30 #[.pointer t3] fun (y1_ : (Option Addr × Nat × Nat)) => (K [(6, .slice y1_.1 y1_.2.1 y1_.2.2)])) := by kernel_rfl
@[go_sem] theorem c6_r11 (l6p : Option Addr) (l6n l6c : Nat) (K : Env → W) : RP c6 11 [(6, .slice l6p l6n l6c)] K =
    (K [(6, .slice l6p l6n l6c), (7, .int .i64 ((0 : Int)))]) := by kernel_rfl
@[go_sem] theorem c6_r12 (l6p : Option Addr) (l6n l6c : Nat) (i7 : Int) (K : Env → W) : RP c6 12 [(6, .slice l6p l6n l6c), (7, .int .i64 i7)] K =
    (K [(6, .slice l6p l6n l6c), (7, .int .i64 i7), (48, .bool ((decide (i7 < (l6n : Int)))))]) := by kernel_rfl
@[go_sem] theorem c6_r13 (l6p : Option Addr) (l6n l6c : Nat) (i7 : Int) (K : Env → W) : RP c6 13 [(6, .slice l6p l6n l6c), (7, .int .i64 i7)] K =
    (K [(6, .slice l6p l6n l6c), (7, .int .i64 ((IntKind.wrap .i64 (i7 + (1 : Int)))))]) := by kernel_rfl
@[go_sem] theorem c6_r14 (l6p : Option Addr) (l6n l6c : Nat) (i7 : Int) (K : Env → W) : RP c6 14 [(6, .slice l6p l6n l6c), (7, .int .i64 i7)] K =
    (K [(6, .slice l6p l6n l6c), (7, .int .i64 i7), (8, .int .i64 ((0 : Int)))]) := by kernel_rfl
@[go_sem] theorem c6_r15 (l6p : Option Addr) (l6n l6c : Nat) (i7 : Int) (k8 : Int) (K : Env → W) : RP c6 15 [(6, .slice l6p l6n l6c), (7, .int .i64 i7), (8, .int .i64 k8)] K =
    (K [(6, .slice l6p l6n l6c), (7, .int .i64 i7), (8, .int .i64 k8), (54, .bool ((decide (k8 < (l6n : Int)))))]) := by kernel_rfl
@[go_sem] theorem c6_r16 (l6p : Option Addr) (l6n l6c : Nat) (i7 : Int) (k8 : Int) (K : Env → W) : RP c6 16 [(6, .slice l6p l6n l6c), (7, .int .i64 i7), (8, .int .i64 k8)] K =
    (K [(6, .slice l6p l6n l6c), (7, .int .i64 i7), (8, .int .i64 ((IntKind.wrap .i64 (k8 + (1 : Int)))))]) := by kernel_rfl
@[go_sem] theorem c6_r17 (l6p : Option Addr) (l6n l6c : Nat) (i7 : Int) (k8 : Int) (K : Env → W) : RP c6 17 [(6, .slice l6p l6n l6c), (7, .int .i64 i7), (8, .int .i64 k8)] K =
    (ph fun S0 => (rq (0 ≤ i7 ∧ i7 < (l6n : Int)) (nn l6p fun y1_ => (ldnq S0 e_lock_Hold 5 ((Addr.add y1_ ((i7).toNat * 5))) fun (y2_ : lock_Hold) => (rq (0 ≤ k8 ∧ k8 < (l6n : Int)) (nn l6p fun y3_ => (ldnq S0 e_lock_Hold 5 ((Addr.add y3_ ((k8).toNat * 5))) fun (y4_ : lock_Hold) => (cal eB Try.prog 23 #[v_lock_Hold y2_, v_lock_Hold y4_] fun (y5_ : Bool) => (ph fun S1 => (cnd y5_ (K [(6, .slice l6p l6n l6c), (7, .int .i64 i7), (8, .int .i64 k8), (73, .bool true)]) (rq (0 ≤ i7 ∧ i7 < (l6n : Int)) (nn l6p fun y6_ => (ldnq S1 e_lock_Hold 5 ((Addr.add y6_ ((i7).toNat * 5))) fun (y7_ : lock_Hold) => (cal eB Try.prog 18 #[v_lock_Hold y7_] fun (y8_ : Bool) => (K [(6, .slice l6p l6n l6c), (7, .int .i64 i7), (8, .int .i64 k8), (73, .bool ((!y8_)))]))))))))))))))) := by kernel_rfl
@[go_sem] theorem c6_r18 (K : Env → W) : RP c6 18 [] K =
    (K [(2, .bool false)]) := by kernel_rfl
@[go_sem] theorem c6_r19 (K : Env → W) : RP c6 19 [] K =
    (cal eB Try.prog 19 #[] fun (y1_ : Bool) => (K [(2, .bool y1_)])) := by kernel_rfl
@[go_sem] theorem c6_o : c6.lo 1000000 = [2] := rfl
@[go_sem] theorem c6_e (t2 : Bool) (k : Value → W) : RTp c6 [(2, .bool t2)] k = (k (.bool t2)) := by kernel_rfl
theorem c6_ok : (c6.P.follows .mixedOrders && okc c6 c6.body) = true := by kernel_rfl
theorem c6_fn {e : Enc} {args : Array Value} {G : e.α → W} {L : List HP} {ρ : Env} (hρ : envA 0 args.toList = ρ) (hs : Nat.ble args.size 75 = true) (h : E L (D c6 (.seq (.reg 0) (.seq (.reg 1) (.seq (.seq (.reg 2) (.block 0 (.loop (.seq (.seq (.reg 3) (.cond (.tmp 17) (.skip) (.exit 0))) (.seq (.block 1 (.seq (.reg 5) (.seq (.seq (.reg 6) (.cond (.tmp 26) (.seq (.reg 7) (.exit 1)) (.skip))) (.seq (.reg 8) (.cond (.tmp 42) (.seq (.reg 9) (.ret)) (.skip)))))) (.reg 4)))))) (.seq (.reg 10) (.seq (.seq (.reg 11) (.block 2 (.loop (.seq (.seq (.reg 12) (.cond (.tmp 48) (.skip) (.exit 2))) (.seq (.block 3 (.seq (.reg 14) (.block 4 (.loop (.seq (.seq (.reg 15) (.cond (.tmp 54) (.skip) (.exit 4))) (.seq (.block 5 (.seq (.reg 17) (.cond (.tmp 73) (.seq (.reg 18) (.ret)) (.skip)))) (.reg 16))))))) (.reg 13)))))) (.seq (.reg 19) (.ret))))))) (fnQ c6 e G) ρ)) : E L (cal e Try.prog 6 args G) :=
  d_fn (c := c6) Try.func6 (by kernel_rfl) (by kernel_rfl) (by kernel_rfl) c6_ok (by kernel_rfl) (by kernel_rfl) hρ hs h
-- loop (first region 15): live slots 6:l6 7:i7 8:k8, of which it writes [8]
-- loop (first region 15): live slots 6:l6 7:i7 8:k8, of which it writes [8]
-- loop (first region 12): live slots 6:l6 7:i7, of which it writes [7]
-- loop (first region 3): live slots 0:script0 3:t3 4:i4, of which it writes [4]
/-! gharry.gharrylaw12.LockPlays -/
noncomputable def c7 : Cfg := { P := Try.prog, n := 134, T := TT, body := (Try.f7.body).getD .skip, res := Try.f7.results.toList, li := lk [] [(0, [0]), (1, [0]), (2, [0, 3]), (3, [0, 3, 4]), (4, [0, 3, 4, 5]), (5, [0, 3, 4, 5, 6]), (6, [0, 3, 4, 5, 6]), (7, [0, 3, 4, 5, 6]), (8, [0, 3, 4, 5, 6, 7]), (9, [0, 3, 4, 5, 6, 7]), (10, [0, 3, 4, 5, 6, 7, 8]), (11, []), (12, [0, 3, 5, 6, 8]), (13, [0, 3, 4, 5, 6, 7]), (14, [0, 3, 4, 5, 6, 7, 9]), (15, [0, 3, 4, 5, 6, 7, 9, 10]), (16, [0, 3, 4, 5, 6, 7, 9]), (17, [0, 3, 4, 5, 6, 7, 9, 10]), (18, [0, 3, 4, 5, 6, 7, 9]), (19, [0, 3, 4, 5, 6, 7, 9, 10]), (20, [0, 3, 4, 5, 6, 7, 9, 10]), (21, [0, 3, 4, 5, 6, 7, 9, 10, 11]), (22, [0, 3, 4, 5, 6, 7, 9, 10, 11, 12]), (23, [0, 3, 4, 5, 6, 7, 9, 10, 11, 12, 13]), (24, [0, 3, 4, 5, 6, 7, 9, 10, 11, 12, 13]), (25, [0, 3, 4, 5, 6, 7, 9, 10, 11, 12, 13]), (26, []), (27, [0, 3, 4, 5, 6, 7, 9, 10, 11, 12]), (28, []), (29, [0, 3, 4, 5, 6, 7, 9, 10]), (30, []), (31, [0, 3, 4, 5, 6, 9, 10]), (32, [0, 3, 4, 5, 6, 9]), (33, [0, 3, 4, 5, 6]), (34, [0, 3, 4, 5, 6]), (35, []), (36, [])], lo := lk [] [(0, [0]), (1, [0, 3]), (2, [0, 3, 4]), (3, [0, 3, 4, 5]), (4, [0, 3, 4, 5, 6]), (5, [0, 3, 4, 5, 6, 22]), (6, [0, 3, 4, 5, 6]), (7, [0, 3, 4, 5, 6, 7]), (8, [0, 3, 4, 5, 6, 7, 31]), (9, [0, 3, 4, 5, 6, 7, 8]), (10, [0, 3, 5, 6, 8, 47]), (11, [2]), (12, [0, 3, 4, 5, 6]), (13, [0, 3, 4, 5, 6, 7, 9]), (14, [0, 3, 4, 5, 6, 7, 9, 10]), (15, [0, 3, 4, 5, 6, 7, 9, 10, 53]), (16, [0, 3, 4, 5, 6, 7, 9, 10]), (17, [0, 3, 4, 5, 6, 7, 9, 10, 58]), (18, [0, 3, 4, 5, 6, 7, 9, 10]), (19, [0, 3, 4, 5, 6, 7, 9, 10, 60]), (20, [0, 3, 4, 5, 6, 7, 9, 10, 11]), (21, [0, 3, 4, 5, 6, 7, 9, 10, 11, 12]), (22, [0, 3, 4, 5, 6, 7, 9, 10, 11, 12, 13]), (23, [0, 3, 4, 5, 6, 7, 9, 10, 11, 12, 13, 77]), (24, [0, 3, 4, 5, 6, 7, 9, 10, 11, 12, 13]), (25, [0, 3, 4, 5, 6, 7, 9, 10, 11, 12, 13, 88]), (26, [2]), (27, [0, 3, 4, 5, 6, 7, 9, 10, 102]), (28, [2]), (29, [0, 3, 4, 5, 6, 9, 10, 107]), (30, [2]), (31, [0, 3, 4, 5, 6, 9, 115]), (32, [0, 3, 4, 5, 6]), (33, [0, 3, 4, 5, 6]), (34, [0, 3, 4, 5, 6, 132]), (35, [2]), (36, [2]), (1000000, [2])], ord := lk (false, []) [(25, (true, [(0, 1), (1, 1), (2, 1), (3, 0), (4, 1), (5, 1), (6, 1), (7, 0), (8, 1)])), (27, (true, [(0, 1), (1, 1), (2, 1), (3, 1), (4, 1), (5, 1), (6, 1), (7, 0), (9, 1), (10, 0), (8, 2), (11, 4), (12, 1), (13, 1)]))] }
@[go_sem] theorem c7_i0 : c7.li 0 = [0] := rfl
@[go_sem] theorem c7_i1 : c7.li 1 = [0] := rfl
@[go_sem] theorem c7_i2 : c7.li 2 = [0, 3] := rfl
@[go_sem] theorem c7_i3 : c7.li 3 = [0, 3, 4] := rfl
@[go_sem] theorem c7_i4 : c7.li 4 = [0, 3, 4, 5] := rfl
@[go_sem] theorem c7_i5 : c7.li 5 = [0, 3, 4, 5, 6] := rfl
@[go_sem] theorem c7_i6 : c7.li 6 = [0, 3, 4, 5, 6] := rfl
@[go_sem] theorem c7_i7 : c7.li 7 = [0, 3, 4, 5, 6] := rfl
@[go_sem] theorem c7_i8 : c7.li 8 = [0, 3, 4, 5, 6, 7] := rfl
@[go_sem] theorem c7_i9 : c7.li 9 = [0, 3, 4, 5, 6, 7] := rfl
@[go_sem] theorem c7_i10 : c7.li 10 = [0, 3, 4, 5, 6, 7, 8] := rfl
@[go_sem] theorem c7_i11 : c7.li 11 = [] := rfl
@[go_sem] theorem c7_i12 : c7.li 12 = [0, 3, 5, 6, 8] := rfl
@[go_sem] theorem c7_i13 : c7.li 13 = [0, 3, 4, 5, 6, 7] := rfl
@[go_sem] theorem c7_i14 : c7.li 14 = [0, 3, 4, 5, 6, 7, 9] := rfl
@[go_sem] theorem c7_i15 : c7.li 15 = [0, 3, 4, 5, 6, 7, 9, 10] := rfl
@[go_sem] theorem c7_i16 : c7.li 16 = [0, 3, 4, 5, 6, 7, 9] := rfl
@[go_sem] theorem c7_i17 : c7.li 17 = [0, 3, 4, 5, 6, 7, 9, 10] := rfl
@[go_sem] theorem c7_i18 : c7.li 18 = [0, 3, 4, 5, 6, 7, 9] := rfl
@[go_sem] theorem c7_i19 : c7.li 19 = [0, 3, 4, 5, 6, 7, 9, 10] := rfl
@[go_sem] theorem c7_i20 : c7.li 20 = [0, 3, 4, 5, 6, 7, 9, 10] := rfl
@[go_sem] theorem c7_i21 : c7.li 21 = [0, 3, 4, 5, 6, 7, 9, 10, 11] := rfl
@[go_sem] theorem c7_i22 : c7.li 22 = [0, 3, 4, 5, 6, 7, 9, 10, 11, 12] := rfl
@[go_sem] theorem c7_i23 : c7.li 23 = [0, 3, 4, 5, 6, 7, 9, 10, 11, 12, 13] := rfl
@[go_sem] theorem c7_i24 : c7.li 24 = [0, 3, 4, 5, 6, 7, 9, 10, 11, 12, 13] := rfl
@[go_sem] theorem c7_i25 : c7.li 25 = [0, 3, 4, 5, 6, 7, 9, 10, 11, 12, 13] := rfl
@[go_sem] theorem c7_i26 : c7.li 26 = [] := rfl
@[go_sem] theorem c7_i27 : c7.li 27 = [0, 3, 4, 5, 6, 7, 9, 10, 11, 12] := rfl
@[go_sem] theorem c7_i28 : c7.li 28 = [] := rfl
@[go_sem] theorem c7_i29 : c7.li 29 = [0, 3, 4, 5, 6, 7, 9, 10] := rfl
@[go_sem] theorem c7_i30 : c7.li 30 = [] := rfl
@[go_sem] theorem c7_i31 : c7.li 31 = [0, 3, 4, 5, 6, 9, 10] := rfl
@[go_sem] theorem c7_i32 : c7.li 32 = [0, 3, 4, 5, 6, 9] := rfl
@[go_sem] theorem c7_i33 : c7.li 33 = [0, 3, 4, 5, 6] := rfl
@[go_sem] theorem c7_i34 : c7.li 34 = [0, 3, 4, 5, 6] := rfl
@[go_sem] theorem c7_i35 : c7.li 35 = [] := rfl
@[go_sem] theorem c7_i36 : c7.li 36 = [] := rfl
@[go_sem] theorem c7_r0 (script0p : Option Addr) (script0n script0c : Nat) (K : Env → W) : RP c7 0 [(0, .slice script0p script0n script0c)] K =
    (K [(0, .slice script0p script0n script0c)]) := by kernel_rfl
@[go_sem] theorem c7_r1 (script0p : Option Addr) (script0n script0c : Nat) (K : Env → W) : RP c7 1 [(0, .slice script0p script0n script0c)] K =
    (cal eP Try.prog 25 #[] fun (y1_ : Option Addr) => (K [(0, .slice script0p script0n script0c), (3, .pointer y1_)])) := by kernel_rfl
@[go_sem] theorem c7_r2 (script0p : Option Addr) (script0n script0c : Nat) (t3 : Option Addr) (K : Env → W) : RP c7 2 [(0, .slice script0p script0n script0c), (3, .pointer t3)] K =
    (K [(0, .slice script0p script0n script0c), (3, .pointer t3), (4, .slice none 0 0)]) := by kernel_rfl
@[go_sem] theorem c7_r3 (script0p : Option Addr) (script0n script0c : Nat) (t3 : Option Addr) (l4p : Option Addr) (l4n l4c : Nat) (K : Env → W) : RP c7 3 [(0, .slice script0p script0n script0c), (3, .pointer t3), (4, .slice l4p l4n l4c)] K =
    (K [(0, .slice script0p script0n script0c), (3, .pointer t3), (4, .slice l4p l4n l4c), (5, .int .i64 ((0 : Int)))]) := by kernel_rfl
@[go_sem] theorem c7_r4 (script0p : Option Addr) (script0n script0c : Nat) (t3 : Option Addr) (l4p : Option Addr) (l4n l4c : Nat) (count5 : Int) (K : Env → W) : RP c7 4 [(0, .slice script0p script0n script0c), (3, .pointer t3), (4, .slice l4p l4n l4c), (5, .int .i64 count5)] K =
    (K [(0, .slice script0p script0n script0c), (3, .pointer t3), (4, .slice l4p l4n l4c), (5, .int .i64 count5), (6, .int .i64 ((0 : Int)))]) := by kernel_rfl
@[go_sem] theorem c7_r5 (script0p : Option Addr) (script0n script0c : Nat) (t3 : Option Addr) (l4p : Option Addr) (l4n l4c : Nat) (count5 : Int) (i6 : Int) (K : Env → W) : RP c7 5 [(0, .slice script0p script0n script0c), (3, .pointer t3), (4, .slice l4p l4n l4c), (5, .int .i64 count5), (6, .int .i64 i6)] K =
    (cnd ((decide (i6 < (script0n : Int)))) (K [(0, .slice script0p script0n script0c), (3, .pointer t3), (4, .slice l4p l4n l4c), (5, .int .i64 count5), (6, .int .i64 i6), (22, .bool ((decide (i6 < (60 : Int)))))]) (K [(0, .slice script0p script0n script0c), (3, .pointer t3), (4, .slice l4p l4n l4c), (5, .int .i64 count5), (6, .int .i64 i6), (22, .bool false)])) := by kernel_rfl
@[go_sem] theorem c7_r6 (script0p : Option Addr) (script0n script0c : Nat) (t3 : Option Addr) (l4p : Option Addr) (l4n l4c : Nat) (count5 : Int) (i6 : Int) (K : Env → W) : RP c7 6 [(0, .slice script0p script0n script0c), (3, .pointer t3), (4, .slice l4p l4n l4c), (5, .int .i64 count5), (6, .int .i64 i6)] K =
    (K [(0, .slice script0p script0n script0c), (3, .pointer t3), (4, .slice l4p l4n l4c), (5, .int .i64 count5), (6, .int .i64 ((IntKind.wrap .i64 (i6 + (1 : Int)))))]) := by kernel_rfl
@[go_sem] theorem c7_r7 (script0p : Option Addr) (script0n script0c : Nat) (t3 : Option Addr) (l4p : Option Addr) (l4n l4c : Nat) (count5 : Int) (i6 : Int) (K : Env → W) : RP c7 7 [(0, .slice script0p script0n script0c), (3, .pointer t3), (4, .slice l4p l4n l4c), (5, .int .i64 count5), (6, .int .i64 i6)] K =
    (rq (0 ≤ i6 ∧ i6 < (script0n : Int)) (nn script0p fun y1_ => (ldn e_gharrylaw12_Op 6 ((Addr.add y1_ ((i6).toNat * 6))) fun (y2_ : gharrylaw12_Op) => (nwc #[.int .i64 (((⟨(0 : Int), (⟨(0 : Int), (0 : Int), ([] : List UInt8), ([] : List UInt8), false⟩ : lock_Hold)⟩ : gharrylaw12_Op)).Kind), .int .i64 ((((⟨(0 : Int), (⟨(0 : Int), (0 : Int), ([] : List UInt8), ([] : List UInt8), false⟩ : lock_Hold)⟩ : gharrylaw12_Op)).H).Txn), .int .i64 ((((⟨(0 : Int), (⟨(0 : Int), (0 : Int), ([] : List UInt8), ([] : List UInt8), false⟩ : lock_Hold)⟩ : gharrylaw12_Op)).H).Mode), str ((((⟨(0 : Int), (⟨(0 : Int), (0 : Int), ([] : List UInt8), ([] : List UInt8), false⟩ : lock_Hold)⟩ : gharrylaw12_Op)).H).Lo), str ((((⟨(0 : Int), (⟨(0 : Int), (0 : Int), ([] : List UInt8), ([] : List UInt8), false⟩ : lock_Hold)⟩ : gharrylaw12_Op)).H).Hi), .bool ((((⟨(0 : Int), (⟨(0 : Int), (0 : Int), ([] : List UInt8), ([] : List UInt8), false⟩ : lock_Hold)⟩ : gharrylaw12_Op)).H).Open)] 36 fun y3_ => (stl [.int .i64 y2_.Kind, .int .i64 y2_.H.Txn, .int .i64 y2_.H.Mode, str y2_.H.Lo, str y2_.H.Hi, .bool y2_.H.Open] y3_ 0 (K [(0, .slice script0p script0n script0c), (3, .pointer t3), (4, .slice l4p l4n l4c), (5, .int .i64 count5), (6, .int .i64 i6), (7, .pointer (some y3_))])))))) := by kernel_rfl
@[go_sem] theorem c7_r8 (script0p : Option Addr) (script0n script0c : Nat) (t3 : Option Addr) (l4p : Option Addr) (l4n l4c : Nat) (count5 : Int) (i6 : Int) (o7 : Addr) (K : Env → W) : RP c7 8 [(0, .slice script0p script0n script0c), (3, .pointer t3), (4, .slice l4p l4n l4c), (5, .int .i64 count5), (6, .int .i64 i6), (7, .pointer (some o7))] K =
    (ld eI o7 fun (y1_ : Int) => (K [(0, .slice script0p script0n script0c), (3, .pointer t3), (4, .slice l4p l4n l4c), (5, .int .i64 count5), (6, .int .i64 i6), (7, .pointer (some o7)), (31, .bool ((y1_ == (3 : Int))))])) := by kernel_rfl
@[go_sem] theorem c7_r9 (script0p : Option Addr) (script0n script0c : Nat) (t3 : Option Addr) (l4p : Option Addr) (l4n l4c : Nat) (count5 : Int) (i6 : Int) (o7 : Addr) (K : Env → W) : RP c7 9 [(0, .slice script0p script0n script0c), (3, .pointer t3), (4, .slice l4p l4n l4c), (5, .int .i64 count5), (6, .int .i64 i6), (7, .pointer (some o7))] K =
    (ld eI ((o7.add 1)) fun (y1_ : Int) => (cal eSl Try.prog 31 #[.slice l4p l4n l4c, .int .i64 y1_] fun (y2_ : (Option Addr × Nat × Nat)) => (K [(0, .slice script0p script0n script0c), (3, .pointer t3), (4, .slice l4p l4n l4c), (5, .int .i64 count5), (6, .int .i64 i6), (7, .pointer (some o7)), (8, .slice y2_.1 y2_.2.1 y2_.2.2)]))) := by kernel_rfl
@[go_sem] theorem c7_r10 (script0p : Option Addr) (script0n script0c : Nat) (t3 : Option Addr) (l4p : Option Addr) (l4n l4c : Nat) (count5 : Int) (i6 : Int) (o7 : Addr) (left8p : Option Addr) (left8n left8c : Nat) (K : Env → W) : RP c7 10 [(0, .slice script0p script0n script0c), (3, .pointer t3), (4, .slice l4p l4n l4c), (5, .int .i64 count5), (6, .int .i64 i6), (7, .pointer (some o7)), (8, .slice left8p left8n left8c)] K =
    (ld eI ((o7.add 1)) fun (y1_ : Int) => (cal eI Try.prog 26 #[.pointer t3, .int .i64 y1_] fun (y2_ : Int) => (K [(0, .slice script0p script0n script0c), (3, .pointer t3), (5, .int .i64 count5), (6, .int .i64 i6), (8, .slice left8p left8n left8c), (47, .bool ((y2_ != (IntKind.wrap .i64 ((l4n : Int) - (left8n : Int))))))]))) := by kernel_rfl
@[go_sem] theorem c7_r11 (K : Env → W) : RP c7 11 [] K =
    (K [(2, .bool false)]) := by kernel_rfl
@[go_sem] theorem c7_r12 (script0p : Option Addr) (script0n script0c : Nat) (t3 : Option Addr) (count5 : Int) (i6 : Int) (left8p : Option Addr) (left8n left8c : Nat) (K : Env → W) : RP c7 12 [(0, .slice script0p script0n script0c), (3, .pointer t3), (5, .int .i64 count5), (6, .int .i64 i6), (8, .slice left8p left8n left8c)] K =
    (K [(0, .slice script0p script0n script0c), (3, .pointer t3), (4, .slice left8p left8n left8c), (5, .int .i64 count5), (6, .int .i64 i6)]) := by kernel_rfl
@[go_sem] theorem c7_r13 (script0p : Option Addr) (script0n script0c : Nat) (t3 : Option Addr) (l4p : Option Addr) (l4n l4c : Nat) (count5 : Int) (i6 : Int) (o7 : Addr) (K : Env → W) : RP c7 13 [(0, .slice script0p script0n script0c), (3, .pointer t3), (4, .slice l4p l4n l4c), (5, .int .i64 count5), (6, .int .i64 i6), (7, .pointer (some o7))] K =
    (ldn e_gharrylaw12_Op 6 o7 fun (y1_ : gharrylaw12_Op) => (cal e_lock_Hold Try.prog 29 #[v_gharrylaw12_Op y1_] fun (y2_ : lock_Hold) => (nwc #[.int .i64 (((⟨(0 : Int), (0 : Int), ([] : List UInt8), ([] : List UInt8), false⟩ : lock_Hold)).Txn), .int .i64 (((⟨(0 : Int), (0 : Int), ([] : List UInt8), ([] : List UInt8), false⟩ : lock_Hold)).Mode), str (((⟨(0 : Int), (0 : Int), ([] : List UInt8), ([] : List UInt8), false⟩ : lock_Hold)).Lo), str (((⟨(0 : Int), (0 : Int), ([] : List UInt8), ([] : List UInt8), false⟩ : lock_Hold)).Hi), .bool (((⟨(0 : Int), (0 : Int), ([] : List UInt8), ([] : List UInt8), false⟩ : lock_Hold)).Open)] 27 fun y3_ => (stl [.int .i64 y2_.Txn, .int .i64 y2_.Mode, str y2_.Lo, str y2_.Hi, .bool y2_.Open] y3_ 0 (K [(0, .slice script0p script0n script0c), (3, .pointer t3), (4, .slice l4p l4n l4c), (5, .int .i64 count5), (6, .int .i64 i6), (7, .pointer (some o7)), (9, .pointer (some y3_))]))))) := by kernel_rfl
@[go_sem] theorem c7_r14 (script0p : Option Addr) (script0n script0c : Nat) (t3 : Option Addr) (l4p : Option Addr) (l4n l4c : Nat) (count5 : Int) (i6 : Int) (o7 : Addr) (h9 : Addr) (K : Env → W) : RP c7 14 [(0, .slice script0p script0n script0c), (3, .pointer t3), (4, .slice l4p l4n l4c), (5, .int .i64 count5), (6, .int .i64 i6), (7, .pointer (some o7)), (9, .pointer (some h9))] K =
    (K [(0, .slice script0p script0n script0c), (3, .pointer t3), (4, .slice l4p l4n l4c), (5, .int .i64 count5), (6, .int .i64 i6), (7, .pointer (some o7)), (9, .pointer (some h9)), (10, .int .i64 ((0 : Int)))]) := by kernel_rfl
@[go_sem] theorem c7_r15 (script0p : Option Addr) (script0n script0c : Nat) (t3 : Option Addr) (l4p : Option Addr) (l4n l4c : Nat) (count5 : Int) (i6 : Int) (o7 : Addr) (h9 : Addr) (want10 : Int) (K : Env → W) : RP c7 15 [(0, .slice script0p script0n script0c), (3, .pointer t3), (4, .slice l4p l4n l4c), (5, .int .i64 count5), (6, .int .i64 i6), (7, .pointer (some o7)), (9, .pointer (some h9)), (10, .int .i64 want10)] K =
    (ldn e_lock_Hold 5 h9 fun (y1_ : lock_Hold) => (cal eB Try.prog 18 #[v_lock_Hold y1_] fun (y2_ : Bool) => (K [(0, .slice script0p script0n script0c), (3, .pointer t3), (4, .slice l4p l4n l4c), (5, .int .i64 count5), (6, .int .i64 i6), (7, .pointer (some o7)), (9, .pointer (some h9)), (10, .int .i64 want10), (53, .bool ((!y2_)))]))) := by kernel_rfl
@[go_sem] theorem c7_r16 (script0p : Option Addr) (script0n script0c : Nat) (t3 : Option Addr) (l4p : Option Addr) (l4n l4c : Nat) (count5 : Int) (i6 : Int) (o7 : Addr) (h9 : Addr) (K : Env → W) : RP c7 16 [(0, .slice script0p script0n script0c), (3, .pointer t3), (4, .slice l4p l4n l4c), (5, .int .i64 count5), (6, .int .i64 i6), (7, .pointer (some o7)), (9, .pointer (some h9))] K =
    (K [(0, .slice script0p script0n script0c), (3, .pointer t3), (4, .slice l4p l4n l4c), (5, .int .i64 count5), (6, .int .i64 i6), (7, .pointer (some o7)), (9, .pointer (some h9)), (10, .int .i64 ((1 : Int)))]) := by kernel_rfl
@[go_sem] theorem c7_r17 (script0p : Option Addr) (script0n script0c : Nat) (t3 : Option Addr) (l4p : Option Addr) (l4n l4c : Nat) (count5 : Int) (i6 : Int) (o7 : Addr) (h9 : Addr) (want10 : Int) (K : Env → W) : RP c7 17 [(0, .slice script0p script0n script0c), (3, .pointer t3), (4, .slice l4p l4n l4c), (5, .int .i64 count5), (6, .int .i64 i6), (7, .pointer (some o7)), (9, .pointer (some h9)), (10, .int .i64 want10)] K =
    (ldn e_lock_Hold 5 h9 fun (y1_ : lock_Hold) => (cal eSl Try.prog 32 #[.slice l4p l4n l4c, v_lock_Hold y1_] fun (y2_ : (Option Addr × Nat × Nat)) => (K [(0, .slice script0p script0n script0c), (3, .pointer t3), (4, .slice l4p l4n l4c), (5, .int .i64 count5), (6, .int .i64 i6), (7, .pointer (some o7)), (9, .pointer (some h9)), (10, .int .i64 want10), (58, .bool ((decide ((0 : Int) < (y2_.2.1 : Int)))))]))) := by kernel_rfl
@[go_sem] theorem c7_r18 (script0p : Option Addr) (script0n script0c : Nat) (t3 : Option Addr) (l4p : Option Addr) (l4n l4c : Nat) (count5 : Int) (i6 : Int) (o7 : Addr) (h9 : Addr) (K : Env → W) : RP c7 18 [(0, .slice script0p script0n script0c), (3, .pointer t3), (4, .slice l4p l4n l4c), (5, .int .i64 count5), (6, .int .i64 i6), (7, .pointer (some o7)), (9, .pointer (some h9))] K =
    (K [(0, .slice script0p script0n script0c), (3, .pointer t3), (4, .slice l4p l4n l4c), (5, .int .i64 count5), (6, .int .i64 i6), (7, .pointer (some o7)), (9, .pointer (some h9)), (10, .int .i64 ((12 : Int)))]) := by kernel_rfl
@[go_sem] theorem c7_r19 (script0p : Option Addr) (script0n script0c : Nat) (t3 : Option Addr) (l4p : Option Addr) (l4n l4c : Nat) (count5 : Int) (i6 : Int) (o7 : Addr) (h9 : Addr) (want10 : Int) (K : Env → W) : RP c7 19 [(0, .slice script0p script0n script0c), (3, .pointer t3), (4, .slice l4p l4n l4c), (5, .int .i64 count5), (6, .int .i64 i6), (7, .pointer (some o7)), (9, .pointer (some h9)), (10, .int .i64 want10)] K =
    (ldn e_lock_Hold 5 h9 fun (y1_ : lock_Hold) => (cal eB Try.prog 18 #[v_lock_Hold y1_] fun (y2_ : Bool) => (K [(0, .slice script0p script0n script0c), (3, .pointer t3), (4, .slice l4p l4n l4c), (5, .int .i64 count5), (6, .int .i64 i6), (7, .pointer (some o7)), (9, .pointer (some h9)), (10, .int .i64 want10), (60, .bool y2_)]))) := by kernel_rfl
@[go_sem] theorem c7_r20 (script0p : Option Addr) (script0n script0c : Nat) (t3 : Option Addr) (l4p : Option Addr) (l4n l4c : Nat) (count5 : Int) (i6 : Int) (o7 : Addr) (h9 : Addr) (want10 : Int) (K : Env → W) : RP c7 20 [(0, .slice script0p script0n script0c), (3, .pointer t3), (4, .slice l4p l4n l4c), (5, .int .i64 count5), (6, .int .i64 i6), (7, .pointer (some o7)), (9, .pointer (some h9)), (10, .int .i64 want10)] K =
    (ldn e_lock_Hold 5 h9 fun (y1_ : lock_Hold) => (cal eSl Try.prog 33 #[.pointer t3, v_lock_Hold y1_] fun (y2_ : (Option Addr × Nat × Nat)) => (K [(0, .slice script0p script0n script0c), (3, .pointer t3), (4, .slice l4p l4n l4c), (5, .int .i64 count5), (6, .int .i64 i6), (7, .pointer (some o7)), (9, .pointer (some h9)), (10, .int .i64 want10), (11, .slice y2_.1 y2_.2.1 y2_.2.2)]))) := by kernel_rfl
@[go_sem] theorem c7_r21 (script0p : Option Addr) (script0n script0c : Nat) (t3 : Option Addr) (l4p : Option Addr) (l4n l4c : Nat) (count5 : Int) (i6 : Int) (o7 : Addr) (h9 : Addr) (want10 : Int) (x11p : Option Addr) (x11n x11c : Nat) (K : Env → W) : RP c7 21 [(0, .slice script0p script0n script0c), (3, .pointer t3), (4, .slice l4p l4n l4c), (5, .int .i64 count5), (6, .int .i64 i6), (7, .pointer (some o7)), (9, .pointer (some h9)), (10, .int .i64 want10), (11, .slice x11p x11n x11c)] K =
    (ldn e_lock_Hold 5 h9 fun (y1_ : lock_Hold) => (cal eSl Try.prog 32 #[.slice l4p l4n l4c, v_lock_Hold y1_] fun (y2_ : (Option Addr × Nat × Nat)) => (K [(0, .slice script0p script0n script0c), (3, .pointer t3), (4, .slice l4p l4n l4c), (5, .int .i64 count5), (6, .int .i64 i6), (7, .pointer (some o7)), (9, .pointer (some h9)), (10, .int .i64 want10), (11, .slice x11p x11n x11c), (12, .slice y2_.1 y2_.2.1 y2_.2.2)]))) := by kernel_rfl
@[go_sem] theorem c7_r22 (script0p : Option Addr) (script0n script0c : Nat) (t3 : Option Addr) (l4p : Option Addr) (l4n l4c : Nat) (count5 : Int) (i6 : Int) (o7 : Addr) (h9 : Addr) (want10 : Int) (x11p : Option Addr) (x11n x11c : Nat) (y12p : Option Addr) (y12n y12c : Nat) (K : Env → W) : RP c7 22 [(0, .slice script0p script0n script0c), (3, .pointer t3), (4, .slice l4p l4n l4c), (5, .int .i64 count5), (6, .int .i64 i6), (7, .pointer (some o7)), (9, .pointer (some h9)), (10, .int .i64 want10), (11, .slice x11p x11n x11c), (12, .slice y12p y12n y12c)] K =
    (K [(0, .slice script0p script0n script0c), (3, .pointer t3), (4, .slice l4p l4n l4c), (5, .int .i64 count5), (6, .int .i64 i6), (7, .pointer (some o7)), (9, .pointer (some h9)), (10, .int .i64 want10), (11, .slice x11p x11n x11c), (12, .slice y12p y12n y12c), (13, .int .i64 ((0 : Int)))]) := by kernel_rfl
@[go_sem] theorem c7_r23 (script0p : Option Addr) (script0n script0c : Nat) (t3 : Option Addr) (l4p : Option Addr) (l4n l4c : Nat) (count5 : Int) (i6 : Int) (o7 : Addr) (h9 : Addr) (want10 : Int) (x11p : Option Addr) (x11n x11c : Nat) (y12p : Option Addr) (y12n y12c : Nat) (k13 : Int) (K : Env → W) : RP c7 23 [(0, .slice script0p script0n script0c), (3, .pointer t3), (4, .slice l4p l4n l4c), (5, .int .i64 count5), (6, .int .i64 i6), (7, .pointer (some o7)), (9, .pointer (some h9)), (10, .int .i64 want10), (11, .slice x11p x11n x11c), (12, .slice y12p y12n y12c), (13, .int .i64 k13)] K =
    (cnd ((decide (k13 < (x11n : Int)))) (K [(0, .slice script0p script0n script0c), (3, .pointer t3), (4, .slice l4p l4n l4c), (5, .int .i64 count5), (6, .int .i64 i6), (7, .pointer (some o7)), (9, .pointer (some h9)), (10, .int .i64 want10), (11, .slice x11p x11n x11c), (12, .slice y12p y12n y12c), (13, .int .i64 k13), (77, .bool (((x11n : Int) == (y12n : Int))))]) (K [(0, .slice script0p script0n script0c), (3, .pointer t3), (4, .slice l4p l4n l4c), (5, .int .i64 count5), (6, .int .i64 i6), (7, .pointer (some o7)), (9, .pointer (some h9)), (10, .int .i64 want10), (11, .slice x11p x11n x11c), (12, .slice y12p y12n y12c), (13, .int .i64 k13), (77, .bool false)])) := by kernel_rfl
@[go_sem] theorem c7_r24 (script0p : Option Addr) (script0n script0c : Nat) (t3 : Option Addr) (l4p : Option Addr) (l4n l4c : Nat) (count5 : Int) (i6 : Int) (o7 : Addr) (h9 : Addr) (want10 : Int) (x11p : Option Addr) (x11n x11c : Nat) (y12p : Option Addr) (y12n y12c : Nat) (k13 : Int) (K : Env → W) : RP c7 24 [(0, .slice script0p script0n script0c), (3, .pointer t3), (4, .slice l4p l4n l4c), (5, .int .i64 count5), (6, .int .i64 i6), (7, .pointer (some o7)), (9, .pointer (some h9)), (10, .int .i64 want10), (11, .slice x11p x11n x11c), (12, .slice y12p y12n y12c), (13, .int .i64 k13)] K =
    (K [(0, .slice script0p script0n script0c), (3, .pointer t3), (4, .slice l4p l4n l4c), (5, .int .i64 count5), (6, .int .i64 i6), (7, .pointer (some o7)), (9, .pointer (some h9)), (10, .int .i64 want10), (11, .slice x11p x11n x11c), (12, .slice y12p y12n y12c), (13, .int .i64 ((IntKind.wrap .i64 (k13 + (1 : Int)))))]) := by kernel_rfl
@[go_sem] theorem c7_r25 (script0p : Option Addr) (script0n script0c : Nat) (t3 : Option Addr) (l4p : Option Addr) (l4n l4c : Nat) (count5 : Int) (i6 : Int) (o7 : Addr) (h9 : Addr) (want10 : Int) (x11p : Option Addr) (x11n x11c : Nat) (y12p : Option Addr) (y12n y12c : Nat) (k13 : Int) (K : Env → W) : RP c7 25 [(0, .slice script0p script0n script0c), (3, .pointer t3), (4, .slice l4p l4n l4c), (5, .int .i64 count5), (6, .int .i64 i6), (7, .pointer (some o7)), (9, .pointer (some h9)), (10, .int .i64 want10), (11, .slice x11p x11n x11c), (12, .slice y12p y12n y12c), (13, .int .i64 k13)] K =
    (ph fun S0 => (rq (0 ≤ k13 ∧ k13 < (x11n : Int)) (nn x11p fun y1_ => (ldq S0 eI ((Addr.add y1_ ((k13).toNat * 1))) fun (y2_ : Int) => (rq (0 ≤ k13 ∧ k13 < (y12n : Int)) (nn y12p fun y3_ => (ldq S0 eI ((Addr.add y3_ ((k13).toNat * 1))) fun (y4_ : Int) => (K [(0, .slice script0p script0n script0c), (3, .pointer t3), (4, .slice l4p l4n l4c), (5, .int .i64 count5), (6, .int .i64 i6), (7, .pointer (some o7)), (9, .pointer (some h9)), (10, .int .i64 want10), (11, .slice x11p x11n x11c), (12, .slice y12p y12n y12c), (13, .int .i64 k13), (88, .bool ((y2_ != y4_)))])))))))) := by kernel_rfl
@[go_sem] theorem c7_r26 (K : Env → W) : RP c7 26 [] K =
    (K [(2, .bool false)]) := by kernel_rfl
@[go_sem] theorem c7_r27 (script0p : Option Addr) (script0n script0c : Nat) (t3 : Option Addr) (l4p : Option Addr) (l4n l4c : Nat) (count5 : Int) (i6 : Int) (o7 : Addr) (h9 : Addr) (want10 : Int) (x11p : Option Addr) (x11n x11c : Nat) (y12p : Option Addr) (y12n y12c : Nat) (K : Env → W) : RP c7 27 [(0, .slice script0p script0n script0c), (3, .pointer t3), (4, .slice l4p l4n l4c), (5, .int .i64 count5), (6, .int .i64 i6), (7, .pointer (some o7)), (9, .pointer (some h9)), (10, .int .i64 want10), (11, .slice x11p x11n x11c), (12, .slice y12p y12n y12c)] K =
    (ph fun S0 => (cnd (((x11n : Int) != (y12n : Int))) (kp S0 (K [(0, .slice script0p script0n script0c), (3, .pointer t3), (4, .slice l4p l4n l4c), (5, .int .i64 count5), (6, .int .i64 i6), (7, .pointer (some o7)), (9, .pointer (some h9)), (10, .int .i64 want10), (102, .bool true)])) (ldnq S0 e_lock_Hold 5 h9 fun (y1_ : lock_Hold) => (ldnq S0 e_lock_Hold 5 h9 fun (y2_ : lock_Hold) => (cal eB Try.prog 28 #[.pointer t3, v_lock_Hold y1_] fun (y3_ : Bool) => (kp S0 (cal eB Try.prog 34 #[.slice l4p l4n l4c, v_lock_Hold y2_] fun (y4_ : Bool) => (K [(0, .slice script0p script0n script0c), (3, .pointer t3), (4, .slice l4p l4n l4c), (5, .int .i64 count5), (6, .int .i64 i6), (7, .pointer (some o7)), (9, .pointer (some h9)), (10, .int .i64 want10), (102, .bool ((!(y3_ == y4_))))])))))))) := by kernel_rfl
@[go_sem] theorem c7_r28 (K : Env → W) : RP c7 28 [] K =
    (K [(2, .bool false)]) := by kernel_rfl
@[go_sem] theorem c7_r29 (script0p : Option Addr) (script0n script0c : Nat) (t3 : Option Addr) (l4p : Option Addr) (l4n l4c : Nat) (count5 : Int) (i6 : Int) (o7 : Addr) (h9 : Addr) (want10 : Int) (K : Env → W) : RP c7 29 [(0, .slice script0p script0n script0c), (3, .pointer t3), (4, .slice l4p l4n l4c), (5, .int .i64 count5), (6, .int .i64 i6), (7, .pointer (some o7)), (9, .pointer (some h9)), (10, .int .i64 want10)] K =
    (ldn e_gharrylaw12_Op 6 o7 fun (y1_ : gharrylaw12_Op) => (cal eI Try.prog 27 #[.pointer t3, v_gharrylaw12_Op y1_] fun (y2_ : Int) => (K [(0, .slice script0p script0n script0c), (3, .pointer t3), (4, .slice l4p l4n l4c), (5, .int .i64 count5), (6, .int .i64 i6), (9, .pointer (some h9)), (10, .int .i64 want10), (107, .bool ((y2_ != want10)))]))) := by kernel_rfl
@[go_sem] theorem c7_r30 (K : Env → W) : RP c7 30 [] K =
    (K [(2, .bool false)]) := by kernel_rfl
@[go_sem] theorem c7_r31 (script0p : Option Addr) (script0n script0c : Nat) (t3 : Option Addr) (l4p : Option Addr) (l4n l4c : Nat) (count5 : Int) (i6 : Int) (h9 : Addr) (want10 : Int) (K : Env → W) : RP c7 31 [(0, .slice script0p script0n script0c), (3, .pointer t3), (4, .slice l4p l4n l4c), (5, .int .i64 count5), (6, .int .i64 i6), (9, .pointer (some h9)), (10, .int .i64 want10)] K =
    (cnd ((want10 == (0 : Int))) (ldn e_lock_Hold 5 h9 fun (y1_ : lock_Hold) => (cal eB Try.prog 34 #[.slice l4p l4n l4c, v_lock_Hold y1_] fun (y2_ : Bool) => (K [(0, .slice script0p script0n script0c), (3, .pointer t3), (4, .slice l4p l4n l4c), (5, .int .i64 count5), (6, .int .i64 i6), (9, .pointer (some h9)), (115, .bool ((!y2_)))]))) (K [(0, .slice script0p script0n script0c), (3, .pointer t3), (4, .slice l4p l4n l4c), (5, .int .i64 count5), (6, .int .i64 i6), (9, .pointer (some h9)), (115, .bool false)])) := by kernel_rfl
@[go_sem] theorem c7_r32 (script0p : Option Addr) (script0n script0c : Nat) (t3 : Option Addr) (l4p : Option Addr) (l4n l4c : Nat) (count5 : Int) (i6 : Int) (h9 : Addr) (K : Env → W) : RP c7 32 [(0, .slice script0p script0n script0c), (3, .pointer t3), (4, .slice l4p l4n l4c), (5, .int .i64 count5), (6, .int .i64 i6), (9, .pointer (some h9))] K =
    (ldn e_lock_Hold 5 h9 fun (y1_ : lock_Hold) => (nwc #[.int .i64 y1_.Txn, .int .i64 y1_.Mode, str y1_.Lo, str y1_.Hi, .bool y1_.Open] 27 fun y2_ => (val eSl Try.prog (oB_append #[41, 41] 41 #[.slice l4p l4n l4c, .slice ((some y2_)) 1 1]) fun (y3_ : (Option Addr × Nat × Nat)) => (K [(0, .slice script0p script0n script0c), (3, .pointer t3), (4, .slice y3_.1 y3_.2.1 y3_.2.2), (5, .int .i64 count5), (6, .int .i64 i6)])))) := by kernel_rfl
@[go_sem] theorem c7_r33 (script0p : Option Addr) (script0n script0c : Nat) (t3 : Option Addr) (l4p : Option Addr) (l4n l4c : Nat) (count5 : Int) (i6 : Int) (K : Env → W) : RP c7 33 [(0, .slice script0p script0n script0c), (3, .pointer t3), (4, .slice l4p l4n l4c), (5, .int .i64 count5), (6, .int .i64 i6)] K =
    (K [(0, .slice script0p script0n script0c), (3, .pointer t3), (4, .slice l4p l4n l4c), (5, .int .i64 ((IntKind.wrap .i64 (count5 + (1 : Int))))), (6, .int .i64 i6)]) := by kernel_rfl
@[go_sem] theorem c7_r34 (script0p : Option Addr) (script0n script0c : Nat) (t3 : Option Addr) (l4p : Option Addr) (l4n l4c : Nat) (count5 : Int) (i6 : Int) (K : Env → W) : RP c7 34 [(0, .slice script0p script0n script0c), (3, .pointer t3), (4, .slice l4p l4n l4c), (5, .int .i64 count5), (6, .int .i64 i6)] K =
    (cal eSl Try.prog 30 #[.pointer t3] fun (y1_ : (Option Addr × Nat × Nat)) => (cal eB Try.prog 35 #[.slice y1_.1 y1_.2.1 y1_.2.2, .slice l4p l4n l4c] fun (y2_ : Bool) => (cnd ((!y2_)) (K [(0, .slice script0p script0n script0c), (3, .pointer t3), (4, .slice l4p l4n l4c), (5, .int .i64 count5), (6, .int .i64 i6), (132, .bool true)]) (cal eI Try.prog 36 #[.pointer t3] fun (y3_ : Int) => (K [(0, .slice script0p script0n script0c), (3, .pointer t3), (4, .slice l4p l4n l4c), (5, .int .i64 count5), (6, .int .i64 i6), (132, .bool ((y3_ != count5)))]))))) := by kernel_rfl
@[go_sem] theorem c7_r35 (K : Env → W) : RP c7 35 [] K =
    (K [(2, .bool false)]) := by kernel_rfl
@[go_sem] theorem c7_r36 (K : Env → W) : RP c7 36 [] K =
    (cal eB Try.prog 19 #[] fun (y1_ : Bool) => (K [(2, .bool y1_)])) := by kernel_rfl
@[go_sem] theorem c7_o : c7.lo 1000000 = [2] := rfl
@[go_sem] theorem c7_e (t2 : Bool) (k : Value → W) : RTp c7 [(2, .bool t2)] k = (k (.bool t2)) := by kernel_rfl
theorem c7_ok : (c7.P.follows .mixedOrders && okc c7 c7.body) = true := by kernel_rfl
theorem c7_fn {e : Enc} {args : Array Value} {G : e.α → W} {L : List HP} {ρ : Env} (hρ : envA 0 args.toList = ρ) (hs : Nat.ble args.size 134 = true) (h : E L (D c7 (.seq (.reg 0) (.seq (.reg 1) (.seq (.reg 2) (.seq (.reg 3) (.seq (.seq (.reg 4) (.block 0 (.loop (.seq (.seq (.reg 5) (.cond (.tmp 22) (.skip) (.exit 0))) (.seq (.block 1 (.seq (.reg 7) (.seq (.seq (.reg 8) (.cond (.tmp 31) (.seq (.reg 9) (.seq (.seq (.reg 10) (.cond (.tmp 47) (.seq (.reg 11) (.ret)) (.skip))) (.seq (.reg 12) (.exit 1)))) (.skip))) (.seq (.reg 13) (.seq (.reg 14) (.seq (.seq (.reg 15) (.cond (.tmp 53) (.reg 16) (.seq (.reg 17) (.cond (.tmp 58) (.reg 18) (.skip))))) (.seq (.seq (.reg 19) (.cond (.tmp 60) (.seq (.reg 20) (.seq (.reg 21) (.seq (.seq (.reg 22) (.block 2 (.loop (.seq (.seq (.reg 23) (.cond (.tmp 77) (.skip) (.exit 2))) (.seq (.block 3 (.seq (.reg 25) (.cond (.tmp 88) (.seq (.reg 26) (.ret)) (.skip)))) (.reg 24)))))) (.seq (.reg 27) (.cond (.tmp 102) (.seq (.reg 28) (.ret)) (.skip)))))) (.skip))) (.seq (.seq (.reg 29) (.cond (.tmp 107) (.seq (.reg 30) (.ret)) (.skip))) (.seq (.seq (.reg 31) (.cond (.tmp 115) (.seq (.reg 32) (.reg 33)) (.skip))) (.seq (.reg 34) (.cond (.tmp 132) (.seq (.reg 35) (.ret)) (.skip)))))))))))) (.reg 6)))))) (.seq (.reg 36) (.ret))))))) (fnQ c7 e G) ρ)) : E L (cal e Try.prog 7 args G) :=
  d_fn (c := c7) Try.func7 (by kernel_rfl) (by kernel_rfl) (by kernel_rfl) c7_ok (by kernel_rfl) (by kernel_rfl) hρ hs h
-- loop (first region 23): live slots 3:t3 4:l4 5:count5 6:i6 7:o7 9:h9 10:want10 11:x11 12:y12 13:k13, of which it writes [13]
-- loop (first region 23): live slots 0:script0 3:t3 4:l4 5:count5 6:i6 7:o7 9:h9 10:want10 11:x11 12:y12 13:k13, of which it writes [13]
-- loop (first region 5): live slots 0:script0 3:t3 4:l4 5:count5 6:i6, of which it writes [4, 5, 6]
/-! gharry.gharrylaw12.LockNobody -/
noncomputable def c8 : Cfg := { P := Try.prog, n := 46, T := TT, body := (Try.f8.body).getD .skip, res := Try.f8.results.toList, li := lk [] [(0, [0]), (1, [1]), (2, [1, 3])], lo := lk [] [(0, [1]), (1, [1, 3]), (2, [2]), (1000000, [2])], ord := lk (false, []) [(2, (true, [(0, 1), (1, 0), (2, 3), (3, 1), (4, 1), (5, 1), (6, 0), (7, 3), (8, 1), (9, 1), (10, 1), (11, 1), (12, 3), (13, 1), (14, 1), (15, 1), (16, 1), (17, 3), (18, 1), (19, 1), (20, 1), (21, 1), (22, 1), (23, 0), (25, 1), (28, 1), (32, 1), (33, 0), (24, 2), (26, 2), (27, 1), (29, 2), (30, 1), (31, 1), (34, 4), (35, 1), (36, 1), (37, 1), (38, 1), (39, 1), (40, 4), (41, 1), (42, 1)]))] }
@[go_sem] theorem c8_i0 : c8.li 0 = [0] := rfl
@[go_sem] theorem c8_i1 : c8.li 1 = [1] := rfl
@[go_sem] theorem c8_i2 : c8.li 2 = [1, 3] := rfl
@[go_sem] theorem c8_r0 (h0 : lock_Hold) (K : Env → W) : RP c8 0 [(0, v_lock_Hold h0)] K =
    (nwc #[.int .i64 h0.Txn, .int .i64 h0.Mode, str h0.Lo, str h0.Hi, .bool h0.Open] 27 fun y1_ => (K [(1, .pointer (some y1_))])) := by kernel_rfl
@[go_sem] theorem c8_r1 (h1 : Addr) (K : Env → W) : RP c8 1 [(1, .pointer (some h1))] K =
    (K [(1, .pointer (some h1)), (3, .pointer none)]) := by kernel_rfl
@[go_sem] theorem c8_r2 (h1 : Addr) (t3 : Option Addr) (K : Env → W) : RP c8 2 [(1, .pointer (some h1)), (3, .pointer t3)] K =
    (ph fun S0 => (ldnq S0 e_lock_Hold 5 h1 fun (y1_ : lock_Hold) => (cal eI Try.prog 37 #[.pointer t3, v_lock_Hold y1_] fun (y2_ : Int) => (ph fun S1 => (cnd ((y2_ == (11 : Int))) (ldnq S1 e_lock_Hold 5 h1 fun (y3_ : lock_Hold) => (cal eB Try.prog 28 #[.pointer t3, v_lock_Hold y3_] fun (y4_ : Bool) => (ph fun S2 => (cnd ((!y4_)) (cal eI Try.prog 38 #[.pointer t3, .int .i64 ((1 : Int)), .int .i64 ((1 : Int)), str (([] : List UInt8))] fun (y5_ : Int) => (ph fun S3 => (cnd ((y5_ == (11 : Int))) (cal eI Try.prog 39 #[.pointer t3, .int .i64 ((1 : Int)), .int .i64 ((1 : Int)), str (([] : List UInt8)), str (([] : List UInt8))] fun (y6_ : Int) => (ph fun S4 => (cnd ((y6_ == (11 : Int))) (ldq S4 eI h1 fun (y7_ : Int) => (ldnq S4 e_lock_Hold 5 h1 fun (y8_ : lock_Hold) => (cal eI Try.prog 26 #[.pointer t3, .int .i64 y7_] fun (y9_ : Int) => (kp S4 (cal eI Try.prog 36 #[.pointer t3] fun (y10_ : Int) => (kp S4 (cal eSl Try.prog 30 #[.pointer t3] fun (y11_ : (Option Addr × Nat × Nat)) => (kp S4 (cal eSl Try.prog 33 #[.pointer t3, v_lock_Hold y8_] fun (y12_ : (Option Addr × Nat × Nat)) => (cnd (((IntKind.wrap .i64 ((IntKind.wrap .i64 ((IntKind.wrap .i64 (y9_ + y10_)) + (y11_.2.1 : Int))) + (y12_.2.1 : Int))) == (0 : Int))) (cal eB Try.prog 19 #[] fun (y13_ : Bool) => (K [(2, .bool y13_)])) (K [(2, .bool false)]))))))))))) (kp S4 (kp S4 (kp S4 (K [(2, .bool false)]))))))) (ph fun S5 => (kp S5 (kp S5 (kp S5 (K [(2, .bool false)])))))))) (ph fun S6 => (ph fun S7 => (kp S7 (kp S7 (kp S7 (K [(2, .bool false)])))))))))) (ph fun S8 => (ph fun S9 => (ph fun S10 => (kp S10 (kp S10 (kp S10 (K [(2, .bool false)])))))))))))) := by kernel_rfl
@[go_sem] theorem c8_o : c8.lo 1000000 = [2] := rfl
@[go_sem] theorem c8_e (t2 : Bool) (k : Value → W) : RTp c8 [(2, .bool t2)] k = (k (.bool t2)) := by kernel_rfl
theorem c8_ok : (c8.P.follows .mixedOrders && okc c8 c8.body) = true := by kernel_rfl
theorem c8_fn {e : Enc} {args : Array Value} {G : e.α → W} {L : List HP} {ρ : Env} (hρ : envA 0 args.toList = ρ) (hs : Nat.ble args.size 46 = true) (h : E L (D c8 (.seq (.reg 0) (.seq (.reg 1) (.seq (.reg 2) (.ret)))) (fnQ c8 e G) ρ)) : E L (cal e Try.prog 8 args G) :=
  d_fn (c := c8) Try.func8 (by kernel_rfl) (by kernel_rfl) (by kernel_rfl) c8_ok (by kernel_rfl) (by kernel_rfl) hρ hs h
/-! gharry.lock.Right -/
noncomputable def c17 : Cfg := { P := Try.prog, n := 49, T := TT, body := (Try.f17.body).getD .skip, res := Try.f17.results.toList, li := lk [] [(0, [0]), (1, [1])], lo := lk [] [(0, [1]), (1, [2]), (1000000, [2])], ord := lk (false, []) [] }
@[go_sem] theorem c17_i0 : c17.li 0 = [0] := rfl
@[go_sem] theorem c17_i1 : c17.li 1 = [1] := rfl
@[go_sem] theorem c17_r0 (h0 : lock_Hold) (K : Env → W) : RP c17 0 [(0, v_lock_Hold h0)] K =
    (nwc #[.int .i64 h0.Txn, .int .i64 h0.Mode, str h0.Lo, str h0.Hi, .bool h0.Open] 27 fun y1_ => (K [(1, .pointer (some y1_))])) := by kernel_rfl
@[go_sem] theorem c17_r1 (h1 : Addr) (K : Env → W) : RP c17 1 [(1, .pointer (some h1))] K =
    (ld eI h1 fun (y1_ : Int) => (cnd ((decide ((0 : Int) < y1_))) (ld eI ((h1.add 1)) fun (y2_ : Int) => (cnd ((y2_ == (1 : Int))) (ld eS ((h1.add 2)) fun (y3_ : List UInt8) => (cnd ((decide (((y3_).length : Int) ≤ (16 : Int)))) (ld eS ((h1.add 3)) fun (y4_ : List UInt8) => (cnd ((decide (((y4_).length : Int) ≤ (16 : Int)))) (ld eB ((h1.add 4)) fun (y5_ : Bool) => (cnd y5_ (ld eS ((h1.add 3)) fun (y6_ : List UInt8) => (cnd ((y6_ == ([] : List UInt8))) (K [(2, .bool true)]) (ld eB ((h1.add 4)) fun (y7_ : Bool) => (cnd ((!y7_)) (ld eS ((h1.add 2)) fun (y8_ : List UInt8) => (ld eS ((h1.add 3)) fun (y9_ : List UInt8) => (K [(2, .bool ((Op.bytesLess y8_ y9_ || y8_ == y9_)))]))) (K [(2, .bool false)]))))) (ld eB ((h1.add 4)) fun (y10_ : Bool) => (cnd ((!y10_)) (ld eS ((h1.add 2)) fun (y11_ : List UInt8) => (ld eS ((h1.add 3)) fun (y12_ : List UInt8) => (K [(2, .bool ((Op.bytesLess y11_ y12_ || y11_ == y12_)))]))) (K [(2, .bool false)]))))) (K [(2, .bool false)]))) (K [(2, .bool false)]))) (ld eI ((h1.add 1)) fun (y13_ : Int) => (cnd ((y13_ == (2 : Int))) (ld eS ((h1.add 2)) fun (y14_ : List UInt8) => (cnd ((decide (((y14_).length : Int) ≤ (16 : Int)))) (ld eS ((h1.add 3)) fun (y15_ : List UInt8) => (cnd ((decide (((y15_).length : Int) ≤ (16 : Int)))) (ld eB ((h1.add 4)) fun (y16_ : Bool) => (cnd y16_ (ld eS ((h1.add 3)) fun (y17_ : List UInt8) => (cnd ((y17_ == ([] : List UInt8))) (K [(2, .bool true)]) (ld eB ((h1.add 4)) fun (y18_ : Bool) => (cnd ((!y18_)) (ld eS ((h1.add 2)) fun (y19_ : List UInt8) => (ld eS ((h1.add 3)) fun (y20_ : List UInt8) => (K [(2, .bool ((Op.bytesLess y19_ y20_ || y19_ == y20_)))]))) (K [(2, .bool false)]))))) (ld eB ((h1.add 4)) fun (y21_ : Bool) => (cnd ((!y21_)) (ld eS ((h1.add 2)) fun (y22_ : List UInt8) => (ld eS ((h1.add 3)) fun (y23_ : List UInt8) => (K [(2, .bool ((Op.bytesLess y22_ y23_ || y22_ == y23_)))]))) (K [(2, .bool false)]))))) (K [(2, .bool false)]))) (K [(2, .bool false)]))) (K [(2, .bool false)]))))) (K [(2, .bool false)]))) := by kernel_rfl
@[go_sem] theorem c17_o : c17.lo 1000000 = [2] := rfl
@[go_sem] theorem c17_e (t2 : Bool) (k : Value → W) : RTp c17 [(2, .bool t2)] k = (k (.bool t2)) := by kernel_rfl
theorem c17_ok : (c17.P.follows .mixedOrders && okc c17 c17.body) = true := by kernel_rfl
theorem c17_fn {e : Enc} {args : Array Value} {G : e.α → W} {L : List HP} {ρ : Env} (hρ : envA 0 args.toList = ρ) (hs : Nat.ble args.size 49 = true) (h : E L (D c17 (.seq (.reg 0) (.seq (.reg 1) (.ret))) (fnQ c17 e G) ρ)) : E L (cal e Try.prog 17 args G) :=
  d_fn (c := c17) Try.func17 (by kernel_rfl) (by kernel_rfl) (by kernel_rfl) c17_ok (by kernel_rfl) (by kernel_rfl) hρ hs h
/-! gharry.gharrylaw12.right -/
noncomputable def c18 : Cfg := { P := Try.prog, n := 38, T := TT, body := (Try.f18.body).getD .skip, res := Try.f18.results.toList, li := lk [] [(0, [0]), (1, [1]), (2, []), (3, [1]), (4, [1]), (5, [1])], lo := lk [] [(0, [1]), (1, [1, 27]), (2, [2]), (3, [1, 29]), (4, [2]), (5, [2]), (1000000, [2])], ord := lk (false, []) [] }
@[go_sem] theorem c18_i0 : c18.li 0 = [0] := rfl
@[go_sem] theorem c18_i1 : c18.li 1 = [1] := rfl
@[go_sem] theorem c18_i2 : c18.li 2 = [] := rfl
@[go_sem] theorem c18_i3 : c18.li 3 = [1] := rfl
@[go_sem] theorem c18_i4 : c18.li 4 = [1] := rfl
@[go_sem] theorem c18_i5 : c18.li 5 = [1] := rfl
@[go_sem] theorem c18_r0 (h0 : lock_Hold) (K : Env → W) : RP c18 0 [(0, v_lock_Hold h0)] K =
    (nwc #[.int .i64 h0.Txn, .int .i64 h0.Mode, str h0.Lo, str h0.Hi, .bool h0.Open] 27 fun y1_ => (K [(1, .pointer (some y1_))])) := by kernel_rfl
@[go_sem] theorem c18_r1 (h1 : Addr) (K : Env → W) : RP c18 1 [(1, .pointer (some h1))] K =
    (ld eI h1 fun (y1_ : Int) => (cnd ((decide (y1_ < (1 : Int)))) (K [(1, .pointer (some h1)), (27, .bool true)]) (ld eI ((h1.add 1)) fun (y2_ : Int) => (cnd ((y2_ != (1 : Int))) (ld eI ((h1.add 1)) fun (y3_ : Int) => (cnd ((y3_ != (2 : Int))) (K [(1, .pointer (some h1)), (27, .bool true)]) (ld eS ((h1.add 2)) fun (y4_ : List UInt8) => (cnd ((decide ((16 : Int) < ((y4_).length : Int)))) (K [(1, .pointer (some h1)), (27, .bool true)]) (ld eS ((h1.add 3)) fun (y5_ : List UInt8) => (K [(1, .pointer (some h1)), (27, .bool ((decide ((16 : Int) < ((y5_).length : Int)))))])))))) (ld eS ((h1.add 2)) fun (y6_ : List UInt8) => (cnd ((decide ((16 : Int) < ((y6_).length : Int)))) (K [(1, .pointer (some h1)), (27, .bool true)]) (ld eS ((h1.add 3)) fun (y7_ : List UInt8) => (K [(1, .pointer (some h1)), (27, .bool ((decide ((16 : Int) < ((y7_).length : Int)))))])))))))) := by kernel_rfl
@[go_sem] theorem c18_r2 (K : Env → W) : RP c18 2 [] K =
    (K [(2, .bool false)]) := by kernel_rfl
@[go_sem] theorem c18_r3 (h1 : Addr) (K : Env → W) : RP c18 3 [(1, .pointer (some h1))] K =
    (ld eB ((h1.add 4)) fun (y1_ : Bool) => (K [(1, .pointer (some h1)), (29, .bool y1_)])) := by kernel_rfl
@[go_sem] theorem c18_r4 (h1 : Addr) (K : Env → W) : RP c18 4 [(1, .pointer (some h1))] K =
    (ld eS ((h1.add 3)) fun (y1_ : List UInt8) => (K [(2, .bool ((y1_ == ([] : List UInt8))))])) := by kernel_rfl
@[go_sem] theorem c18_r5 (h1 : Addr) (K : Env → W) : RP c18 5 [(1, .pointer (some h1))] K =
    (ld eS ((h1.add 2)) fun (y1_ : List UInt8) => (ld eS ((h1.add 3)) fun (y2_ : List UInt8) => (K [(2, .bool ((Op.bytesLess y1_ y2_ || y1_ == y2_)))]))) := by kernel_rfl
@[go_sem] theorem c18_o : c18.lo 1000000 = [2] := rfl
@[go_sem] theorem c18_e (t2 : Bool) (k : Value → W) : RTp c18 [(2, .bool t2)] k = (k (.bool t2)) := by kernel_rfl
theorem c18_ok : (c18.P.follows .mixedOrders && okc c18 c18.body) = true := by kernel_rfl
theorem c18_fn {e : Enc} {args : Array Value} {G : e.α → W} {L : List HP} {ρ : Env} (hρ : envA 0 args.toList = ρ) (hs : Nat.ble args.size 38 = true) (h : E L (D c18 (.seq (.reg 0) (.seq (.seq (.reg 1) (.cond (.tmp 27) (.seq (.reg 2) (.ret)) (.skip))) (.seq (.seq (.reg 3) (.cond (.tmp 29) (.seq (.reg 4) (.ret)) (.skip))) (.seq (.reg 5) (.ret))))) (fnQ c18 e G) ρ)) : E L (cal e Try.prog 18 args G) :=
  d_fn (c := c18) Try.func18 (by kernel_rfl) (by kernel_rfl) (by kernel_rfl) c18_ok (by kernel_rfl) (by kernel_rfl) hρ hs h
/-! gharry.gharrylaw12.awake -/
noncomputable def c19 : Cfg := { P := Try.prog, n := 21, T := TT, body := (Try.f19.body).getD .skip, res := Try.f19.results.toList, li := lk [] [(0, []), (1, []), (2, [1])], lo := lk [] [(0, []), (1, [1]), (2, [0]), (1000000, [0])], ord := lk (false, []) [] }
@[go_sem] theorem c19_i0 : c19.li 0 = [] := rfl
@[go_sem] theorem c19_i1 : c19.li 1 = [] := rfl
@[go_sem] theorem c19_i2 : c19.li 2 = [1] := rfl
@[go_sem] theorem c19_r0 (K : Env → W) : RP c19 0 [] K =
    (K []) := by kernel_rfl
@[go_sem] theorem c19_r1 (K : Env → W) : RP c19 1 [] K =
    (cal eP Try.prog 25 #[] fun (y1_ : Option Addr) => (K [(1, .pointer y1_)])) := by kernel_rfl
@[go_sem] theorem c19_r2 (t1 : Option Addr) (K : Env → W) : RP c19 2 [(1, .pointer t1)] K =
    (cal eI Try.prog 38 #[.pointer t1, .int .i64 ((1 : Int)), .int .i64 ((2 : Int)), str (([98] : List UInt8))] fun (y1_ : Int) => (cnd ((y1_ == (0 : Int))) (cal eI Try.prog 39 #[.pointer t1, .int .i64 ((2 : Int)), .int .i64 ((1 : Int)), str (([97] : List UInt8)), str (([99] : List UInt8))] fun (y2_ : Int) => (cnd ((y2_ == (12 : Int))) (cal eI Try.prog 26 #[.pointer t1, .int .i64 ((1 : Int))] fun (y3_ : Int) => (cnd ((y3_ == (1 : Int))) (cal eI Try.prog 39 #[.pointer t1, .int .i64 ((2 : Int)), .int .i64 ((1 : Int)), str (([97] : List UInt8)), str (([99] : List UInt8))] fun (y4_ : Int) => (K [(0, .bool ((y4_ == (0 : Int))))])) (K [(0, .bool false)]))) (K [(0, .bool false)]))) (K [(0, .bool false)]))) := by kernel_rfl
@[go_sem] theorem c19_o : c19.lo 1000000 = [0] := rfl
@[go_sem] theorem c19_e (t0 : Bool) (k : Value → W) : RTp c19 [(0, .bool t0)] k = (k (.bool t0)) := by kernel_rfl
theorem c19_ok : (c19.P.follows .mixedOrders && okc c19 c19.body) = true := by kernel_rfl
theorem c19_fn {e : Enc} {args : Array Value} {G : e.α → W} {L : List HP} {ρ : Env} (hρ : envA 0 args.toList = ρ) (hs : Nat.ble args.size 21 = true) (h : E L (D c19 (.seq (.reg 0) (.seq (.reg 1) (.seq (.reg 2) (.ret)))) (fnQ c19 e G) ρ)) : E L (cal e Try.prog 19 args G) :=
  d_fn (c := c19) Try.func19 (by kernel_rfl) (by kernel_rfl) (by kernel_rfl) c19_ok (by kernel_rfl) (by kernel_rfl) hρ hs h
/-! gharry.lock.Meet -/
noncomputable def c20 : Cfg := { P := Try.prog, n := 25, T := TT, body := (Try.f20.body).getD .skip, res := Try.f20.results.toList, li := lk [] [(0, [0, 1]), (1, [2, 3])], lo := lk [] [(0, [2, 3]), (1, [4]), (1000000, [4])], ord := lk (false, []) [] }
@[go_sem] theorem c20_i0 : c20.li 0 = [0, 1] := rfl
@[go_sem] theorem c20_i1 : c20.li 1 = [2, 3] := rfl
@[go_sem] theorem c20_r0 (a0 : lock_Hold) (b1 : lock_Hold) (K : Env → W) : RP c20 0 [(0, v_lock_Hold a0), (1, v_lock_Hold b1)] K =
    (nwc #[.int .i64 a0.Txn, .int .i64 a0.Mode, str a0.Lo, str a0.Hi, .bool a0.Open] 27 fun y1_ => (nwc #[.int .i64 b1.Txn, .int .i64 b1.Mode, str b1.Lo, str b1.Hi, .bool b1.Open] 27 fun y2_ => (K [(2, .pointer (some y1_)), (3, .pointer (some y2_))]))) := by kernel_rfl
@[go_sem] theorem c20_r1 (a2 : Addr) (b3 : Addr) (K : Env → W) : RP c20 1 [(2, .pointer (some a2)), (3, .pointer (some b3))] K =
    (ld eB ((a2.add 4)) fun (y1_ : Bool) => (cnd y1_ (ld eB ((b3.add 4)) fun (y2_ : Bool) => (cnd y2_ (K [(4, .bool true)]) (ld eS ((a2.add 2)) fun (y3_ : List UInt8) => (ld eS ((b3.add 3)) fun (y4_ : List UInt8) => (K [(4, .bool ((Op.bytesLess y3_ y4_ || y3_ == y4_)))]))))) (ld eS ((b3.add 2)) fun (y5_ : List UInt8) => (ld eS ((a2.add 3)) fun (y6_ : List UInt8) => (cnd ((Op.bytesLess y5_ y6_ || y5_ == y6_)) (ld eB ((b3.add 4)) fun (y7_ : Bool) => (cnd y7_ (K [(4, .bool true)]) (ld eS ((a2.add 2)) fun (y8_ : List UInt8) => (ld eS ((b3.add 3)) fun (y9_ : List UInt8) => (K [(4, .bool ((Op.bytesLess y8_ y9_ || y8_ == y9_)))]))))) (K [(4, .bool false)])))))) := by kernel_rfl
@[go_sem] theorem c20_o : c20.lo 1000000 = [4] := rfl
@[go_sem] theorem c20_e (t4 : Bool) (k : Value → W) : RTp c20 [(4, .bool t4)] k = (k (.bool t4)) := by kernel_rfl
theorem c20_ok : (c20.P.follows .mixedOrders && okc c20 c20.body) = true := by kernel_rfl
theorem c20_fn {e : Enc} {args : Array Value} {G : e.α → W} {L : List HP} {ρ : Env} (hρ : envA 0 args.toList = ρ) (hs : Nat.ble args.size 25 = true) (h : E L (D c20 (.seq (.reg 0) (.seq (.reg 1) (.ret))) (fnQ c20 e G) ρ)) : E L (cal e Try.prog 20 args G) :=
  d_fn (c := c20) Try.func20 (by kernel_rfl) (by kernel_rfl) (by kernel_rfl) c20_ok (by kernel_rfl) (by kernel_rfl) hρ hs h
/-! gharry.gharrylaw12.meet -/
noncomputable def c21 : Cfg := { P := Try.prog, n := 22, T := TT, body := (Try.f21.body).getD .skip, res := Try.f21.results.toList, li := lk [] [(0, [0, 1]), (1, [2, 3]), (2, [2, 3, 5]), (3, [2, 3]), (4, [2, 3, 5])], lo := lk [] [(0, [2, 3]), (1, [2, 3, 5]), (2, [2, 3, 5, 11]), (3, [2, 3, 5]), (4, [4]), (1000000, [4])], ord := lk (false, []) [] }
@[go_sem] theorem c21_i0 : c21.li 0 = [0, 1] := rfl
@[go_sem] theorem c21_i1 : c21.li 1 = [2, 3] := rfl
@[go_sem] theorem c21_i2 : c21.li 2 = [2, 3, 5] := rfl
@[go_sem] theorem c21_i3 : c21.li 3 = [2, 3] := rfl
@[go_sem] theorem c21_i4 : c21.li 4 = [2, 3, 5] := rfl
@[go_sem] theorem c21_r0 (a0 : lock_Hold) (b1 : lock_Hold) (K : Env → W) : RP c21 0 [(0, v_lock_Hold a0), (1, v_lock_Hold b1)] K =
    (nwc #[.int .i64 a0.Txn, .int .i64 a0.Mode, str a0.Lo, str a0.Hi, .bool a0.Open] 27 fun y1_ => (nwc #[.int .i64 b1.Txn, .int .i64 b1.Mode, str b1.Lo, str b1.Hi, .bool b1.Open] 27 fun y2_ => (K [(2, .pointer (some y1_)), (3, .pointer (some y2_))]))) := by kernel_rfl
@[go_sem] theorem c21_r1 (a2 : Addr) (b3 : Addr) (K : Env → W) : RP c21 1 [(2, .pointer (some a2)), (3, .pointer (some b3))] K =
    (ld eS ((a2.add 2)) fun (y1_ : List UInt8) => (K [(2, .pointer (some a2)), (3, .pointer (some b3)), (5, str y1_)])) := by kernel_rfl
@[go_sem] theorem c21_r2 (a2 : Addr) (b3 : Addr) (key5 : List UInt8) (K : Env → W) : RP c21 2 [(2, .pointer (some a2)), (3, .pointer (some b3)), (5, str key5)] K =
    (ld eS ((b3.add 2)) fun (y1_ : List UInt8) => (K [(2, .pointer (some a2)), (3, .pointer (some b3)), (5, str key5), (11, .bool ((!(Op.bytesLess y1_ key5 || y1_ == key5))))])) := by kernel_rfl
@[go_sem] theorem c21_r3 (a2 : Addr) (b3 : Addr) (K : Env → W) : RP c21 3 [(2, .pointer (some a2)), (3, .pointer (some b3))] K =
    (ld eS ((b3.add 2)) fun (y1_ : List UInt8) => (K [(2, .pointer (some a2)), (3, .pointer (some b3)), (5, str y1_)])) := by kernel_rfl
@[go_sem] theorem c21_r4 (a2 : Addr) (b3 : Addr) (key5 : List UInt8) (K : Env → W) : RP c21 4 [(2, .pointer (some a2)), (3, .pointer (some b3)), (5, str key5)] K =
    (ldn e_lock_Hold 5 a2 fun (y1_ : lock_Hold) => (cal eB Try.prog 24 #[v_lock_Hold y1_, str key5] fun (y2_ : Bool) => (cnd y2_ (ldn e_lock_Hold 5 b3 fun (y3_ : lock_Hold) => (cal eB Try.prog 24 #[v_lock_Hold y3_, str key5] fun (y4_ : Bool) => (K [(4, .bool y4_)]))) (K [(4, .bool false)])))) := by kernel_rfl
@[go_sem] theorem c21_o : c21.lo 1000000 = [4] := rfl
@[go_sem] theorem c21_e (t4 : Bool) (k : Value → W) : RTp c21 [(4, .bool t4)] k = (k (.bool t4)) := by kernel_rfl
theorem c21_ok : (c21.P.follows .mixedOrders && okc c21 c21.body) = true := by kernel_rfl
theorem c21_fn {e : Enc} {args : Array Value} {G : e.α → W} {L : List HP} {ρ : Env} (hρ : envA 0 args.toList = ρ) (hs : Nat.ble args.size 22 = true) (h : E L (D c21 (.seq (.reg 0) (.seq (.reg 1) (.seq (.seq (.reg 2) (.cond (.tmp 11) (.reg 3) (.skip))) (.seq (.reg 4) (.ret))))) (fnQ c21 e G) ρ)) : E L (cal e Try.prog 21 args G) :=
  d_fn (c := c21) Try.func21 (by kernel_rfl) (by kernel_rfl) (by kernel_rfl) c21_ok (by kernel_rfl) (by kernel_rfl) hρ hs h
/-! gharry.lock.Bar -/
noncomputable def c22 : Cfg := { P := Try.prog, n := 25, T := TT, body := (Try.f22.body).getD .skip, res := Try.f22.results.toList, li := lk [] [(0, [0, 1]), (1, [2, 3])], lo := lk [] [(0, [2, 3]), (1, [4]), (1000000, [4])], ord := lk (false, []) [] }
@[go_sem] theorem c22_i0 : c22.li 0 = [0, 1] := rfl
@[go_sem] theorem c22_i1 : c22.li 1 = [2, 3] := rfl
@[go_sem] theorem c22_r0 (a0 : lock_Hold) (b1 : lock_Hold) (K : Env → W) : RP c22 0 [(0, v_lock_Hold a0), (1, v_lock_Hold b1)] K =
    (nwc #[.int .i64 a0.Txn, .int .i64 a0.Mode, str a0.Lo, str a0.Hi, .bool a0.Open] 27 fun y1_ => (nwc #[.int .i64 b1.Txn, .int .i64 b1.Mode, str b1.Lo, str b1.Hi, .bool b1.Open] 27 fun y2_ => (K [(2, .pointer (some y1_)), (3, .pointer (some y2_))]))) := by kernel_rfl
@[go_sem] theorem c22_r1 (a2 : Addr) (b3 : Addr) (K : Env → W) : RP c22 1 [(2, .pointer (some a2)), (3, .pointer (some b3))] K =
    (ld eI a2 fun (y1_ : Int) => (ld eI b3 fun (y2_ : Int) => (cnd ((y1_ != y2_)) (ld eI ((a2.add 1)) fun (y3_ : Int) => (cnd ((y3_ == (2 : Int))) (ldn e_lock_Hold 5 a2 fun (y4_ : lock_Hold) => (ldn e_lock_Hold 5 b3 fun (y5_ : lock_Hold) => (cal eB Try.prog 20 #[v_lock_Hold y4_, v_lock_Hold y5_] fun (y6_ : Bool) => (K [(4, .bool y6_)])))) (ld eI ((b3.add 1)) fun (y7_ : Int) => (cnd ((y7_ == (2 : Int))) (ldn e_lock_Hold 5 a2 fun (y8_ : lock_Hold) => (ldn e_lock_Hold 5 b3 fun (y9_ : lock_Hold) => (cal eB Try.prog 20 #[v_lock_Hold y8_, v_lock_Hold y9_] fun (y10_ : Bool) => (K [(4, .bool y10_)])))) (K [(4, .bool false)]))))) (K [(4, .bool false)])))) := by kernel_rfl
@[go_sem] theorem c22_o : c22.lo 1000000 = [4] := rfl
@[go_sem] theorem c22_e (t4 : Bool) (k : Value → W) : RTp c22 [(4, .bool t4)] k = (k (.bool t4)) := by kernel_rfl
theorem c22_ok : (c22.P.follows .mixedOrders && okc c22 c22.body) = true := by kernel_rfl
theorem c22_fn {e : Enc} {args : Array Value} {G : e.α → W} {L : List HP} {ρ : Env} (hρ : envA 0 args.toList = ρ) (hs : Nat.ble args.size 25 = true) (h : E L (D c22 (.seq (.reg 0) (.seq (.reg 1) (.ret))) (fnQ c22 e G) ρ)) : E L (cal e Try.prog 22 args G) :=
  d_fn (c := c22) Try.func22 (by kernel_rfl) (by kernel_rfl) (by kernel_rfl) c22_ok (by kernel_rfl) (by kernel_rfl) hρ hs h
/-! gharry.gharrylaw12.bar -/
noncomputable def c23 : Cfg := { P := Try.prog, n := 25, T := TT, body := (Try.f23.body).getD .skip, res := Try.f23.results.toList, li := lk [] [(0, [0, 1]), (1, [2, 3])], lo := lk [] [(0, [2, 3]), (1, [4]), (1000000, [4])], ord := lk (false, []) [] }
@[go_sem] theorem c23_i0 : c23.li 0 = [0, 1] := rfl
@[go_sem] theorem c23_i1 : c23.li 1 = [2, 3] := rfl
@[go_sem] theorem c23_r0 (a0 : lock_Hold) (b1 : lock_Hold) (K : Env → W) : RP c23 0 [(0, v_lock_Hold a0), (1, v_lock_Hold b1)] K =
    (nwc #[.int .i64 a0.Txn, .int .i64 a0.Mode, str a0.Lo, str a0.Hi, .bool a0.Open] 27 fun y1_ => (nwc #[.int .i64 b1.Txn, .int .i64 b1.Mode, str b1.Lo, str b1.Hi, .bool b1.Open] 27 fun y2_ => (K [(2, .pointer (some y1_)), (3, .pointer (some y2_))]))) := by kernel_rfl
@[go_sem] theorem c23_r1 (a2 : Addr) (b3 : Addr) (K : Env → W) : RP c23 1 [(2, .pointer (some a2)), (3, .pointer (some b3))] K =
    (ld eI a2 fun (y1_ : Int) => (ld eI b3 fun (y2_ : Int) => (cnd ((y1_ != y2_)) (ld eI ((a2.add 1)) fun (y3_ : Int) => (cnd ((y3_ == (2 : Int))) (ldn e_lock_Hold 5 a2 fun (y4_ : lock_Hold) => (ldn e_lock_Hold 5 b3 fun (y5_ : lock_Hold) => (cal eB Try.prog 21 #[v_lock_Hold y4_, v_lock_Hold y5_] fun (y6_ : Bool) => (K [(4, .bool y6_)])))) (ld eI ((b3.add 1)) fun (y7_ : Int) => (cnd ((y7_ == (2 : Int))) (ldn e_lock_Hold 5 a2 fun (y8_ : lock_Hold) => (ldn e_lock_Hold 5 b3 fun (y9_ : lock_Hold) => (cal eB Try.prog 21 #[v_lock_Hold y8_, v_lock_Hold y9_] fun (y10_ : Bool) => (K [(4, .bool y10_)])))) (K [(4, .bool false)]))))) (K [(4, .bool false)])))) := by kernel_rfl
@[go_sem] theorem c23_o : c23.lo 1000000 = [4] := rfl
@[go_sem] theorem c23_e (t4 : Bool) (k : Value → W) : RTp c23 [(4, .bool t4)] k = (k (.bool t4)) := by kernel_rfl
theorem c23_ok : (c23.P.follows .mixedOrders && okc c23 c23.body) = true := by kernel_rfl
theorem c23_fn {e : Enc} {args : Array Value} {G : e.α → W} {L : List HP} {ρ : Env} (hρ : envA 0 args.toList = ρ) (hs : Nat.ble args.size 25 = true) (h : E L (D c23 (.seq (.reg 0) (.seq (.reg 1) (.ret))) (fnQ c23 e G) ρ)) : E L (cal e Try.prog 23 args G) :=
  d_fn (c := c23) Try.func23 (by kernel_rfl) (by kernel_rfl) (by kernel_rfl) c23_ok (by kernel_rfl) (by kernel_rfl) hρ hs h
/-! gharry.gharrylaw12.in -/
noncomputable def c24 : Cfg := { P := Try.prog, n := 19, T := TT, body := (Try.f24.body).getD .skip, res := Try.f24.results.toList, li := lk [] [(0, [0, 1]), (1, [1, 2])], lo := lk [] [(0, [1, 2]), (1, [4]), (1000000, [4])], ord := lk (false, []) [] }
@[go_sem] theorem c24_i0 : c24.li 0 = [0, 1] := rfl
@[go_sem] theorem c24_i1 : c24.li 1 = [1, 2] := rfl
@[go_sem] theorem c24_r0 (h0 : lock_Hold) (key1 : List UInt8) (K : Env → W) : RP c24 0 [(0, v_lock_Hold h0), (1, str key1)] K =
    (nwc #[.int .i64 h0.Txn, .int .i64 h0.Mode, str h0.Lo, str h0.Hi, .bool h0.Open] 27 fun y1_ => (K [(1, str key1), (2, .pointer (some y1_))])) := by kernel_rfl
@[go_sem] theorem c24_r1 (key1 : List UInt8) (h2 : Addr) (K : Env → W) : RP c24 1 [(1, str key1), (2, .pointer (some h2))] K =
    (ld eS ((h2.add 2)) fun (y1_ : List UInt8) => (cnd ((!(Op.bytesLess key1 y1_))) (ld eB ((h2.add 4)) fun (y2_ : Bool) => (cnd y2_ (K [(4, .bool true)]) (ld eS ((h2.add 3)) fun (y3_ : List UInt8) => (K [(4, .bool ((Op.bytesLess key1 y3_ || key1 == y3_)))])))) (K [(4, .bool false)]))) := by kernel_rfl
@[go_sem] theorem c24_o : c24.lo 1000000 = [4] := rfl
@[go_sem] theorem c24_e (t4 : Bool) (k : Value → W) : RTp c24 [(4, .bool t4)] k = (k (.bool t4)) := by kernel_rfl
theorem c24_ok : (c24.P.follows .mixedOrders && okc c24 c24.body) = true := by kernel_rfl
theorem c24_fn {e : Enc} {args : Array Value} {G : e.α → W} {L : List HP} {ρ : Env} (hρ : envA 0 args.toList = ρ) (hs : Nat.ble args.size 19 = true) (h : E L (D c24 (.seq (.reg 0) (.seq (.reg 1) (.ret))) (fnQ c24 e G) ρ)) : E L (cal e Try.prog 24 args G) :=
  d_fn (c := c24) Try.func24 (by kernel_rfl) (by kernel_rfl) (by kernel_rfl) c24_ok (by kernel_rfl) (by kernel_rfl) hρ hs h
/-! gharry.lock.New -/
noncomputable def c25 : Cfg := { P := Try.prog, n := 3, T := TT, body := (Try.f25.body).getD .skip, res := Try.f25.results.toList, li := lk [] [(0, []), (1, [])], lo := lk [] [(0, []), (1, [0]), (1000000, [0])], ord := lk (false, []) [] }
@[go_sem] theorem c25_i0 : c25.li 0 = [] := rfl
@[go_sem] theorem c25_i1 : c25.li 1 = [] := rfl
@[go_sem] theorem c25_r0 (K : Env → W) : RP c25 0 [] K =
    (K []) := by kernel_rfl
@[go_sem] theorem c25_r1 (K : Env → W) : RP c25 1 [] K =
    (nwc #[.slice ((((⟨(none, 0, 0), (0 : Int)⟩ : lock_Table)).holds).1) ((((⟨(none, 0, 0), (0 : Int)⟩ : lock_Table)).holds).2.1) ((((⟨(none, 0, 0), (0 : Int)⟩ : lock_Table)).holds).2.2), .int .i64 (((⟨(none, 0, 0), (0 : Int)⟩ : lock_Table)).count)] 93 fun y1_ => (K [(0, .pointer (some y1_))])) := by kernel_rfl
@[go_sem] theorem c25_o : c25.lo 1000000 = [0] := rfl
@[go_sem] theorem c25_e (t0 : Option Addr) (k : Value → W) : RTp c25 [(0, .pointer t0)] k = (k (.pointer t0)) := by kernel_rfl
theorem c25_ok : (c25.P.follows .mixedOrders && okc c25 c25.body) = true := by kernel_rfl
theorem c25_fn {e : Enc} {args : Array Value} {G : e.α → W} {L : List HP} {ρ : Env} (hρ : envA 0 args.toList = ρ) (hs : Nat.ble args.size 3 = true) (h : E L (D c25 (.seq (.reg 0) (.seq (.reg 1) (.ret))) (fnQ c25 e G) ρ)) : E L (cal e Try.prog 25 args G) :=
  d_fn (c := c25) Try.func25 (by kernel_rfl) (by kernel_rfl) (by kernel_rfl) c25_ok (by kernel_rfl) (by kernel_rfl) hρ hs h
/-! (*gharry.lock.Table).Drop -/
noncomputable def c26 : Cfg := { P := Try.prog, n := 29, T := TT, body := (Try.f26.body).getD .skip, res := Try.f26.results.toList, li := lk [] [(0, [0, 1]), (1, [0, 3]), (2, []), (3, [0, 3]), (4, [0, 3, 5]), (5, [0, 5])], lo := lk [] [(0, [0, 3]), (1, [0, 3, 7]), (2, [4]), (3, [0, 3, 5]), (4, [0, 5]), (5, [4]), (1000000, [4])], ord := lk (false, []) [] }
@[go_sem] theorem c26_i0 : c26.li 0 = [0, 1] := rfl
@[go_sem] theorem c26_i1 : c26.li 1 = [0, 3] := rfl
@[go_sem] theorem c26_i2 : c26.li 2 = [] := rfl
@[go_sem] theorem c26_i3 : c26.li 3 = [0, 3] := rfl
@[go_sem] theorem c26_i4 : c26.li 4 = [0, 3, 5] := rfl
@[go_sem] theorem c26_i5 : c26.li 5 = [0, 5] := rfl
@[go_sem] theorem c26_r0 (t0 : Option Addr) (txn1 : Int) (K : Env → W) : RP c26 0 [(0, .pointer t0), (1, .int .i64 txn1)] K =
    (nwc #[.int .i64 txn1] 3 fun y1_ => (K [(0, .pointer t0), (3, .pointer (some y1_))])) := by kernel_rfl
@[go_sem] theorem c26_r1 (t0 : Option Addr) (txn3 : Addr) (K : Env → W) : RP c26 1 [(0, .pointer t0), (3, .pointer (some txn3))] K =
    (K [(0, .pointer t0), (3, .pointer (some txn3)), (7, .bool ((t0).isNone))]) := by kernel_rfl
@[go_sem] theorem c26_r2 (K : Env → W) : RP c26 2 [] K =
    (K [(4, .int .i64 ((0 : Int)))]) := by kernel_rfl
@[go_sem] theorem c26_r3 (t0 : Option Addr) (txn3 : Addr) (K : Env → W) : RP c26 3 [(0, .pointer t0), (3, .pointer (some txn3))] K =
    (nn t0 fun y1_ => (ld eSl y1_ fun (y2_ : (Option Addr × Nat × Nat)) => (K [(0, .pointer t0), (3, .pointer (some txn3)), (5, .int .i64 ((y2_.2.1 : Int)))]))) := by kernel_rfl
@[go_sem] theorem c26_r4 (t0 : Option Addr) (txn3 : Addr) (was5 : Int) (K : Env → W) : RP c26 4 [(0, .pointer t0), (3, .pointer (some txn3)), (5, .int .i64 was5)] K =
    (nn t0 fun y1_ => (ld eSl y1_ fun (y2_ : (Option Addr × Nat × Nat)) => (cal eSl Try.prog 68 #[.slice y2_.1 y2_.2.1 y2_.2.2, .func (.func 69) #[] #[.pointer (some txn3)]] fun (y3_ : (Option Addr × Nat × Nat)) => (nn t0 fun y4_ => (st y4_ (.slice y3_.1 y3_.2.1 y3_.2.2) (K [(0, .pointer t0), (5, .int .i64 was5)])))))) := by kernel_rfl
@[go_sem] theorem c26_r5 (t0 : Option Addr) (was5 : Int) (K : Env → W) : RP c26 5 [(0, .pointer t0), (5, .int .i64 was5)] K =
    (nn t0 fun y1_ => (ld eSl y1_ fun (y2_ : (Option Addr × Nat × Nat)) => (K [(4, .int .i64 ((IntKind.wrap .i64 (was5 - (y2_.2.1 : Int)))))]))) := by kernel_rfl
@[go_sem] theorem c26_o : c26.lo 1000000 = [4] := rfl
@[go_sem] theorem c26_e (t4 : Int) (k : Value → W) : RTp c26 [(4, .int .i64 t4)] k = (k (.int .i64 t4)) := by kernel_rfl
theorem c26_ok : (c26.P.follows .mixedOrders && okc c26 c26.body) = true := by kernel_rfl
theorem c26_fn {e : Enc} {args : Array Value} {G : e.α → W} {L : List HP} {ρ : Env} (hρ : envA 0 args.toList = ρ) (hs : Nat.ble args.size 29 = true) (h : E L (D c26 (.seq (.reg 0) (.seq (.seq (.reg 1) (.cond (.tmp 7) (.seq (.reg 2) (.ret)) (.skip))) (.seq (.reg 3) (.seq (.reg 4) (.seq (.reg 5) (.ret)))))) (fnQ c26 e G) ρ)) : E L (cal e Try.prog 26 args G) :=
  d_fn (c := c26) Try.func26 (by kernel_rfl) (by kernel_rfl) (by kernel_rfl) c26_ok (by kernel_rfl) (by kernel_rfl) hρ hs h
/-! gharry.gharrylaw12.ask -/
noncomputable def c27 : Cfg := { P := Try.prog, n := 40, T := TT, body := (Try.f27.body).getD .skip, res := Try.f27.results.toList, li := lk [] [(0, [0, 1]), (1, [0, 3]), (2, [0, 3]), (3, [0, 3, 6]), (4, [0, 3]), (5, [0, 3, 6]), (6, [0, 3])], lo := lk [] [(0, [0, 3]), (1, [0, 3, 6]), (2, [4]), (3, [0, 3, 6, 11]), (4, [4]), (5, [0, 3, 24]), (6, [4]), (1000000, [4])], ord := lk (false, []) [] }
@[go_sem] theorem c27_i0 : c27.li 0 = [0, 1] := rfl
@[go_sem] theorem c27_i1 : c27.li 1 = [0, 3] := rfl
@[go_sem] theorem c27_i2 : c27.li 2 = [0, 3] := rfl
@[go_sem] theorem c27_i3 : c27.li 3 = [0, 3, 6] := rfl
@[go_sem] theorem c27_i4 : c27.li 4 = [0, 3] := rfl
@[go_sem] theorem c27_i5 : c27.li 5 = [0, 3, 6] := rfl
@[go_sem] theorem c27_i6 : c27.li 6 = [0, 3] := rfl
@[go_sem] theorem c27_r0 (t0 : Option Addr) (o1 : gharrylaw12_Op) (K : Env → W) : RP c27 0 [(0, .pointer t0), (1, v_gharrylaw12_Op o1)] K =
    (nwc #[.int .i64 o1.Kind, .int .i64 o1.H.Txn, .int .i64 o1.H.Mode, str o1.H.Lo, str o1.H.Hi, .bool o1.H.Open] 36 fun y1_ => (K [(0, .pointer t0), (3, .pointer (some y1_))])) := by kernel_rfl
@[go_sem] theorem c27_r1 (t0 : Option Addr) (o3 : Addr) (K : Env → W) : RP c27 1 [(0, .pointer t0), (3, .pointer (some o3))] K =
    (ld eI o3 fun (y1_ : Int) => (K [(0, .pointer t0), (3, .pointer (some o3)), (6, .int .i64 y1_)])) := by kernel_rfl
@[go_sem] theorem c27_r2 (t0 : Option Addr) (o3 : Addr) (K : Env → W) : RP c27 2 [(0, .pointer t0), (3, .pointer (some o3))] K =
    (ldn e_lock_Hold 5 ((o3.add 1)) fun (y1_ : lock_Hold) => (cal eI Try.prog 37 #[.pointer t0, v_lock_Hold y1_] fun (y2_ : Int) => (K [(4, .int .i64 y2_)]))) := by kernel_rfl
@[go_sem] theorem c27_r3 (t0 : Option Addr) (o3 : Addr) (t6 : Int) (K : Env → W) : RP c27 3 [(0, .pointer t0), (3, .pointer (some o3)), (6, .int .i64 t6)] K =
    (K [(0, .pointer t0), (3, .pointer (some o3)), (6, .int .i64 t6), (11, .bool ((t6 == (1 : Int))))]) := by kernel_rfl
@[go_sem] theorem c27_r4 (t0 : Option Addr) (o3 : Addr) (K : Env → W) : RP c27 4 [(0, .pointer t0), (3, .pointer (some o3))] K =
    (ld eI ((o3.add 1)) fun (y1_ : Int) => (ld eI ((((o3.add 1)).add 1)) fun (y2_ : Int) => (ld eS ((((o3.add 1)).add 2)) fun (y3_ : List UInt8) => (cal eI Try.prog 38 #[.pointer t0, .int .i64 y1_, .int .i64 y2_, str y3_] fun (y4_ : Int) => (K [(4, .int .i64 y4_)]))))) := by kernel_rfl
@[go_sem] theorem c27_r5 (t0 : Option Addr) (o3 : Addr) (t6 : Int) (K : Env → W) : RP c27 5 [(0, .pointer t0), (3, .pointer (some o3)), (6, .int .i64 t6)] K =
    (K [(0, .pointer t0), (3, .pointer (some o3)), (24, .bool ((t6 == (2 : Int))))]) := by kernel_rfl
@[go_sem] theorem c27_r6 (t0 : Option Addr) (o3 : Addr) (K : Env → W) : RP c27 6 [(0, .pointer t0), (3, .pointer (some o3))] K =
    (ld eI ((o3.add 1)) fun (y1_ : Int) => (ld eI ((((o3.add 1)).add 1)) fun (y2_ : Int) => (ld eS ((((o3.add 1)).add 2)) fun (y3_ : List UInt8) => (ld eS ((((o3.add 1)).add 3)) fun (y4_ : List UInt8) => (cal eI Try.prog 39 #[.pointer t0, .int .i64 y1_, .int .i64 y2_, str y3_, str y4_] fun (y5_ : Int) => (K [(4, .int .i64 y5_)])))))) := by kernel_rfl
@[go_sem] theorem c27_o : c27.lo 1000000 = [4] := rfl
@[go_sem] theorem c27_e (t4 : Int) (k : Value → W) : RTp c27 [(4, .int .i64 t4)] k = (k (.int .i64 t4)) := by kernel_rfl
theorem c27_ok : (c27.P.follows .mixedOrders && okc c27 c27.body) = true := by kernel_rfl
theorem c27_fn {e : Enc} {args : Array Value} {G : e.α → W} {L : List HP} {ρ : Env} (hρ : envA 0 args.toList = ρ) (hs : Nat.ble args.size 40 = true) (h : E L (D c27 (.seq (.reg 0) (.seq (.reg 1) (.block 0 (.seq (.reg 3) (.cond (.tmp 11) (.seq (.reg 4) (.ret)) (.seq (.reg 5) (.cond (.tmp 24) (.seq (.reg 6) (.ret)) (.seq (.reg 2) (.ret))))))))) (fnQ c27 e G) ρ)) : E L (cal e Try.prog 27 args G) :=
  d_fn (c := c27) Try.func27 (by kernel_rfl) (by kernel_rfl) (by kernel_rfl) c27_ok (by kernel_rfl) (by kernel_rfl) hρ hs h
/-! (*gharry.lock.Table).Has -/
noncomputable def c28 : Cfg := { P := Try.prog, n := 13, T := TT, body := (Try.f28.body).getD .skip, res := Try.f28.results.toList, li := lk [] [(0, [0, 1]), (1, [0, 3]), (2, []), (3, [0, 3])], lo := lk [] [(0, [0, 3]), (1, [0, 3, 6]), (2, [4]), (3, [4]), (1000000, [4])], ord := lk (false, []) [] }
@[go_sem] theorem c28_i0 : c28.li 0 = [0, 1] := rfl
@[go_sem] theorem c28_i1 : c28.li 1 = [0, 3] := rfl
@[go_sem] theorem c28_i2 : c28.li 2 = [] := rfl
@[go_sem] theorem c28_i3 : c28.li 3 = [0, 3] := rfl
@[go_sem] theorem c28_r0 (t0 : Option Addr) (h1 : lock_Hold) (K : Env → W) : RP c28 0 [(0, .pointer t0), (1, v_lock_Hold h1)] K =
    (nwc #[.int .i64 h1.Txn, .int .i64 h1.Mode, str h1.Lo, str h1.Hi, .bool h1.Open] 27 fun y1_ => (K [(0, .pointer t0), (3, .pointer (some y1_))])) := by kernel_rfl
@[go_sem] theorem c28_r1 (t0 : Option Addr) (h3 : Addr) (K : Env → W) : RP c28 1 [(0, .pointer t0), (3, .pointer (some h3))] K =
    (K [(0, .pointer t0), (3, .pointer (some h3)), (6, .bool ((t0).isNone))]) := by kernel_rfl
@[go_sem] theorem c28_r2 (K : Env → W) : RP c28 2 [] K =
    (K [(4, .bool false)]) := by kernel_rfl
@[go_sem] theorem c28_r3 (t0 : Option Addr) (h3 : Addr) (K : Env → W) : RP c28 3 [(0, .pointer t0), (3, .pointer (some h3))] K =
    (nn t0 fun y1_ => (ld eSl y1_ fun (y2_ : (Option Addr × Nat × Nat)) => (cal eB Try.prog 70 #[.slice y2_.1 y2_.2.1 y2_.2.2, .func (.func 71) #[] #[.pointer (some h3)]] fun (y3_ : Bool) => (K [(4, .bool y3_)])))) := by kernel_rfl
@[go_sem] theorem c28_o : c28.lo 1000000 = [4] := rfl
@[go_sem] theorem c28_e (t4 : Bool) (k : Value → W) : RTp c28 [(4, .bool t4)] k = (k (.bool t4)) := by kernel_rfl
theorem c28_ok : (c28.P.follows .mixedOrders && okc c28 c28.body) = true := by kernel_rfl
theorem c28_fn {e : Enc} {args : Array Value} {G : e.α → W} {L : List HP} {ρ : Env} (hρ : envA 0 args.toList = ρ) (hs : Nat.ble args.size 13 = true) (h : E L (D c28 (.seq (.reg 0) (.seq (.seq (.reg 1) (.cond (.tmp 6) (.seq (.reg 2) (.ret)) (.skip))) (.seq (.reg 3) (.ret)))) (fnQ c28 e G) ρ)) : E L (cal e Try.prog 28 args G) :=
  d_fn (c := c28) Try.func28 (by kernel_rfl) (by kernel_rfl) (by kernel_rfl) c28_ok (by kernel_rfl) (by kernel_rfl) hρ hs h
/-! gharry.gharrylaw12.asked -/
noncomputable def c29 : Cfg := { P := Try.prog, n := 34, T := TT, body := (Try.f29.body).getD .skip, res := Try.f29.results.toList, li := lk [] [(0, [0]), (1, [1, 2]), (2, [1, 2, 3]), (3, [2, 3]), (4, [1, 2, 3]), (5, [2, 3]), (6, [2, 3])], lo := lk [] [(0, [1, 2]), (1, [1, 2, 3]), (2, [1, 2, 3, 8]), (3, [2]), (4, [2, 3, 20]), (5, [2]), (6, [2]), (1000000, [2])], ord := lk (false, []) [] }
@[go_sem] theorem c29_i0 : c29.li 0 = [0] := rfl
@[go_sem] theorem c29_i1 : c29.li 1 = [1, 2] := rfl
@[go_sem] theorem c29_i2 : c29.li 2 = [1, 2, 3] := rfl
@[go_sem] theorem c29_i3 : c29.li 3 = [2, 3] := rfl
@[go_sem] theorem c29_i4 : c29.li 4 = [1, 2, 3] := rfl
@[go_sem] theorem c29_i5 : c29.li 5 = [2, 3] := rfl
@[go_sem] theorem c29_i6 : c29.li 6 = [2, 3] := rfl
@[go_sem] theorem c29_r0 (o0 : gharrylaw12_Op) (K : Env → W) : RP c29 0 [(0, v_gharrylaw12_Op o0)] K =
    (nwc #[.int .i64 o0.Kind, .int .i64 o0.H.Txn, .int .i64 o0.H.Mode, str o0.H.Lo, str o0.H.Hi, .bool o0.H.Open] 36 fun y1_ => (nwc #[.int .i64 (((⟨(0 : Int), (0 : Int), ([] : List UInt8), ([] : List UInt8), false⟩ : lock_Hold)).Txn), .int .i64 (((⟨(0 : Int), (0 : Int), ([] : List UInt8), ([] : List UInt8), false⟩ : lock_Hold)).Mode), str (((⟨(0 : Int), (0 : Int), ([] : List UInt8), ([] : List UInt8), false⟩ : lock_Hold)).Lo), str (((⟨(0 : Int), (0 : Int), ([] : List UInt8), ([] : List UInt8), false⟩ : lock_Hold)).Hi), .bool (((⟨(0 : Int), (0 : Int), ([] : List UInt8), ([] : List UInt8), false⟩ : lock_Hold)).Open)] 27 fun y2_ => (K [(1, .pointer (some y1_)), (2, .pointer (some y2_))]))) := by kernel_rfl
@[go_sem] theorem c29_r1 (o1 : Addr) (t2 : Addr) (K : Env → W) : RP c29 1 [(1, .pointer (some o1)), (2, .pointer (some t2))] K =
    (ldn e_lock_Hold 5 ((o1.add 1)) fun (y1_ : lock_Hold) => (nwc #[.int .i64 (((⟨(0 : Int), (0 : Int), ([] : List UInt8), ([] : List UInt8), false⟩ : lock_Hold)).Txn), .int .i64 (((⟨(0 : Int), (0 : Int), ([] : List UInt8), ([] : List UInt8), false⟩ : lock_Hold)).Mode), str (((⟨(0 : Int), (0 : Int), ([] : List UInt8), ([] : List UInt8), false⟩ : lock_Hold)).Lo), str (((⟨(0 : Int), (0 : Int), ([] : List UInt8), ([] : List UInt8), false⟩ : lock_Hold)).Hi), .bool (((⟨(0 : Int), (0 : Int), ([] : List UInt8), ([] : List UInt8), false⟩ : lock_Hold)).Open)] 27 fun y2_ => (stl [.int .i64 y1_.Txn, .int .i64 y1_.Mode, str y1_.Lo, str y1_.Hi, .bool y1_.Open] y2_ 0 (K [(1, .pointer (some o1)), (2, .pointer (some t2)), (3, .pointer (some y2_))])))) := by kernel_rfl
@[go_sem] theorem c29_r2 (o1 : Addr) (t2 : Addr) (h3 : Addr) (K : Env → W) : RP c29 2 [(1, .pointer (some o1)), (2, .pointer (some t2)), (3, .pointer (some h3))] K =
    (ld eI o1 fun (y1_ : Int) => (K [(1, .pointer (some o1)), (2, .pointer (some t2)), (3, .pointer (some h3)), (8, .bool ((y1_ == (1 : Int))))])) := by kernel_rfl
@[go_sem] theorem c29_r3 (t2 : Addr) (h3 : Addr) (K : Env → W) : RP c29 3 [(2, .pointer (some t2)), (3, .pointer (some h3))] K =
    (ld eI h3 fun (y1_ : Int) => (ld eI ((h3.add 1)) fun (y2_ : Int) => (ld eS ((h3.add 2)) fun (y3_ : List UInt8) => (ld eS ((h3.add 2)) fun (y4_ : List UInt8) => (stl [.int .i64 (((⟨y1_, y2_, y3_, y4_, false⟩ : lock_Hold)).Txn), .int .i64 (((⟨y1_, y2_, y3_, y4_, false⟩ : lock_Hold)).Mode), str (((⟨y1_, y2_, y3_, y4_, false⟩ : lock_Hold)).Lo), str (((⟨y1_, y2_, y3_, y4_, false⟩ : lock_Hold)).Hi), .bool (((⟨y1_, y2_, y3_, y4_, false⟩ : lock_Hold)).Open)] t2 0 (K [(2, .pointer (some t2))])))))) := by kernel_rfl
@[go_sem] theorem c29_r4 (o1 : Addr) (t2 : Addr) (h3 : Addr) (K : Env → W) : RP c29 4 [(1, .pointer (some o1)), (2, .pointer (some t2)), (3, .pointer (some h3))] K =
    (ld eI o1 fun (y1_ : Int) => (K [(2, .pointer (some t2)), (3, .pointer (some h3)), (20, .bool ((y1_ == (2 : Int))))])) := by kernel_rfl
@[go_sem] theorem c29_r5 (t2 : Addr) (h3 : Addr) (K : Env → W) : RP c29 5 [(2, .pointer (some t2)), (3, .pointer (some h3))] K =
    (ld eI h3 fun (y1_ : Int) => (ld eI ((h3.add 1)) fun (y2_ : Int) => (ld eS ((h3.add 2)) fun (y3_ : List UInt8) => (ld eS ((h3.add 3)) fun (y4_ : List UInt8) => (ld eS ((h3.add 3)) fun (y5_ : List UInt8) => (stl [.int .i64 (((⟨y1_, y2_, y3_, y4_, (y5_ == ([] : List UInt8))⟩ : lock_Hold)).Txn), .int .i64 (((⟨y1_, y2_, y3_, y4_, (y5_ == ([] : List UInt8))⟩ : lock_Hold)).Mode), str (((⟨y1_, y2_, y3_, y4_, (y5_ == ([] : List UInt8))⟩ : lock_Hold)).Lo), str (((⟨y1_, y2_, y3_, y4_, (y5_ == ([] : List UInt8))⟩ : lock_Hold)).Hi), .bool (((⟨y1_, y2_, y3_, y4_, (y5_ == ([] : List UInt8))⟩ : lock_Hold)).Open)] t2 0 (K [(2, .pointer (some t2))]))))))) := by kernel_rfl
@[go_sem] theorem c29_r6 (t2 : Addr) (h3 : Addr) (K : Env → W) : RP c29 6 [(2, .pointer (some t2)), (3, .pointer (some h3))] K =
    (ldn e_lock_Hold 5 h3 fun (y1_ : lock_Hold) => (stl [.int .i64 y1_.Txn, .int .i64 y1_.Mode, str y1_.Lo, str y1_.Hi, .bool y1_.Open] t2 0 (K [(2, .pointer (some t2))]))) := by kernel_rfl
@[go_sem] theorem c29_o : c29.lo 1000000 = [2] := rfl
@[go_sem] theorem c29_e (t2 : Addr) (k : Value → W) : RTp c29 [(2, .pointer (some t2))] k = (ldn e_lock_Hold 5 t2 fun (y1_ : lock_Hold) => (k (v_lock_Hold y1_))) := by kernel_rfl
theorem c29_ok : (c29.P.follows .mixedOrders && okc c29 c29.body) = true := by kernel_rfl
theorem c29_fn {e : Enc} {args : Array Value} {G : e.α → W} {L : List HP} {ρ : Env} (hρ : envA 0 args.toList = ρ) (hs : Nat.ble args.size 34 = true) (h : E L (D c29 (.seq (.reg 0) (.seq (.reg 1) (.seq (.seq (.reg 2) (.cond (.tmp 8) (.seq (.reg 3) (.ret)) (.skip))) (.seq (.seq (.reg 4) (.cond (.tmp 20) (.seq (.reg 5) (.ret)) (.skip))) (.seq (.reg 6) (.ret)))))) (fnQ c29 e G) ρ)) : E L (cal e Try.prog 29 args G) :=
  d_fn (c := c29) Try.func29 (by kernel_rfl) (by kernel_rfl) (by kernel_rfl) c29_ok (by kernel_rfl) (by kernel_rfl) hρ hs h
/-! (*gharry.lock.Table).All -/
noncomputable def c30 : Cfg := { P := Try.prog, n := 10, T := TT, body := (Try.f30.body).getD .skip, res := Try.f30.results.toList, li := lk [] [(0, [0]), (1, [0]), (2, []), (3, [0])], lo := lk [] [(0, [0]), (1, [0, 4]), (2, [2]), (3, [2]), (1000000, [2])], ord := lk (false, []) [] }
@[go_sem] theorem c30_i0 : c30.li 0 = [0] := rfl
@[go_sem] theorem c30_i1 : c30.li 1 = [0] := rfl
@[go_sem] theorem c30_i2 : c30.li 2 = [] := rfl
@[go_sem] theorem c30_i3 : c30.li 3 = [0] := rfl
@[go_sem] theorem c30_r0 (t0 : Option Addr) (K : Env → W) : RP c30 0 [(0, .pointer t0)] K =
    (K [(0, .pointer t0)]) := by kernel_rfl
@[go_sem] theorem c30_r1 (t0 : Option Addr) (K : Env → W) : RP c30 1 [(0, .pointer t0)] K =
    (K [(0, .pointer t0), (4, .bool ((t0).isNone))]) := by kernel_rfl
@[go_sem] theorem c30_r2 (K : Env → W) : RP c30 2 [] K =
    (K [(2, .slice none 0 0)]) := by kernel_rfl
@[go_sem] theorem c30_r3 (t0 : Option Addr) (K : Env → W) : RP c30 3 [(0, .pointer t0)] K =
    (nn t0 fun y1_ => (ld eSl y1_ fun (y2_ : (Option Addr × Nat × Nat)) => (cal eSl Try.prog 73 #[.slice y2_.1 y2_.2.1 y2_.2.2] fun (y3_ : (Option Addr × Nat × Nat)) => (K [(2, .slice y3_.1 y3_.2.1 y3_.2.2)])))) := by kernel_rfl
@[go_sem] theorem c30_o : c30.lo 1000000 = [2] := rfl
@[go_sem] theorem c30_e (t2p : Option Addr) (t2n t2c : Nat) (k : Value → W) : RTp c30 [(2, .slice t2p t2n t2c)] k = (k (.slice t2p t2n t2c)) := by kernel_rfl
theorem c30_ok : (c30.P.follows .mixedOrders && okc c30 c30.body) = true := by kernel_rfl
theorem c30_fn {e : Enc} {args : Array Value} {G : e.α → W} {L : List HP} {ρ : Env} (hρ : envA 0 args.toList = ρ) (hs : Nat.ble args.size 10 = true) (h : E L (D c30 (.seq (.reg 0) (.seq (.seq (.reg 1) (.cond (.tmp 4) (.seq (.reg 2) (.ret)) (.skip))) (.seq (.reg 3) (.ret)))) (fnQ c30 e G) ρ)) : E L (cal e Try.prog 30 args G) :=
  d_fn (c := c30) Try.func30 (by kernel_rfl) (by kernel_rfl) (by kernel_rfl) c30_ok (by kernel_rfl) (by kernel_rfl) hρ hs h
/-! gharry.gharrylaw12.without -/
noncomputable def c31 : Cfg := { P := Try.prog, n := 28, T := TT, body := (Try.f31.body).getD .skip, res := Try.f31.results.toList, li := lk [] [(0, [0, 1]), (1, [0, 1]), (2, [0, 1, 5]), (3, [0, 1, 5, 6]), (4, [0, 1, 5, 6]), (5, [0, 1, 5, 6]), (6, [0, 1, 5, 6]), (7, [5])], lo := lk [] [(0, [0, 1]), (1, [0, 1, 5]), (2, [0, 1, 5, 6]), (3, [0, 1, 5, 6, 10]), (4, [0, 1, 5, 6]), (5, [0, 1, 5, 6, 19]), (6, [0, 1, 5, 6]), (7, [4]), (1000000, [4])], ord := lk (false, []) [] }
@[go_sem] theorem c31_i0 : c31.li 0 = [0, 1] := rfl
@[go_sem] theorem c31_i1 : c31.li 1 = [0, 1] := rfl
@[go_sem] theorem c31_i2 : c31.li 2 = [0, 1, 5] := rfl
@[go_sem] theorem c31_i3 : c31.li 3 = [0, 1, 5, 6] := rfl
@[go_sem] theorem c31_i4 : c31.li 4 = [0, 1, 5, 6] := rfl
@[go_sem] theorem c31_i5 : c31.li 5 = [0, 1, 5, 6] := rfl
@[go_sem] theorem c31_i6 : c31.li 6 = [0, 1, 5, 6] := rfl
@[go_sem] theorem c31_i7 : c31.li 7 = [5] := rfl
@[go_sem] theorem c31_r0 (l0p : Option Addr) (l0n l0c : Nat) (txn1 : Int) (K : Env → W) : RP c31 0 [(0, .slice l0p l0n l0c), (1, .int .i64 txn1)] K =
    (K [(0, .slice l0p l0n l0c), (1, .int .i64 txn1)]) := by kernel_rfl
@[go_sem] theorem c31_r1 (l0p : Option Addr) (l0n l0c : Nat) (txn1 : Int) (K : Env → W) : RP c31 1 [(0, .slice l0p l0n l0c), (1, .int .i64 txn1)] K =
    (K [(0, .slice l0p l0n l0c), (1, .int .i64 txn1), (5, .slice none 0 0)]) := by kernel_rfl
@[go_sem] theorem c31_r2 (l0p : Option Addr) (l0n l0c : Nat) (txn1 : Int) (out5p : Option Addr) (out5n out5c : Nat) (K : Env → W) : RP c31 2 [(0, .slice l0p l0n l0c), (1, .int .i64 txn1), (5, .slice out5p out5n out5c)] K =
    (K [(0, .slice l0p l0n l0c), (1, .int .i64 txn1), (5, .slice out5p out5n out5c), (6, .int .i64 ((0 : Int)))]) := by kernel_rfl
@[go_sem] theorem c31_r3 (l0p : Option Addr) (l0n l0c : Nat) (txn1 : Int) (out5p : Option Addr) (out5n out5c : Nat) (i6 : Int) (K : Env → W) : RP c31 3 [(0, .slice l0p l0n l0c), (1, .int .i64 txn1), (5, .slice out5p out5n out5c), (6, .int .i64 i6)] K =
    (K [(0, .slice l0p l0n l0c), (1, .int .i64 txn1), (5, .slice out5p out5n out5c), (6, .int .i64 i6), (10, .bool ((decide (i6 < (l0n : Int)))))]) := by kernel_rfl
@[go_sem] theorem c31_r4 (l0p : Option Addr) (l0n l0c : Nat) (txn1 : Int) (out5p : Option Addr) (out5n out5c : Nat) (i6 : Int) (K : Env → W) : RP c31 4 [(0, .slice l0p l0n l0c), (1, .int .i64 txn1), (5, .slice out5p out5n out5c), (6, .int .i64 i6)] K =
    (K [(0, .slice l0p l0n l0c), (1, .int .i64 txn1), (5, .slice out5p out5n out5c), (6, .int .i64 ((IntKind.wrap .i64 (i6 + (1 : Int)))))]) := by kernel_rfl
@[go_sem] theorem c31_r5 (l0p : Option Addr) (l0n l0c : Nat) (txn1 : Int) (out5p : Option Addr) (out5n out5c : Nat) (i6 : Int) (K : Env → W) : RP c31 5 [(0, .slice l0p l0n l0c), (1, .int .i64 txn1), (5, .slice out5p out5n out5c), (6, .int .i64 i6)] K =
    (rq (0 ≤ i6 ∧ i6 < (l0n : Int)) (nn l0p fun y1_ => (ld eI ((Addr.add y1_ ((i6).toNat * 5))) fun (y2_ : Int) => (K [(0, .slice l0p l0n l0c), (1, .int .i64 txn1), (5, .slice out5p out5n out5c), (6, .int .i64 i6), (19, .bool ((y2_ != txn1)))])))) := by kernel_rfl
@[go_sem] theorem c31_r6 (l0p : Option Addr) (l0n l0c : Nat) (txn1 : Int) (out5p : Option Addr) (out5n out5c : Nat) (i6 : Int) (K : Env → W) : RP c31 6 [(0, .slice l0p l0n l0c), (1, .int .i64 txn1), (5, .slice out5p out5n out5c), (6, .int .i64 i6)] K =
    (rq (0 ≤ i6 ∧ i6 < (l0n : Int)) (nn l0p fun y1_ => (ldn e_lock_Hold 5 ((Addr.add y1_ ((i6).toNat * 5))) fun (y2_ : lock_Hold) => (nwc #[.int .i64 y2_.Txn, .int .i64 y2_.Mode, str y2_.Lo, str y2_.Hi, .bool y2_.Open] 27 fun y3_ => (val eSl Try.prog (oB_append #[41, 41] 41 #[.slice out5p out5n out5c, .slice ((some y3_)) 1 1]) fun (y4_ : (Option Addr × Nat × Nat)) => (K [(0, .slice l0p l0n l0c), (1, .int .i64 txn1), (5, .slice y4_.1 y4_.2.1 y4_.2.2), (6, .int .i64 i6)])))))) := by kernel_rfl
@[go_sem] theorem c31_r7 (out5p : Option Addr) (out5n out5c : Nat) (K : Env → W) : RP c31 7 [(5, .slice out5p out5n out5c)] K =
    (K [(4, .slice out5p out5n out5c)]) := by kernel_rfl
@[go_sem] theorem c31_o : c31.lo 1000000 = [4] := rfl
@[go_sem] theorem c31_e (t4p : Option Addr) (t4n t4c : Nat) (k : Value → W) : RTp c31 [(4, .slice t4p t4n t4c)] k = (k (.slice t4p t4n t4c)) := by kernel_rfl
theorem c31_ok : (c31.P.follows .mixedOrders && okc c31 c31.body) = true := by kernel_rfl
theorem c31_fn {e : Enc} {args : Array Value} {G : e.α → W} {L : List HP} {ρ : Env} (hρ : envA 0 args.toList = ρ) (hs : Nat.ble args.size 28 = true) (h : E L (D c31 (.seq (.reg 0) (.seq (.reg 1) (.seq (.seq (.reg 2) (.block 0 (.loop (.seq (.seq (.reg 3) (.cond (.tmp 10) (.skip) (.exit 0))) (.seq (.block 1 (.seq (.reg 5) (.cond (.tmp 19) (.reg 6) (.skip)))) (.reg 4)))))) (.seq (.reg 7) (.ret))))) (fnQ c31 e G) ρ)) : E L (cal e Try.prog 31 args G) :=
  d_fn (c := c31) Try.func31 (by kernel_rfl) (by kernel_rfl) (by kernel_rfl) c31_ok (by kernel_rfl) (by kernel_rfl) hρ hs h
-- loop (first region 3): live slots 0:l0 1:txn1 5:out5 6:i6, of which it writes [5, 6]
/-! gharry.gharrylaw12.who -/
noncomputable def c32 : Cfg := { P := Try.prog, n := 53, T := TT, body := (Try.f32.body).getD .skip, res := Try.f32.results.toList, li := lk [] [(0, [0, 1]), (1, [0, 3]), (2, [0, 3, 5]), (3, [0, 3, 5, 6]), (4, [0, 3, 5, 6]), (5, [0, 3, 5, 6]), (6, [0, 3, 5, 6, 7]), (7, [0, 3, 5, 6, 7, 8]), (8, [0, 3, 5, 6, 7, 8]), (9, [0, 3, 5, 6, 7, 8]), (10, [0, 3, 5, 6, 7]), (11, [0, 3, 5, 6]), (12, [5])], lo := lk [] [(0, [0, 3]), (1, [0, 3, 5]), (2, [0, 3, 5, 6]), (3, [0, 3, 5, 6, 12]), (4, [0, 3, 5, 6]), (5, [0, 3, 5, 6, 7]), (6, [0, 3, 5, 6, 7, 8]), (7, [0, 3, 5, 6, 7, 8, 18]), (8, [0, 3, 5, 6, 7, 8]), (9, [0, 3, 5, 6, 7, 8]), (10, [0, 3, 5, 6, 43]), (11, [0, 3, 5, 6]), (12, [4]), (1000000, [4])], ord := lk (false, []) [(9, (true, [(0, 1), (1, 1), (2, 1), (3, 1), (4, 1), (5, 0), (6, 1), (7, 1), (8, 1), (9, 1), (10, 0), (11, 1), (12, 1), (13, 1)])), (10, (true, [(0, 1), (1, 1), (2, 1), (3, 1), (4, 1), (5, 1), (6, 0), (7, 0), (8, 4), (9, 1)]))] }
@[go_sem] theorem c32_i0 : c32.li 0 = [0, 1] := rfl
@[go_sem] theorem c32_i1 : c32.li 1 = [0, 3] := rfl
@[go_sem] theorem c32_i2 : c32.li 2 = [0, 3, 5] := rfl
@[go_sem] theorem c32_i3 : c32.li 3 = [0, 3, 5, 6] := rfl
@[go_sem] theorem c32_i4 : c32.li 4 = [0, 3, 5, 6] := rfl
@[go_sem] theorem c32_i5 : c32.li 5 = [0, 3, 5, 6] := rfl
@[go_sem] theorem c32_i6 : c32.li 6 = [0, 3, 5, 6, 7] := rfl
@[go_sem] theorem c32_i7 : c32.li 7 = [0, 3, 5, 6, 7, 8] := rfl
@[go_sem] theorem c32_i8 : c32.li 8 = [0, 3, 5, 6, 7, 8] := rfl
@[go_sem] theorem c32_i9 : c32.li 9 = [0, 3, 5, 6, 7, 8] := rfl
@[go_sem] theorem c32_i10 : c32.li 10 = [0, 3, 5, 6, 7] := rfl
@[go_sem] theorem c32_i11 : c32.li 11 = [0, 3, 5, 6] := rfl
@[go_sem] theorem c32_i12 : c32.li 12 = [5] := rfl
@[go_sem] theorem c32_r0 (l0p : Option Addr) (l0n l0c : Nat) (h1 : lock_Hold) (K : Env → W) : RP c32 0 [(0, .slice l0p l0n l0c), (1, v_lock_Hold h1)] K =
    (nwc #[.int .i64 h1.Txn, .int .i64 h1.Mode, str h1.Lo, str h1.Hi, .bool h1.Open] 27 fun y1_ => (K [(0, .slice l0p l0n l0c), (3, .pointer (some y1_))])) := by kernel_rfl
@[go_sem] theorem c32_r1 (l0p : Option Addr) (l0n l0c : Nat) (h3 : Addr) (K : Env → W) : RP c32 1 [(0, .slice l0p l0n l0c), (3, .pointer (some h3))] K =
    (K [(0, .slice l0p l0n l0c), (3, .pointer (some h3)), (5, .slice none 0 0)]) := by kernel_rfl
@[go_sem] theorem c32_r2 (l0p : Option Addr) (l0n l0c : Nat) (h3 : Addr) (out5p : Option Addr) (out5n out5c : Nat) (K : Env → W) : RP c32 2 [(0, .slice l0p l0n l0c), (3, .pointer (some h3)), (5, .slice out5p out5n out5c)] K =
    (K [(0, .slice l0p l0n l0c), (3, .pointer (some h3)), (5, .slice out5p out5n out5c), (6, .int .i64 ((0 : Int)))]) := by kernel_rfl
@[go_sem] theorem c32_r3 (l0p : Option Addr) (l0n l0c : Nat) (h3 : Addr) (out5p : Option Addr) (out5n out5c : Nat) (i6 : Int) (K : Env → W) : RP c32 3 [(0, .slice l0p l0n l0c), (3, .pointer (some h3)), (5, .slice out5p out5n out5c), (6, .int .i64 i6)] K =
    (K [(0, .slice l0p l0n l0c), (3, .pointer (some h3)), (5, .slice out5p out5n out5c), (6, .int .i64 i6), (12, .bool ((decide (i6 < (l0n : Int)))))]) := by kernel_rfl
@[go_sem] theorem c32_r4 (l0p : Option Addr) (l0n l0c : Nat) (h3 : Addr) (out5p : Option Addr) (out5n out5c : Nat) (i6 : Int) (K : Env → W) : RP c32 4 [(0, .slice l0p l0n l0c), (3, .pointer (some h3)), (5, .slice out5p out5n out5c), (6, .int .i64 i6)] K =
    (K [(0, .slice l0p l0n l0c), (3, .pointer (some h3)), (5, .slice out5p out5n out5c), (6, .int .i64 ((IntKind.wrap .i64 (i6 + (1 : Int)))))]) := by kernel_rfl
@[go_sem] theorem c32_r5 (l0p : Option Addr) (l0n l0c : Nat) (h3 : Addr) (out5p : Option Addr) (out5n out5c : Nat) (i6 : Int) (K : Env → W) : RP c32 5 [(0, .slice l0p l0n l0c), (3, .pointer (some h3)), (5, .slice out5p out5n out5c), (6, .int .i64 i6)] K =
    (K [(0, .slice l0p l0n l0c), (3, .pointer (some h3)), (5, .slice out5p out5n out5c), (6, .int .i64 i6), (7, .bool false)]) := by kernel_rfl
@[go_sem] theorem c32_r6 (l0p : Option Addr) (l0n l0c : Nat) (h3 : Addr) (out5p : Option Addr) (out5n out5c : Nat) (i6 : Int) (is7 : Bool) (K : Env → W) : RP c32 6 [(0, .slice l0p l0n l0c), (3, .pointer (some h3)), (5, .slice out5p out5n out5c), (6, .int .i64 i6), (7, .bool is7)] K =
    (K [(0, .slice l0p l0n l0c), (3, .pointer (some h3)), (5, .slice out5p out5n out5c), (6, .int .i64 i6), (7, .bool is7), (8, .int .i64 ((0 : Int)))]) := by kernel_rfl
@[go_sem] theorem c32_r7 (l0p : Option Addr) (l0n l0c : Nat) (h3 : Addr) (out5p : Option Addr) (out5n out5c : Nat) (i6 : Int) (is7 : Bool) (k8 : Int) (K : Env → W) : RP c32 7 [(0, .slice l0p l0n l0c), (3, .pointer (some h3)), (5, .slice out5p out5n out5c), (6, .int .i64 i6), (7, .bool is7), (8, .int .i64 k8)] K =
    (K [(0, .slice l0p l0n l0c), (3, .pointer (some h3)), (5, .slice out5p out5n out5c), (6, .int .i64 i6), (7, .bool is7), (8, .int .i64 k8), (18, .bool ((decide (k8 < (out5n : Int)))))]) := by kernel_rfl
@[go_sem] theorem c32_r8 (l0p : Option Addr) (l0n l0c : Nat) (h3 : Addr) (out5p : Option Addr) (out5n out5c : Nat) (i6 : Int) (is7 : Bool) (k8 : Int) (K : Env → W) : RP c32 8 [(0, .slice l0p l0n l0c), (3, .pointer (some h3)), (5, .slice out5p out5n out5c), (6, .int .i64 i6), (7, .bool is7), (8, .int .i64 k8)] K =
    (K [(0, .slice l0p l0n l0c), (3, .pointer (some h3)), (5, .slice out5p out5n out5c), (6, .int .i64 i6), (7, .bool is7), (8, .int .i64 ((IntKind.wrap .i64 (k8 + (1 : Int)))))]) := by kernel_rfl
@[go_sem] theorem c32_r9 (l0p : Option Addr) (l0n l0c : Nat) (h3 : Addr) (out5p : Option Addr) (out5n out5c : Nat) (i6 : Int) (is7 : Bool) (k8 : Int) (K : Env → W) : RP c32 9 [(0, .slice l0p l0n l0c), (3, .pointer (some h3)), (5, .slice out5p out5n out5c), (6, .int .i64 i6), (7, .bool is7), (8, .int .i64 k8)] K =
    (ph fun S0 => (cnd is7 (K [(0, .slice l0p l0n l0c), (3, .pointer (some h3)), (5, .slice out5p out5n out5c), (6, .int .i64 i6), (7, .bool true), (8, .int .i64 k8)]) (rq (0 ≤ k8 ∧ k8 < (out5n : Int)) (nn out5p fun y1_ => (ldq S0 eI ((Addr.add y1_ ((k8).toNat * 1))) fun (y2_ : Int) => (rq (0 ≤ i6 ∧ i6 < (l0n : Int)) (nn l0p fun y3_ => (ldq S0 eI ((Addr.add y3_ ((i6).toNat * 5))) fun (y4_ : Int) => (K [(0, .slice l0p l0n l0c), (3, .pointer (some h3)), (5, .slice out5p out5n out5c), (6, .int .i64 i6), (7, .bool ((y2_ == y4_))), (8, .int .i64 k8)]))))))))) := by kernel_rfl
@[go_sem] theorem c32_r10 (l0p : Option Addr) (l0n l0c : Nat) (h3 : Addr) (out5p : Option Addr) (out5n out5c : Nat) (i6 : Int) (is7 : Bool) (K : Env → W) : RP c32 10 [(0, .slice l0p l0n l0c), (3, .pointer (some h3)), (5, .slice out5p out5n out5c), (6, .int .i64 i6), (7, .bool is7)] K =
    (ph fun S0 => (cnd ((!is7)) (rq (0 ≤ i6 ∧ i6 < (l0n : Int)) (nn l0p fun y1_ => (ldnq S0 e_lock_Hold 5 ((Addr.add y1_ ((i6).toNat * 5))) fun (y2_ : lock_Hold) => (ldnq S0 e_lock_Hold 5 h3 fun (y3_ : lock_Hold) => (cal eB Try.prog 23 #[v_lock_Hold y2_, v_lock_Hold y3_] fun (y4_ : Bool) => (K [(0, .slice l0p l0n l0c), (3, .pointer (some h3)), (5, .slice out5p out5n out5c), (6, .int .i64 i6), (43, .bool y4_)])))))) (K [(0, .slice l0p l0n l0c), (3, .pointer (some h3)), (5, .slice out5p out5n out5c), (6, .int .i64 i6), (43, .bool false)]))) := by kernel_rfl
@[go_sem] theorem c32_r11 (l0p : Option Addr) (l0n l0c : Nat) (h3 : Addr) (out5p : Option Addr) (out5n out5c : Nat) (i6 : Int) (K : Env → W) : RP c32 11 [(0, .slice l0p l0n l0c), (3, .pointer (some h3)), (5, .slice out5p out5n out5c), (6, .int .i64 i6)] K =
    (rq (0 ≤ i6 ∧ i6 < (l0n : Int)) (nn l0p fun y1_ => (ld eI ((Addr.add y1_ ((i6).toNat * 5))) fun (y2_ : Int) => (nwc #[.int .i64 y2_] 3 fun y3_ => (val eSl Try.prog (oB_append #[45, 45] 45 #[.slice out5p out5n out5c, .slice ((some y3_)) 1 1]) fun (y4_ : (Option Addr × Nat × Nat)) => (K [(0, .slice l0p l0n l0c), (3, .pointer (some h3)), (5, .slice y4_.1 y4_.2.1 y4_.2.2), (6, .int .i64 i6)])))))) := by kernel_rfl
@[go_sem] theorem c32_r12 (out5p : Option Addr) (out5n out5c : Nat) (K : Env → W) : RP c32 12 [(5, .slice out5p out5n out5c)] K =
    (K [(4, .slice out5p out5n out5c)]) := by kernel_rfl
@[go_sem] theorem c32_o : c32.lo 1000000 = [4] := rfl
@[go_sem] theorem c32_e (t4p : Option Addr) (t4n t4c : Nat) (k : Value → W) : RTp c32 [(4, .slice t4p t4n t4c)] k = (k (.slice t4p t4n t4c)) := by kernel_rfl
theorem c32_ok : (c32.P.follows .mixedOrders && okc c32 c32.body) = true := by kernel_rfl
theorem c32_fn {e : Enc} {args : Array Value} {G : e.α → W} {L : List HP} {ρ : Env} (hρ : envA 0 args.toList = ρ) (hs : Nat.ble args.size 53 = true) (h : E L (D c32 (.seq (.reg 0) (.seq (.reg 1) (.seq (.seq (.reg 2) (.block 0 (.loop (.seq (.seq (.reg 3) (.cond (.tmp 12) (.skip) (.exit 0))) (.seq (.block 1 (.seq (.reg 5) (.seq (.seq (.reg 6) (.block 2 (.loop (.seq (.seq (.reg 7) (.cond (.tmp 18) (.skip) (.exit 2))) (.seq (.block 3 (.reg 9)) (.reg 8)))))) (.seq (.reg 10) (.cond (.tmp 43) (.reg 11) (.skip)))))) (.reg 4)))))) (.seq (.reg 12) (.ret))))) (fnQ c32 e G) ρ)) : E L (cal e Try.prog 32 args G) :=
  d_fn (c := c32) Try.func32 (by kernel_rfl) (by kernel_rfl) (by kernel_rfl) c32_ok (by kernel_rfl) (by kernel_rfl) hρ hs h
-- loop (first region 7): live slots 0:l0 3:h3 5:out5 6:i6 7:is7 8:k8, of which it writes [7, 8]
-- loop (first region 7): live slots 0:l0 3:h3 5:out5 6:i6 7:is7 8:k8, of which it writes [7, 8]
-- loop (first region 3): live slots 0:l0 3:h3 5:out5 6:i6, of which it writes [5, 6]
end Go.Sp
