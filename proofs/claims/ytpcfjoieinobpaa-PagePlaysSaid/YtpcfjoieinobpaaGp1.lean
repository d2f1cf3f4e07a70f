/- What each region of the Go functions does. Written by my own generator. -/
import Derived.Test.YtpcfjoieinobpaaT
namespace Go.Sp
open Go
set_option maxRecDepth 100000
set_option linter.unusedVariables false
open Go.Proofs
/-! gharry.page.Halves -/
noncomputable def c49 : Cfg := { P := Try.prog, n := 111, T := TT, body := (Try.f49.body).getD .skip, res := Try.f49.results.toList, li := lk [] [(0, [0]), (1, [0]), (2, [0, 6, 7]), (3, []), (4, [0, 6]), (5, []), (6, [0, 6]), (7, [0, 6, 8]), (8, [6, 8, 9]), (9, [6, 8, 9, 10, 11]), (10, [6, 8, 9, 10, 11]), (11, [6, 8, 9, 10, 11]), (12, [6, 8, 11]), (13, [6, 8, 11, 12]), (14, [8, 11, 12, 14])], lo := lk [] [(0, [0]), (1, [0, 6, 7]), (2, [0, 6, 21]), (3, [2, 3, 4, 5]), (4, [0, 6, 31]), (5, [2, 3, 4, 5]), (6, [0, 6, 8]), (7, [6, 8, 9]), (8, [6, 8, 9, 10, 11]), (9, [6, 8, 9, 10, 11, 60]), (10, [6, 8, 9, 10, 11]), (11, [6, 8, 9, 10, 11]), (12, [6, 8, 11, 12]), (13, [8, 11, 12, 14]), (14, [2, 3, 4, 5]), (1000000, [2, 3, 4, 5])], ord := lk (false, []) [(12, (true, [(0, 1), (1, 1), (2, 1), (3, 0), (4, 1), (5, 1), (6, 1), (7, 1), (8, 0), (9, 1), (10, 1), (11, 1), (12, 1), (13, 4), (14, 1), (15, 1), (16, 1), (17, 1), (18, 1)])), (13, (true, [(0, 1), (1, 1), (2, 1), (3, 0), (4, 1), (5, 1), (6, 1), (7, 1), (8, 0), (9, 1), (10, 1), (11, 1), (12, 1), (13, 4), (14, 1), (15, 1), (16, 1), (17, 1), (18, 1)])), (14, (true, [(0, 1), (1, 1), (2, 1), (3, 1), (4, 1), (5, 1), (6, 0), (7, 1), (8, 1), (9, 1), (10, 1)]))] }
@[go_sem] theorem c49_i0 : c49.li 0 = [0] := rfl
@[go_sem] theorem c49_i1 : c49.li 1 = [0] := rfl
@[go_sem] theorem c49_i2 : c49.li 2 = [0, 6, 7] := rfl
@[go_sem] theorem c49_i3 : c49.li 3 = [] := rfl
@[go_sem] theorem c49_i4 : c49.li 4 = [0, 6] := rfl
@[go_sem] theorem c49_i5 : c49.li 5 = [] := rfl
@[go_sem] theorem c49_i6 : c49.li 6 = [0, 6] := rfl
@[go_sem] theorem c49_i7 : c49.li 7 = [0, 6, 8] := rfl
@[go_sem] theorem c49_i8 : c49.li 8 = [6, 8, 9] := rfl
@[go_sem] theorem c49_i9 : c49.li 9 = [6, 8, 9, 10, 11] := rfl
@[go_sem] theorem c49_i10 : c49.li 10 = [6, 8, 9, 10, 11] := rfl
@[go_sem] theorem c49_i11 : c49.li 11 = [6, 8, 9, 10, 11] := rfl
@[go_sem] theorem c49_i12 : c49.li 12 = [6, 8, 11] := rfl
@[go_sem] theorem c49_i13 : c49.li 13 = [6, 8, 11, 12] := rfl
@[go_sem] theorem c49_i14 : c49.li 14 = [8, 11, 12, 14] := rfl
@[go_sem] theorem c49_r0 (p0 : List UInt8) (K : Env → W) : RP c49 0 [(0, str p0)] K =
    (K [(0, str p0)]) := by kernel_rfl
@[go_sem] theorem c49_r1 (p0 : List UInt8) (K : Env → W) : RP c49 1 [(0, str p0)] K =
    (cal (eT2 eP eB) Try.prog 75 #[str p0] fun (y1_ : ((Option Addr) × Bool)) => (K [(0, str p0), (6, .pointer y1_.1), (7, .bool y1_.2)])) := by kernel_rfl
@[go_sem] theorem c49_r2 (p0 : List UInt8) (m6 : Option Addr) (ok7 : Bool) (K : Env → W) : RP c49 2 [(0, str p0), (6, .pointer m6), (7, .bool ok7)] K =
    (cnd ((!ok7)) (K [(0, str p0), (6, .pointer m6), (21, .bool true)]) (nn m6 fun y1_ => (rq (0 ≤ (0 : Int) ∧ (0 : Int) < ((224 : Nat) : Int)) (ld eU8 ((Addr.add y1_ 0)) fun (y2_ : Int) => (K [(0, str p0), (6, .pointer m6), (21, .bool ((y2_ == (0 : Int))))]))))) := by kernel_rfl
@[go_sem] theorem c49_r3 (K : Env → W) : RP c49 3 [] K =
    (K [(2, str (([] : List UInt8))), (3, str (([] : List UInt8))), (4, str (([] : List UInt8))), (5, .int .i64 ((4 : Int)))]) := by kernel_rfl
@[go_sem] theorem c49_r4 (p0 : List UInt8) (m6 : Option Addr) (K : Env → W) : RP c49 4 [(0, str p0), (6, .pointer m6)] K =
    (cal eI Try.prog 81 #[.pointer m6] fun (y1_ : Int) => (K [(0, str p0), (6, .pointer m6), (31, .bool ((decide (y1_ < (2 : Int)))))])) := by kernel_rfl
@[go_sem] theorem c49_r5 (K : Env → W) : RP c49 5 [] K =
    (K [(2, str (([] : List UInt8))), (3, str (([] : List UInt8))), (4, str (([] : List UInt8))), (5, .int .i64 ((2 : Int)))]) := by kernel_rfl
@[go_sem] theorem c49_r6 (p0 : List UInt8) (m6 : Option Addr) (K : Env → W) : RP c49 6 [(0, str p0), (6, .pointer m6)] K =
    (cal eSl Try.prog 82 #[.pointer m6] fun (y1_ : (Option Addr × Nat × Nat)) => (K [(0, str p0), (6, .pointer m6), (8, .slice y1_.1 y1_.2.1 y1_.2.2)])) := by kernel_rfl
@[go_sem] theorem c49_r7 (p0 : List UInt8) (m6 : Option Addr) (l8p : Option Addr) (l8n l8c : Nat) (K : Env → W) : RP c49 7 [(0, str p0), (6, .pointer m6), (8, .slice l8p l8n l8c)] K =
    (cal eI Try.prog 63 #[str p0] fun (y1_ : Int) => (K [(6, .pointer m6), (8, .slice l8p l8n l8c), (9, .int .i64 ((IntKind.wrap .i64 ((220 : Int) - y1_))))])) := by kernel_rfl
@[go_sem] theorem c49_r8 (m6 : Option Addr) (l8p : Option Addr) (l8n l8c : Nat) (total9 : Int) (K : Env → W) : RP c49 8 [(6, .pointer m6), (8, .slice l8p l8n l8c), (9, .int .i64 total9)] K =
    (K [(6, .pointer m6), (8, .slice l8p l8n l8c), (9, .int .i64 total9), (10, .int .i64 ((0 : Int))), (11, .int .i64 ((0 : Int)))]) := by kernel_rfl
@[go_sem] theorem c49_r9 (m6 : Option Addr) (l8p : Option Addr) (l8n l8c : Nat) (total9 : Int) (half10 : Int) (at11 : Int) (K : Env → W) : RP c49 9 [(6, .pointer m6), (8, .slice l8p l8n l8c), (9, .int .i64 total9), (10, .int .i64 half10), (11, .int .i64 at11)] K =
    (cnd ((decide (at11 < (IntKind.wrap .i64 ((l8n : Int) - (1 : Int)))))) (cnd ((at11 == (0 : Int))) (K [(6, .pointer m6), (8, .slice l8p l8n l8c), (9, .int .i64 total9), (10, .int .i64 half10), (11, .int .i64 at11), (60, .bool true)]) (rq (0 ≤ at11 ∧ at11 < (l8n : Int)) (nn l8p fun y1_ => (ldn e_api_Cell 2 ((Addr.add y1_ ((at11).toNat * 2))) fun (y2_ : api_Cell) => (cal eI Try.prog 40 #[v_api_Cell y2_] fun (y3_ : Int) => (K [(6, .pointer m6), (8, .slice l8p l8n l8c), (9, .int .i64 total9), (10, .int .i64 half10), (11, .int .i64 at11), (60, .bool ((decide ((IntKind.wrap .i64 ((2 : Int) * (IntKind.wrap .i64 (half10 + y3_)))) ≤ total9))))])))))) (K [(6, .pointer m6), (8, .slice l8p l8n l8c), (9, .int .i64 total9), (10, .int .i64 half10), (11, .int .i64 at11), (60, .bool false)])) := by kernel_rfl
@[go_sem] theorem c49_r10 (m6 : Option Addr) (l8p : Option Addr) (l8n l8c : Nat) (total9 : Int) (half10 : Int) (at11 : Int) (K : Env → W) : RP c49 10 [(6, .pointer m6), (8, .slice l8p l8n l8c), (9, .int .i64 total9), (10, .int .i64 half10), (11, .int .i64 at11)] K =
    (rq (0 ≤ at11 ∧ at11 < (l8n : Int)) (nn l8p fun y1_ => (ldn e_api_Cell 2 ((Addr.add y1_ ((at11).toNat * 2))) fun (y2_ : api_Cell) => (cal eI Try.prog 40 #[v_api_Cell y2_] fun (y3_ : Int) => (K [(6, .pointer m6), (8, .slice l8p l8n l8c), (9, .int .i64 total9), (10, .int .i64 ((IntKind.wrap .i64 (half10 + y3_)))), (11, .int .i64 at11)]))))) := by kernel_rfl
@[go_sem] theorem c49_r11 (m6 : Option Addr) (l8p : Option Addr) (l8n l8c : Nat) (total9 : Int) (half10 : Int) (at11 : Int) (K : Env → W) : RP c49 11 [(6, .pointer m6), (8, .slice l8p l8n l8c), (9, .int .i64 total9), (10, .int .i64 half10), (11, .int .i64 at11)] K =
    (K [(6, .pointer m6), (8, .slice l8p l8n l8c), (9, .int .i64 total9), (10, .int .i64 half10), (11, .int .i64 ((IntKind.wrap .i64 (at11 + (1 : Int)))))]) := by kernel_rfl
@[go_sem] theorem c49_r12 (m6 : Option Addr) (l8p : Option Addr) (l8n l8c : Nat) (at11 : Int) (K : Env → W) : RP c49 12 [(6, .pointer m6), (8, .slice l8p l8n l8c), (11, .int .i64 at11)] K =
    (ph fun S0 => (nn m6 fun y1_ => (rq (0 ≤ (0 : Int) ∧ (0 : Int) < ((224 : Nat) : Int)) (ldq S0 eU8 ((Addr.add y1_ 0)) fun (y2_ : Int) => (nn m6 fun y3_ => (rq (0 ≤ (1 : Int) ∧ (1 : Int) < ((224 : Nat) : Int)) (ldq S0 eU8 ((Addr.add y3_ 1)) fun (y4_ : Int) => (rq (0 ≤ (0 : Int) ∧ 0 ≤ at11 ∧ at11 ≤ (l8c : Int)) (cal (eT2 eS eI) Try.prog 44 #[.int .i64 ((IntKind.wrap .i64 y2_)), .int .i64 ((IntKind.wrap .i64 y4_)), .slice ((slp l8p 0 (l8c : Int) 2)) (((at11).toNat - (0 : Int).toNat)) ((((l8c : Int)).toNat - (0 : Int).toNat))] fun (y5_ : ((List UInt8) × Int)) => (K [(6, .pointer m6), (8, .slice l8p l8n l8c), (11, .int .i64 at11), (12, str y5_.1)])))))))))) := by kernel_rfl
@[go_sem] theorem c49_r13 (m6 : Option Addr) (l8p : Option Addr) (l8n l8c : Nat) (at11 : Int) (a12 : List UInt8) (K : Env → W) : RP c49 13 [(6, .pointer m6), (8, .slice l8p l8n l8c), (11, .int .i64 at11), (12, str a12)] K =
    (ph fun S0 => (nn m6 fun y1_ => (rq (0 ≤ (0 : Int) ∧ (0 : Int) < ((224 : Nat) : Int)) (ldq S0 eU8 ((Addr.add y1_ 0)) fun (y2_ : Int) => (nn m6 fun y3_ => (rq (0 ≤ (1 : Int) ∧ (1 : Int) < ((224 : Nat) : Int)) (ldq S0 eU8 ((Addr.add y3_ 1)) fun (y4_ : Int) => (rq (0 ≤ (at11 : Int) ∧ at11 ≤ (l8n : Int) ∧ (l8n : Int) ≤ (l8c : Int)) (cal (eT2 eS eI) Try.prog 44 #[.int .i64 ((IntKind.wrap .i64 y2_)), .int .i64 ((IntKind.wrap .i64 y4_)), .slice ((slp l8p at11 (l8c : Int) 2)) ((((l8n : Int)).toNat - (at11 : Int).toNat)) ((((l8c : Int)).toNat - (at11 : Int).toNat))] fun (y5_ : ((List UInt8) × Int)) => (K [(8, .slice l8p l8n l8c), (11, .int .i64 at11), (12, str a12), (14, str y5_.1)])))))))))) := by kernel_rfl
@[go_sem] theorem c49_r14 (l8p : Option Addr) (l8n l8c : Nat) (at11 : Int) (a12 : List UInt8) (b14 : List UInt8) (K : Env → W) : RP c49 14 [(8, .slice l8p l8n l8c), (11, .int .i64 at11), (12, str a12), (14, str b14)] K =
    (ph fun S0 => (rq (0 ≤ at11 ∧ at11 < (l8n : Int)) (nn l8p fun y1_ => (ldq S0 eS ((Addr.add y1_ ((at11).toNat * 2))) fun (y2_ : List UInt8) => (K [(2, str a12), (3, str b14), (4, str y2_), (5, .int .i64 ((0 : Int)))]))))) := by kernel_rfl
@[go_sem] theorem c49_o : c49.lo 1000000 = [2, 3, 4, 5] := rfl
@[go_sem] theorem c49_e (t2 : List UInt8) (t3 : List UInt8) (t4 : List UInt8) (t5 : Int) (k : Value → W) : RTp c49 [(2, str t2), (3, str t3), (4, str t4), (5, .int .i64 t5)] k = (k (.tuple #[str t2, str t3, str t4, .int .i64 t5])) := by kernel_rfl
theorem c49_ok : (c49.P.follows .mixedOrders && okc c49 c49.body) = true := by kernel_rfl
theorem c49_fn {e : Enc} {args : Array Value} {G : e.α → W} {L : List HP} {ρ : Env} (hρ : envA 0 args.toList = ρ) (hs : Nat.ble args.size 111 = true) (h : E L (D c49 (.seq (.reg 0) (.seq (.reg 1) (.seq (.block 0 (.seq (.reg 2) (.cond (.tmp 21) (.seq (.reg 3) (.ret)) (.seq (.reg 4) (.cond (.tmp 31) (.seq (.reg 5) (.ret)) (.skip)))))) (.seq (.reg 6) (.seq (.reg 7) (.seq (.reg 8) (.seq (.block 1 (.loop (.seq (.seq (.reg 9) (.cond (.tmp 60) (.skip) (.exit 1))) (.block 2 (.seq (.reg 10) (.reg 11)))))) (.seq (.reg 12) (.seq (.reg 13) (.seq (.reg 14) (.ret))))))))))) (fnQ c49 e G) ρ)) : E L (cal e Try.prog 49 args G) :=
  d_fn (c := c49) Try.func49 (by kernel_rfl) (by kernel_rfl) (by kernel_rfl) c49_ok (by kernel_rfl) (by kernel_rfl) hρ hs h
-- loop (first region 9): live slots 6:m6 8:l8 9:total9 10:half10 11:at11, of which it writes [10, 11]
/-! gharry.gharrylaw05.cells -/
noncomputable def c50 : Cfg := { P := Try.prog, n := 145, T := TT, body := (Try.f50.body).getD .skip, res := Try.f50.results.toList, li := lk [] [(0, [0]), (1, [0]), (2, []), (3, [0]), (4, [0, 4, 5]), (5, []), (6, [0, 4, 5]), (7, [0, 4, 5, 6]), (8, [0, 4, 5, 6, 7]), (9, [0, 4, 5, 6, 7, 8]), (10, [0, 4, 5, 6, 7, 8]), (11, [0, 4, 5, 6, 7, 8]), (12, [0, 4, 5, 6, 7, 8, 9]), (13, []), (14, [0, 4, 5, 6, 7, 8, 9]), (15, [0, 4, 5, 6, 7, 8, 9, 10, 11]), (16, []), (17, [0, 4, 5, 6, 7, 8, 9, 10, 11]), (18, [0, 4, 5, 6, 7, 8, 10, 11, 12]), (19, []), (20, [0, 4, 5, 6, 7, 8, 10, 11, 12]), (21, [0, 4, 5, 6, 7, 8, 10, 11]), (22, [6, 7])], lo := lk [] [(0, [0]), (1, [0, 40]), (2, [2, 3]), (3, [0, 4, 5]), (4, [0, 4, 5, 54]), (5, [2, 3]), (6, [0, 4, 5, 6]), (7, [0, 4, 5, 6, 7]), (8, [0, 4, 5, 6, 7, 8]), (9, [0, 4, 5, 6, 7, 8, 57]), (10, [0, 4, 5, 6, 7, 8]), (11, [0, 4, 5, 6, 7, 8, 9]), (12, [0, 4, 5, 6, 7, 8, 9, 72]), (13, [2, 3]), (14, [0, 4, 5, 6, 7, 8, 9, 10, 11]), (15, [0, 4, 5, 6, 7, 8, 9, 10, 11, 97]), (16, [2, 3]), (17, [0, 4, 5, 6, 7, 8, 10, 11, 12]), (18, [0, 4, 5, 6, 7, 8, 10, 11, 12, 131]), (19, [2, 3]), (20, [0, 4, 5, 6, 7, 8, 10, 11]), (21, [0, 4, 5, 6, 7, 8]), (22, [2, 3]), (1000000, [2, 3])], ord := lk (false, []) [(3, (false, [(0, 1), (1, 1), (2, 1), (3, 1), (4, 1), (5, 1), (6, 1), (7, 1)])), (14, (false, [(0, 1), (1, 1), (2, 1), (3, 1), (4, 1), (5, 1), (6, 1), (7, 1), (8, 1), (9, 1), (10, 1)])), (17, (false, [(0, 1), (1, 1), (2, 1), (3, 1), (4, 1), (5, 1), (6, 1), (7, 1), (8, 1), (9, 1), (10, 1), (11, 1), (12, 1), (13, 1), (14, 1), (15, 1), (16, 1), (17, 1), (18, 1), (19, 1), (20, 1), (21, 4), (22, 4)])), (18, (true, [(0, 1), (1, 1), (2, 1), (3, 1), (4, 1), (5, 1), (6, 1), (7, 1), (8, 0), (9, 1), (10, 0), (11, 1), (12, 1)]))] }
@[go_sem] theorem c50_i0 : c50.li 0 = [0] := rfl
@[go_sem] theorem c50_i1 : c50.li 1 = [0] := rfl
@[go_sem] theorem c50_i2 : c50.li 2 = [] := rfl
@[go_sem] theorem c50_i3 : c50.li 3 = [0] := rfl
@[go_sem] theorem c50_i4 : c50.li 4 = [0, 4, 5] := rfl
@[go_sem] theorem c50_i5 : c50.li 5 = [] := rfl
@[go_sem] theorem c50_i6 : c50.li 6 = [0, 4, 5] := rfl
@[go_sem] theorem c50_i7 : c50.li 7 = [0, 4, 5, 6] := rfl
@[go_sem] theorem c50_i8 : c50.li 8 = [0, 4, 5, 6, 7] := rfl
@[go_sem] theorem c50_i9 : c50.li 9 = [0, 4, 5, 6, 7, 8] := rfl
@[go_sem] theorem c50_i10 : c50.li 10 = [0, 4, 5, 6, 7, 8] := rfl
@[go_sem] theorem c50_i11 : c50.li 11 = [0, 4, 5, 6, 7, 8] := rfl
@[go_sem] theorem c50_i12 : c50.li 12 = [0, 4, 5, 6, 7, 8, 9] := rfl
@[go_sem] theorem c50_i13 : c50.li 13 = [] := rfl
@[go_sem] theorem c50_i14 : c50.li 14 = [0, 4, 5, 6, 7, 8, 9] := rfl
@[go_sem] theorem c50_i15 : c50.li 15 = [0, 4, 5, 6, 7, 8, 9, 10, 11] := rfl
@[go_sem] theorem c50_i16 : c50.li 16 = [] := rfl
@[go_sem] theorem c50_i17 : c50.li 17 = [0, 4, 5, 6, 7, 8, 9, 10, 11] := rfl
@[go_sem] theorem c50_i18 : c50.li 18 = [0, 4, 5, 6, 7, 8, 10, 11, 12] := rfl
@[go_sem] theorem c50_i19 : c50.li 19 = [] := rfl
@[go_sem] theorem c50_i20 : c50.li 20 = [0, 4, 5, 6, 7, 8, 10, 11, 12] := rfl
@[go_sem] theorem c50_i21 : c50.li 21 = [0, 4, 5, 6, 7, 8, 10, 11] := rfl
@[go_sem] theorem c50_i22 : c50.li 22 = [6, 7] := rfl
@[go_sem] theorem c50_r0 (p0 : List UInt8) (K : Env → W) : RP c50 0 [(0, str p0)] K =
    (K [(0, str p0)]) := by kernel_rfl
@[go_sem] theorem c50_r1 (p0 : List UInt8) (K : Env → W) : RP c50 1 [(0, str p0)] K =
    (cnd ((((p0).length : Int) != (224 : Int))) (K [(0, str p0), (40, .bool true)]) (rq (0 ≤ (0 : Int) ∧ (0 : Int) < ((p0).length : Int)) (cnd ((decide ((2 : Int) < (bt p0 0 : Int)))) (K [(0, str p0), (40, .bool true)]) (rq (0 ≤ (0 : Int) ∧ (0 : Int) < ((p0).length : Int)) (cnd (((bt p0 0 : Int) != (2 : Int))) (rq (0 ≤ (1 : Int) ∧ (1 : Int) < ((p0).length : Int)) (cnd (((bt p0 1 : Int) != (0 : Int))) (K [(0, str p0), (40, .bool true)]) (rq (0 ≤ (0 : Int) ∧ (0 : Int) < ((p0).length : Int)) (cnd (((bt p0 0 : Int) == (0 : Int))) (rq (0 ≤ (2 : Int) ∧ (2 : Int) < ((p0).length : Int)) (K [(0, str p0), (40, .bool (((bt p0 2 : Int) != (0 : Int))))])) (K [(0, str p0), (40, .bool false)]))))) (rq (0 ≤ (0 : Int) ∧ (0 : Int) < ((p0).length : Int)) (cnd (((bt p0 0 : Int) == (0 : Int))) (rq (0 ≤ (2 : Int) ∧ (2 : Int) < ((p0).length : Int)) (K [(0, str p0), (40, .bool (((bt p0 2 : Int) != (0 : Int))))])) (K [(0, str p0), (40, .bool false)])))))))) := by kernel_rfl
@[go_sem] theorem c50_r2 (K : Env → W) : RP c50 2 [] K =
    (K [(2, .slice none 0 0), (3, .bool false)]) := by kernel_rfl
@[go_sem] theorem c50_r3 (p0 : List UInt8) (K : Env → W) : RP c50 3 [(0, str p0)] K =
    (rq (0 ≤ (2 : Int) ∧ (2 : Int) < ((p0).length : Int)) (rq (0 ≤ (3 : Int) ∧ (3 : Int) < ((p0).length : Int)) (K [(0, str p0), (4, .int .i64 ((IntKind.wrap .i64 ((bt p0 2 : Int))))), (5, .int .i64 ((IntKind.wrap .i64 ((bt p0 3 : Int)))))]))) := by kernel_rfl
@[go_sem] theorem c50_r4 (p0 : List UInt8) (n4 : Int) (heap5 : Int) (K : Env → W) : RP c50 4 [(0, str p0), (4, .int .i64 n4), (5, .int .i64 heap5)] K =
    (cnd ((decide (heap5 < (4 : Int)))) (K [(0, str p0), (4, .int .i64 n4), (5, .int .i64 heap5), (54, .bool true)]) (K [(0, str p0), (4, .int .i64 n4), (5, .int .i64 heap5), (54, .bool ((decide ((IntKind.wrap .i64 ((224 : Int) - n4)) < heap5))))])) := by kernel_rfl
@[go_sem] theorem c50_r5 (K : Env → W) : RP c50 5 [] K =
    (K [(2, .slice none 0 0), (3, .bool false)]) := by kernel_rfl
@[go_sem] theorem c50_r6 (p0 : List UInt8) (n4 : Int) (heap5 : Int) (K : Env → W) : RP c50 6 [(0, str p0), (4, .int .i64 n4), (5, .int .i64 heap5)] K =
    (K [(0, str p0), (4, .int .i64 n4), (5, .int .i64 heap5), (6, .slice none 0 0)]) := by kernel_rfl
@[go_sem] theorem c50_r7 (p0 : List UInt8) (n4 : Int) (heap5 : Int) (out6p : Option Addr) (out6n out6c : Nat) (K : Env → W) : RP c50 7 [(0, str p0), (4, .int .i64 n4), (5, .int .i64 heap5), (6, .slice out6p out6n out6c)] K =
    (K [(0, str p0), (4, .int .i64 n4), (5, .int .i64 heap5), (6, .slice out6p out6n out6c), (7, .int .i64 ((0 : Int)))]) := by kernel_rfl
@[go_sem] theorem c50_r8 (p0 : List UInt8) (n4 : Int) (heap5 : Int) (out6p : Option Addr) (out6n out6c : Nat) (total7 : Int) (K : Env → W) : RP c50 8 [(0, str p0), (4, .int .i64 n4), (5, .int .i64 heap5), (6, .slice out6p out6n out6c), (7, .int .i64 total7)] K =
    (K [(0, str p0), (4, .int .i64 n4), (5, .int .i64 heap5), (6, .slice out6p out6n out6c), (7, .int .i64 total7), (8, .int .i64 ((0 : Int)))]) := by kernel_rfl
@[go_sem] theorem c50_r9 (p0 : List UInt8) (n4 : Int) (heap5 : Int) (out6p : Option Addr) (out6n out6c : Nat) (total7 : Int) (i8 : Int) (K : Env → W) : RP c50 9 [(0, str p0), (4, .int .i64 n4), (5, .int .i64 heap5), (6, .slice out6p out6n out6c), (7, .int .i64 total7), (8, .int .i64 i8)] K =
    (K [(0, str p0), (4, .int .i64 n4), (5, .int .i64 heap5), (6, .slice out6p out6n out6c), (7, .int .i64 total7), (8, .int .i64 i8), (57, .bool ((decide (i8 < n4))))]) := by kernel_rfl
@[go_sem] theorem c50_r10 (p0 : List UInt8) (n4 : Int) (heap5 : Int) (out6p : Option Addr) (out6n out6c : Nat) (total7 : Int) (i8 : Int) (K : Env → W) : RP c50 10 [(0, str p0), (4, .int .i64 n4), (5, .int .i64 heap5), (6, .slice out6p out6n out6c), (7, .int .i64 total7), (8, .int .i64 i8)] K =
    (K [(0, str p0), (4, .int .i64 n4), (5, .int .i64 heap5), (6, .slice out6p out6n out6c), (7, .int .i64 total7), (8, .int .i64 ((IntKind.wrap .i64 (i8 + (1 : Int)))))]) := by kernel_rfl
@[go_sem] theorem c50_r11 (p0 : List UInt8) (n4 : Int) (heap5 : Int) (out6p : Option Addr) (out6n out6c : Nat) (total7 : Int) (i8 : Int) (K : Env → W) : RP c50 11 [(0, str p0), (4, .int .i64 n4), (5, .int .i64 heap5), (6, .slice out6p out6n out6c), (7, .int .i64 total7), (8, .int .i64 i8)] K =
    (rq (0 ≤ (IntKind.wrap .i64 ((223 : Int) - i8)) ∧ (IntKind.wrap .i64 ((223 : Int) - i8)) < ((p0).length : Int)) (K [(0, str p0), (4, .int .i64 n4), (5, .int .i64 heap5), (6, .slice out6p out6n out6c), (7, .int .i64 total7), (8, .int .i64 i8), (9, .int .i64 ((IntKind.wrap .i64 ((bt p0 (((IntKind.wrap .i64 ((223 : Int) - i8))).toNat) : Int)))))])) := by kernel_rfl
@[go_sem] theorem c50_r12 (p0 : List UInt8) (n4 : Int) (heap5 : Int) (out6p : Option Addr) (out6n out6c : Nat) (total7 : Int) (i8 : Int) (at9 : Int) (K : Env → W) : RP c50 12 [(0, str p0), (4, .int .i64 n4), (5, .int .i64 heap5), (6, .slice out6p out6n out6c), (7, .int .i64 total7), (8, .int .i64 i8), (9, .int .i64 at9)] K =
    (cnd ((decide (at9 < (4 : Int)))) (K [(0, str p0), (4, .int .i64 n4), (5, .int .i64 heap5), (6, .slice out6p out6n out6c), (7, .int .i64 total7), (8, .int .i64 i8), (9, .int .i64 at9), (72, .bool true)]) (K [(0, str p0), (4, .int .i64 n4), (5, .int .i64 heap5), (6, .slice out6p out6n out6c), (7, .int .i64 total7), (8, .int .i64 i8), (9, .int .i64 at9), (72, .bool ((decide (heap5 < (IntKind.wrap .i64 (at9 + (2 : Int)))))))])) := by kernel_rfl
@[go_sem] theorem c50_r13 (K : Env → W) : RP c50 13 [] K =
    (K [(2, .slice none 0 0), (3, .bool false)]) := by kernel_rfl
@[go_sem] theorem c50_r14 (p0 : List UInt8) (n4 : Int) (heap5 : Int) (out6p : Option Addr) (out6n out6c : Nat) (total7 : Int) (i8 : Int) (at9 : Int) (K : Env → W) : RP c50 14 [(0, str p0), (4, .int .i64 n4), (5, .int .i64 heap5), (6, .slice out6p out6n out6c), (7, .int .i64 total7), (8, .int .i64 i8), (9, .int .i64 at9)] K =
    (rq (0 ≤ at9 ∧ at9 < ((p0).length : Int)) (rq (0 ≤ (IntKind.wrap .i64 (at9 + (1 : Int))) ∧ (IntKind.wrap .i64 (at9 + (1 : Int))) < ((p0).length : Int)) (K [(0, str p0), (4, .int .i64 n4), (5, .int .i64 heap5), (6, .slice out6p out6n out6c), (7, .int .i64 total7), (8, .int .i64 i8), (9, .int .i64 at9), (10, .int .i64 ((IntKind.wrap .i64 ((bt p0 ((at9).toNat) : Int))))), (11, .int .i64 ((IntKind.wrap .i64 ((bt p0 (((IntKind.wrap .i64 (at9 + (1 : Int)))).toNat) : Int)))))]))) := by kernel_rfl
@[go_sem] theorem c50_r15 (p0 : List UInt8) (n4 : Int) (heap5 : Int) (out6p : Option Addr) (out6n out6c : Nat) (total7 : Int) (i8 : Int) (at9 : Int) (k10 : Int) (v11 : Int) (K : Env → W) : RP c50 15 [(0, str p0), (4, .int .i64 n4), (5, .int .i64 heap5), (6, .slice out6p out6n out6c), (7, .int .i64 total7), (8, .int .i64 i8), (9, .int .i64 at9), (10, .int .i64 k10), (11, .int .i64 v11)] K =
    (cnd ((decide ((16 : Int) < k10))) (K [(0, str p0), (4, .int .i64 n4), (5, .int .i64 heap5), (6, .slice out6p out6n out6c), (7, .int .i64 total7), (8, .int .i64 i8), (9, .int .i64 at9), (10, .int .i64 k10), (11, .int .i64 v11), (97, .bool true)]) (cnd ((decide ((32 : Int) < v11))) (K [(0, str p0), (4, .int .i64 n4), (5, .int .i64 heap5), (6, .slice out6p out6n out6c), (7, .int .i64 total7), (8, .int .i64 i8), (9, .int .i64 at9), (10, .int .i64 k10), (11, .int .i64 v11), (97, .bool true)]) (K [(0, str p0), (4, .int .i64 n4), (5, .int .i64 heap5), (6, .slice out6p out6n out6c), (7, .int .i64 total7), (8, .int .i64 i8), (9, .int .i64 at9), (10, .int .i64 k10), (11, .int .i64 v11), (97, .bool ((decide (heap5 < (IntKind.wrap .i64 ((IntKind.wrap .i64 ((IntKind.wrap .i64 (at9 + (2 : Int))) + k10)) + v11))))))]))) := by kernel_rfl
@[go_sem] theorem c50_r16 (K : Env → W) : RP c50 16 [] K =
    (K [(2, .slice none 0 0), (3, .bool false)]) := by kernel_rfl
@[go_sem] theorem c50_r17 (p0 : List UInt8) (n4 : Int) (heap5 : Int) (out6p : Option Addr) (out6n out6c : Nat) (total7 : Int) (i8 : Int) (at9 : Int) (k10 : Int) (v11 : Int) (K : Env → W) : RP c50 17 [(0, str p0), (4, .int .i64 n4), (5, .int .i64 heap5), (6, .slice out6p out6n out6c), (7, .int .i64 total7), (8, .int .i64 i8), (9, .int .i64 at9), (10, .int .i64 k10), (11, .int .i64 v11)] K =
    (rq (0 ≤ ((IntKind.wrap .i64 (at9 + (2 : Int))) : Int) ∧ (IntKind.wrap .i64 (at9 + (2 : Int))) ≤ (IntKind.wrap .i64 ((IntKind.wrap .i64 (at9 + (2 : Int))) + k10)) ∧ (IntKind.wrap .i64 ((IntKind.wrap .i64 (at9 + (2 : Int))) + k10)) ≤ ((p0).length : Int)) (rq (0 ≤ ((IntKind.wrap .i64 ((IntKind.wrap .i64 (at9 + (2 : Int))) + k10)) : Int) ∧ (IntKind.wrap .i64 ((IntKind.wrap .i64 (at9 + (2 : Int))) + k10)) ≤ (IntKind.wrap .i64 ((IntKind.wrap .i64 ((IntKind.wrap .i64 (at9 + (2 : Int))) + k10)) + v11)) ∧ (IntKind.wrap .i64 ((IntKind.wrap .i64 ((IntKind.wrap .i64 (at9 + (2 : Int))) + k10)) + v11)) ≤ ((p0).length : Int)) (nwc #[str (([] : List UInt8)), str (([] : List UInt8))] 55 fun y1_ => (stl [str (((⟨(ss p0 ((IntKind.wrap .i64 (at9 + (2 : Int)))) ((IntKind.wrap .i64 ((IntKind.wrap .i64 (at9 + (2 : Int))) + k10)))), (ss p0 ((IntKind.wrap .i64 ((IntKind.wrap .i64 (at9 + (2 : Int))) + k10))) ((IntKind.wrap .i64 ((IntKind.wrap .i64 ((IntKind.wrap .i64 (at9 + (2 : Int))) + k10)) + v11))))⟩ : api_Cell)).Key), str (((⟨(ss p0 ((IntKind.wrap .i64 (at9 + (2 : Int)))) ((IntKind.wrap .i64 ((IntKind.wrap .i64 (at9 + (2 : Int))) + k10)))), (ss p0 ((IntKind.wrap .i64 ((IntKind.wrap .i64 (at9 + (2 : Int))) + k10))) ((IntKind.wrap .i64 ((IntKind.wrap .i64 ((IntKind.wrap .i64 (at9 + (2 : Int))) + k10)) + v11))))⟩ : api_Cell)).Val)] y1_ 0 (K [(0, str p0), (4, .int .i64 n4), (5, .int .i64 heap5), (6, .slice out6p out6n out6c), (7, .int .i64 total7), (8, .int .i64 i8), (10, .int .i64 k10), (11, .int .i64 v11), (12, .pointer (some y1_))]))))) := by kernel_rfl
@[go_sem] theorem c50_r18 (p0 : List UInt8) (n4 : Int) (heap5 : Int) (out6p : Option Addr) (out6n out6c : Nat) (total7 : Int) (i8 : Int) (k10 : Int) (v11 : Int) (c12 : Addr) (K : Env → W) : RP c50 18 [(0, str p0), (4, .int .i64 n4), (5, .int .i64 heap5), (6, .slice out6p out6n out6c), (7, .int .i64 total7), (8, .int .i64 i8), (10, .int .i64 k10), (11, .int .i64 v11), (12, .pointer (some c12))] K =
    (ph fun S0 => (cnd ((decide ((0 : Int) < i8))) (rq (0 ≤ (IntKind.wrap .i64 (i8 - (1 : Int))) ∧ (IntKind.wrap .i64 (i8 - (1 : Int))) < (out6n : Int)) (nn out6p fun y1_ => (ldq S0 eS ((Addr.add y1_ (((IntKind.wrap .i64 (i8 - (1 : Int)))).toNat * 2))) fun (y2_ : List UInt8) => (ldq S0 eS c12 fun (y3_ : List UInt8) => (K [(0, str p0), (4, .int .i64 n4), (5, .int .i64 heap5), (6, .slice out6p out6n out6c), (7, .int .i64 total7), (8, .int .i64 i8), (10, .int .i64 k10), (11, .int .i64 v11), (12, .pointer (some c12)), (131, .bool ((!(Op.bytesLess y2_ y3_))))]))))) (K [(0, str p0), (4, .int .i64 n4), (5, .int .i64 heap5), (6, .slice out6p out6n out6c), (7, .int .i64 total7), (8, .int .i64 i8), (10, .int .i64 k10), (11, .int .i64 v11), (12, .pointer (some c12)), (131, .bool false)]))) := by kernel_rfl
@[go_sem] theorem c50_r19 (K : Env → W) : RP c50 19 [] K =
    (K [(2, .slice none 0 0), (3, .bool false)]) := by kernel_rfl
@[go_sem] theorem c50_r20 (p0 : List UInt8) (n4 : Int) (heap5 : Int) (out6p : Option Addr) (out6n out6c : Nat) (total7 : Int) (i8 : Int) (k10 : Int) (v11 : Int) (c12 : Addr) (K : Env → W) : RP c50 20 [(0, str p0), (4, .int .i64 n4), (5, .int .i64 heap5), (6, .slice out6p out6n out6c), (7, .int .i64 total7), (8, .int .i64 i8), (10, .int .i64 k10), (11, .int .i64 v11), (12, .pointer (some c12))] K =
    (ldn e_api_Cell 2 c12 fun (y1_ : api_Cell) => (nwc #[str y1_.Key, str y1_.Val] 55 fun y2_ => (val eSl Try.prog (oB_append #[58, 58] 58 #[.slice out6p out6n out6c, .slice ((some y2_)) 1 1]) fun (y3_ : (Option Addr × Nat × Nat)) => (K [(0, str p0), (4, .int .i64 n4), (5, .int .i64 heap5), (6, .slice y3_.1 y3_.2.1 y3_.2.2), (7, .int .i64 total7), (8, .int .i64 i8), (10, .int .i64 k10), (11, .int .i64 v11)])))) := by kernel_rfl
@[go_sem] theorem c50_r21 (p0 : List UInt8) (n4 : Int) (heap5 : Int) (out6p : Option Addr) (out6n out6c : Nat) (total7 : Int) (i8 : Int) (k10 : Int) (v11 : Int) (K : Env → W) : RP c50 21 [(0, str p0), (4, .int .i64 n4), (5, .int .i64 heap5), (6, .slice out6p out6n out6c), (7, .int .i64 total7), (8, .int .i64 i8), (10, .int .i64 k10), (11, .int .i64 v11)] K =
    (K [(0, str p0), (4, .int .i64 n4), (5, .int .i64 heap5), (6, .slice out6p out6n out6c), (7, .int .i64 ((IntKind.wrap .i64 ((IntKind.wrap .i64 ((IntKind.wrap .i64 (total7 + (3 : Int))) + k10)) + v11)))), (8, .int .i64 i8)]) := by kernel_rfl
@[go_sem] theorem c50_r22 (out6p : Option Addr) (out6n out6c : Nat) (total7 : Int) (K : Env → W) : RP c50 22 [(6, .slice out6p out6n out6c), (7, .int .i64 total7)] K =
    (K [(2, .slice out6p out6n out6c), (3, .bool ((decide (total7 ≤ (220 : Int)))))]) := by kernel_rfl
@[go_sem] theorem c50_o : c50.lo 1000000 = [2, 3] := rfl
@[go_sem] theorem c50_e (t2p : Option Addr) (t2n t2c : Nat) (t3 : Bool) (k : Value → W) : RTp c50 [(2, .slice t2p t2n t2c), (3, .bool t3)] k = (k (.tuple #[.slice t2p t2n t2c, .bool t3])) := by kernel_rfl
theorem c50_ok : (c50.P.follows .mixedOrders && okc c50 c50.body) = true := by kernel_rfl
theorem c50_fn {e : Enc} {args : Array Value} {G : e.α → W} {L : List HP} {ρ : Env} (hρ : envA 0 args.toList = ρ) (hs : Nat.ble args.size 145 = true) (h : E L (D c50 (.seq (.reg 0) (.seq (.seq (.reg 1) (.cond (.tmp 40) (.seq (.reg 2) (.ret)) (.skip))) (.seq (.reg 3) (.seq (.seq (.reg 4) (.cond (.tmp 54) (.seq (.reg 5) (.ret)) (.skip))) (.seq (.reg 6) (.seq (.reg 7) (.seq (.seq (.reg 8) (.block 0 (.loop (.seq (.seq (.reg 9) (.cond (.tmp 57) (.skip) (.exit 0))) (.seq (.block 1 (.seq (.reg 11) (.seq (.seq (.reg 12) (.cond (.tmp 72) (.seq (.reg 13) (.ret)) (.skip))) (.seq (.reg 14) (.seq (.seq (.reg 15) (.cond (.tmp 97) (.seq (.reg 16) (.ret)) (.skip))) (.seq (.reg 17) (.seq (.seq (.reg 18) (.cond (.tmp 131) (.seq (.reg 19) (.ret)) (.skip))) (.seq (.reg 20) (.reg 21))))))))) (.reg 10)))))) (.seq (.reg 22) (.ret))))))))) (fnQ c50 e G) ρ)) : E L (cal e Try.prog 50 args G) :=
  d_fn (c := c50) Try.func50 (by kernel_rfl) (by kernel_rfl) (by kernel_rfl) c50_ok (by kernel_rfl) (by kernel_rfl) hρ hs h
-- loop (first region 9): live slots 0:p0 4:n4 5:heap5 6:out6 7:total7 8:i8, of which it writes [6, 7, 8]
/-! gharry.gharrylaw05.room -/
noncomputable def c51 : Cfg := { P := Try.prog, n := 19, T := TT, body := (Try.f51.body).getD .skip, res := Try.f51.results.toList, li := lk [] [(0, [0]), (1, [0]), (2, [0, 3]), (3, [0, 3, 4]), (4, [0, 3, 4]), (5, [0, 3, 4]), (6, [3])], lo := lk [] [(0, [0]), (1, [0, 3]), (2, [0, 3, 4]), (3, [0, 3, 4, 8]), (4, [0, 3, 4]), (5, [0, 3, 4]), (6, [2]), (1000000, [2])], ord := lk (false, []) [] }
@[go_sem] theorem c51_i0 : c51.li 0 = [0] := rfl
@[go_sem] theorem c51_i1 : c51.li 1 = [0] := rfl
@[go_sem] theorem c51_i2 : c51.li 2 = [0, 3] := rfl
@[go_sem] theorem c51_i3 : c51.li 3 = [0, 3, 4] := rfl
@[go_sem] theorem c51_i4 : c51.li 4 = [0, 3, 4] := rfl
@[go_sem] theorem c51_i5 : c51.li 5 = [0, 3, 4] := rfl
@[go_sem] theorem c51_i6 : c51.li 6 = [3] := rfl
@[go_sem] theorem c51_r0 (l0p : Option Addr) (l0n l0c : Nat) (K : Env → W) : RP c51 0 [(0, .slice l0p l0n l0c)] K =
    (K [(0, .slice l0p l0n l0c)]) := by kernel_rfl
@[go_sem] theorem c51_r1 (l0p : Option Addr) (l0n l0c : Nat) (K : Env → W) : RP c51 1 [(0, .slice l0p l0n l0c)] K =
    (K [(0, .slice l0p l0n l0c), (3, .int .i64 ((220 : Int)))]) := by kernel_rfl
@[go_sem] theorem c51_r2 (l0p : Option Addr) (l0n l0c : Nat) (out3 : Int) (K : Env → W) : RP c51 2 [(0, .slice l0p l0n l0c), (3, .int .i64 out3)] K =
    (K [(0, .slice l0p l0n l0c), (3, .int .i64 out3), (4, .int .i64 ((0 : Int)))]) := by kernel_rfl
@[go_sem] theorem c51_r3 (l0p : Option Addr) (l0n l0c : Nat) (out3 : Int) (i4 : Int) (K : Env → W) : RP c51 3 [(0, .slice l0p l0n l0c), (3, .int .i64 out3), (4, .int .i64 i4)] K =
    (K [(0, .slice l0p l0n l0c), (3, .int .i64 out3), (4, .int .i64 i4), (8, .bool ((decide (i4 < (l0n : Int)))))]) := by kernel_rfl
@[go_sem] theorem c51_r4 (l0p : Option Addr) (l0n l0c : Nat) (out3 : Int) (i4 : Int) (K : Env → W) : RP c51 4 [(0, .slice l0p l0n l0c), (3, .int .i64 out3), (4, .int .i64 i4)] K =
    (K [(0, .slice l0p l0n l0c), (3, .int .i64 out3), (4, .int .i64 ((IntKind.wrap .i64 (i4 + (1 : Int)))))]) := by kernel_rfl
@[go_sem] theorem c51_r5 (l0p : Option Addr) (l0n l0c : Nat) (out3 : Int) (i4 : Int) (K : Env → W) : RP c51 5 [(0, .slice l0p l0n l0c), (3, .int .i64 out3), (4, .int .i64 i4)] K =
    (rq (0 ≤ i4 ∧ i4 < (l0n : Int)) (nn l0p fun y1_ => (ldn e_api_Cell 2 ((Addr.add y1_ ((i4).toNat * 2))) fun (y2_ : api_Cell) => (cal eI Try.prog 41 #[v_api_Cell y2_] fun (y3_ : Int) => (K [(0, .slice l0p l0n l0c), (3, .int .i64 ((IntKind.wrap .i64 (out3 - y3_)))), (4, .int .i64 i4)]))))) := by kernel_rfl
@[go_sem] theorem c51_r6 (out3 : Int) (K : Env → W) : RP c51 6 [(3, .int .i64 out3)] K =
    (K [(2, .int .i64 out3)]) := by kernel_rfl
@[go_sem] theorem c51_o : c51.lo 1000000 = [2] := rfl
@[go_sem] theorem c51_e (t2 : Int) (k : Value → W) : RTp c51 [(2, .int .i64 t2)] k = (k (.int .i64 t2)) := by kernel_rfl
theorem c51_ok : (c51.P.follows .mixedOrders && okc c51 c51.body) = true := by kernel_rfl
theorem c51_fn {e : Enc} {args : Array Value} {G : e.α → W} {L : List HP} {ρ : Env} (hρ : envA 0 args.toList = ρ) (hs : Nat.ble args.size 19 = true) (h : E L (D c51 (.seq (.reg 0) (.seq (.reg 1) (.seq (.seq (.reg 2) (.block 0 (.loop (.seq (.seq (.reg 3) (.cond (.tmp 8) (.skip) (.exit 0))) (.seq (.block 1 (.reg 5)) (.reg 4)))))) (.seq (.reg 6) (.ret))))) (fnQ c51 e G) ρ)) : E L (cal e Try.prog 51 args G) :=
  d_fn (c := c51) Try.func51 (by kernel_rfl) (by kernel_rfl) (by kernel_rfl) c51_ok (by kernel_rfl) (by kernel_rfl) hρ hs h
-- loop (first region 3): live slots 0:l0 3:out3 4:i4, of which it writes [3, 4]
/-! gharry.page.Delete -/
noncomputable def c52 : Cfg := { P := Try.prog, n := 32, T := TT, body := (Try.f52.body).getD .skip, res := Try.f52.results.toList, li := lk [] [(0, [0, 1]), (1, [0, 1]), (2, [1, 6, 7]), (3, [7]), (4, [1, 6]), (5, [6, 8, 9]), (6, []), (7, [6, 8]), (8, [6])], lo := lk [] [(0, [0, 1]), (1, [1, 6, 7]), (2, [1, 6, 7, 17]), (3, [4, 5]), (4, [6, 8, 9]), (5, [6, 8, 26]), (6, [4, 5]), (7, [6]), (8, [4, 5]), (1000000, [4, 5])], ord := lk (false, []) [] }
@[go_sem] theorem c52_i0 : c52.li 0 = [0, 1] := rfl
@[go_sem] theorem c52_i1 : c52.li 1 = [0, 1] := rfl
@[go_sem] theorem c52_i2 : c52.li 2 = [1, 6, 7] := rfl
@[go_sem] theorem c52_i3 : c52.li 3 = [7] := rfl
@[go_sem] theorem c52_i4 : c52.li 4 = [1, 6] := rfl
@[go_sem] theorem c52_i5 : c52.li 5 = [6, 8, 9] := rfl
@[go_sem] theorem c52_i6 : c52.li 6 = [] := rfl
@[go_sem] theorem c52_i7 : c52.li 7 = [6, 8] := rfl
@[go_sem] theorem c52_i8 : c52.li 8 = [6] := rfl
@[go_sem] theorem c52_r0 (p0 : List UInt8) (key1 : List UInt8) (K : Env → W) : RP c52 0 [(0, str p0), (1, str key1)] K =
    (K [(0, str p0), (1, str key1)]) := by kernel_rfl
@[go_sem] theorem c52_r1 (p0 : List UInt8) (key1 : List UInt8) (K : Env → W) : RP c52 1 [(0, str p0), (1, str key1)] K =
    (cal (eT2 eP eI) Try.prog 83 #[str p0, v_api_Cell ((⟨([] : List UInt8), ([] : List UInt8)⟩ : api_Cell))] fun (y1_ : ((Option Addr) × Int)) => (K [(1, str key1), (6, .pointer y1_.1), (7, .int .i64 y1_.2)])) := by kernel_rfl
@[go_sem] theorem c52_r2 (key1 : List UInt8) (m6 : Option Addr) (e7 : Int) (K : Env → W) : RP c52 2 [(1, str key1), (6, .pointer m6), (7, .int .i64 e7)] K =
    (K [(1, str key1), (6, .pointer m6), (7, .int .i64 e7), (17, .bool ((e7 != (0 : Int))))]) := by kernel_rfl
@[go_sem] theorem c52_r3 (e7 : Int) (K : Env → W) : RP c52 3 [(7, .int .i64 e7)] K =
    (K [(4, str (([] : List UInt8))), (5, .int .i64 e7)]) := by kernel_rfl
@[go_sem] theorem c52_r4 (key1 : List UInt8) (m6 : Option Addr) (K : Env → W) : RP c52 4 [(1, str key1), (6, .pointer m6)] K =
    (cal (eT2 eI eB) Try.prog 84 #[.pointer m6, str key1] fun (y1_ : (Int × Bool)) => (K [(6, .pointer m6), (8, .int .i64 y1_.1), (9, .bool y1_.2)])) := by kernel_rfl
@[go_sem] theorem c52_r5 (m6 : Option Addr) (i8 : Int) (there9 : Bool) (K : Env → W) : RP c52 5 [(6, .pointer m6), (8, .int .i64 i8), (9, .bool there9)] K =
    (K [(6, .pointer m6), (8, .int .i64 i8), (26, .bool ((!there9)))]) := by kernel_rfl
@[go_sem] theorem c52_r6 (K : Env → W) : RP c52 6 [] K =
    (K [(4, str (([] : List UInt8))), (5, .int .i64 ((8 : Int)))]) := by kernel_rfl
@[go_sem] theorem c52_r7 (m6 : Option Addr) (i8 : Int) (K : Env → W) : RP c52 7 [(6, .pointer m6), (8, .int .i64 i8)] K =
    (cal eN Try.prog 85 #[.pointer m6, .int .i64 i8] fun (y1_ : Unit) => (K [(6, .pointer m6)])) := by kernel_rfl
@[go_sem] theorem c52_r8 (m6 : Option Addr) (K : Env → W) : RP c52 8 [(6, .pointer m6)] K =
    (cal eS Try.prog 78 #[.pointer m6] fun (y1_ : List UInt8) => (K [(4, str y1_), (5, .int .i64 ((0 : Int)))])) := by kernel_rfl
@[go_sem] theorem c52_o : c52.lo 1000000 = [4, 5] := rfl
@[go_sem] theorem c52_e (t4 : List UInt8) (t5 : Int) (k : Value → W) : RTp c52 [(4, str t4), (5, .int .i64 t5)] k = (k (.tuple #[str t4, .int .i64 t5])) := by kernel_rfl
theorem c52_ok : (c52.P.follows .mixedOrders && okc c52 c52.body) = true := by kernel_rfl
theorem c52_fn {e : Enc} {args : Array Value} {G : e.α → W} {L : List HP} {ρ : Env} (hρ : envA 0 args.toList = ρ) (hs : Nat.ble args.size 32 = true) (h : E L (D c52 (.seq (.reg 0) (.seq (.reg 1) (.seq (.seq (.reg 2) (.cond (.tmp 17) (.seq (.reg 3) (.ret)) (.skip))) (.seq (.reg 4) (.seq (.seq (.reg 5) (.cond (.tmp 26) (.seq (.reg 6) (.ret)) (.skip))) (.seq (.reg 7) (.seq (.reg 8) (.ret)))))))) (fnQ c52 e G) ρ)) : E L (cal e Try.prog 52 args G) :=
  d_fn (c := c52) Try.func52 (by kernel_rfl) (by kernel_rfl) (by kernel_rfl) c52_ok (by kernel_rfl) (by kernel_rfl) hρ hs h
/-! gharry.gharrylaw05.place -/
noncomputable def c53 : Cfg := { P := Try.prog, n := 36, T := TT, body := (Try.f53.body).getD .skip, res := Try.f53.results.toList, li := lk [] [(0, [0, 1]), (1, [0, 1]), (2, [0, 1, 6]), (3, [0, 1, 6]), (4, [0, 1, 6])], lo := lk [] [(0, [0, 1]), (1, [0, 1, 6]), (2, [0, 1, 6, 19]), (3, [0, 1, 6]), (4, [4, 5]), (1000000, [4, 5])], ord := lk (false, []) [(4, (true, [(0, 1), (1, 1), (2, 1), (3, 1), (4, 1), (5, 1), (6, 1), (7, 1), (8, 1), (9, 1), (10, 0), (11, 1), (12, 1), (13, 1), (14, 1), (15, 1)]))] }
@[go_sem] theorem c53_i0 : c53.li 0 = [0, 1] := rfl
@[go_sem] theorem c53_i1 : c53.li 1 = [0, 1] := rfl
@[go_sem] theorem c53_i2 : c53.li 2 = [0, 1, 6] := rfl
@[go_sem] theorem c53_i3 : c53.li 3 = [0, 1, 6] := rfl
@[go_sem] theorem c53_i4 : c53.li 4 = [0, 1, 6] := rfl
@[go_sem] theorem c53_r0 (l0p : Option Addr) (l0n l0c : Nat) (key1 : List UInt8) (K : Env → W) : RP c53 0 [(0, .slice l0p l0n l0c), (1, str key1)] K =
    (K [(0, .slice l0p l0n l0c), (1, str key1)]) := by kernel_rfl
@[go_sem] theorem c53_r1 (l0p : Option Addr) (l0n l0c : Nat) (key1 : List UInt8) (K : Env → W) : RP c53 1 [(0, .slice l0p l0n l0c), (1, str key1)] K =
    (K [(0, .slice l0p l0n l0c), (1, str key1), (6, .int .i64 ((0 : Int)))]) := by kernel_rfl
@[go_sem] theorem c53_r2 (l0p : Option Addr) (l0n l0c : Nat) (key1 : List UInt8) (i6 : Int) (K : Env → W) : RP c53 2 [(0, .slice l0p l0n l0c), (1, str key1), (6, .int .i64 i6)] K =
    (cnd ((decide (i6 < (l0n : Int)))) (rq (0 ≤ i6 ∧ i6 < (l0n : Int)) (nn l0p fun y1_ => (ld eS ((Addr.add y1_ ((i6).toNat * 2))) fun (y2_ : List UInt8) => (K [(0, .slice l0p l0n l0c), (1, str key1), (6, .int .i64 i6), (19, .bool ((Op.bytesLess y2_ key1)))])))) (K [(0, .slice l0p l0n l0c), (1, str key1), (6, .int .i64 i6), (19, .bool false)])) := by kernel_rfl
@[go_sem] theorem c53_r3 (l0p : Option Addr) (l0n l0c : Nat) (key1 : List UInt8) (i6 : Int) (K : Env → W) : RP c53 3 [(0, .slice l0p l0n l0c), (1, str key1), (6, .int .i64 i6)] K =
    (K [(0, .slice l0p l0n l0c), (1, str key1), (6, .int .i64 ((IntKind.wrap .i64 (i6 + (1 : Int)))))]) := by kernel_rfl
@[go_sem] theorem c53_r4 (l0p : Option Addr) (l0n l0c : Nat) (key1 : List UInt8) (i6 : Int) (K : Env → W) : RP c53 4 [(0, .slice l0p l0n l0c), (1, str key1), (6, .int .i64 i6)] K =
    (ph fun S0 => (cnd ((decide (i6 < (l0n : Int)))) (rq (0 ≤ i6 ∧ i6 < (l0n : Int)) (nn l0p fun y1_ => (ldq S0 eS ((Addr.add y1_ ((i6).toNat * 2))) fun (y2_ : List UInt8) => (K [(4, .int .i64 i6), (5, .bool ((y2_ == key1)))])))) (K [(4, .int .i64 i6), (5, .bool false)]))) := by kernel_rfl
@[go_sem] theorem c53_o : c53.lo 1000000 = [4, 5] := rfl
@[go_sem] theorem c53_e (t4 : Int) (t5 : Bool) (k : Value → W) : RTp c53 [(4, .int .i64 t4), (5, .bool t5)] k = (k (.tuple #[.int .i64 t4, .bool t5])) := by kernel_rfl
theorem c53_ok : (c53.P.follows .mixedOrders && okc c53 c53.body) = true := by kernel_rfl
theorem c53_fn {e : Enc} {args : Array Value} {G : e.α → W} {L : List HP} {ρ : Env} (hρ : envA 0 args.toList = ρ) (hs : Nat.ble args.size 36 = true) (h : E L (D c53 (.seq (.reg 0) (.seq (.reg 1) (.seq (.block 0 (.loop (.seq (.seq (.reg 2) (.cond (.tmp 19) (.skip) (.exit 0))) (.block 1 (.reg 3))))) (.seq (.reg 4) (.ret))))) (fnQ c53 e G) ρ)) : E L (cal e Try.prog 53 args G) :=
  d_fn (c := c53) Try.func53 (by kernel_rfl) (by kernel_rfl) (by kernel_rfl) c53_ok (by kernel_rfl) (by kernel_rfl) hρ hs h
-- loop (first region 2): live slots 0:l0 1:key1 6:i6, of which it writes [6]
/-! gharry.gharrylaw05.dropped -/
noncomputable def c54 : Cfg := { P := Try.prog, n := 35, T := TT, body := (Try.f54.body).getD .skip, res := Try.f54.results.toList, li := lk [] [(0, [0, 1, 2]), (1, [0, 1, 2]), (2, [0, 1, 7])], lo := lk [] [(0, [0, 1, 2]), (1, [0, 1, 7]), (2, [6]), (1000000, [6])], ord := lk (false, []) [(1, (false, [(0, 1), (1, 1), (2, 1), (3, 1), (4, 1), (5, 1), (6, 1), (7, 1), (8, 1), (9, 1), (10, 1), (11, 1)])), (2, (false, [(0, 1), (1, 1), (2, 1), (3, 1), (4, 1), (8, 1), (9, 1), (10, 1), (11, 1), (14, 1), (5, 3), (6, 0), (7, 1), (12, 1), (13, 1), (15, 1), (16, 1)]))] }
@[go_sem] theorem c54_i0 : c54.li 0 = [0, 1, 2] := rfl
@[go_sem] theorem c54_i1 : c54.li 1 = [0, 1, 2] := rfl
@[go_sem] theorem c54_i2 : c54.li 2 = [0, 1, 7] := rfl
@[go_sem] theorem c54_r0 (p0 : List UInt8) (n1 : Int) (i2 : Int) (K : Env → W) : RP c54 0 [(0, str p0), (1, .int .i64 n1), (2, .int .i64 i2)] K =
    (K [(0, str p0), (1, .int .i64 n1), (2, .int .i64 i2)]) := by kernel_rfl
@[go_sem] theorem c54_r1 (p0 : List UInt8) (n1 : Int) (i2 : Int) (K : Env → W) : RP c54 1 [(0, str p0), (1, .int .i64 n1), (2, .int .i64 i2)] K =
    (rq (0 ≤ ((IntKind.wrap .i64 ((224 : Int) - n1)) : Int) ∧ (IntKind.wrap .i64 ((224 : Int) - n1)) ≤ (IntKind.wrap .i64 ((223 : Int) - i2)) ∧ (IntKind.wrap .i64 ((223 : Int) - i2)) ≤ ((p0).length : Int)) (rq (0 ≤ ((IntKind.wrap .i64 ((224 : Int) - i2)) : Int) ∧ (IntKind.wrap .i64 ((224 : Int) - i2)) ≤ ((p0).length : Int) ∧ ((p0).length : Int) ≤ ((p0).length : Int)) (rq ((((ss p0 ((IntKind.wrap .i64 ((224 : Int) - n1))) ((IntKind.wrap .i64 ((223 : Int) - i2))))).length : Int) + (((ss p0 ((IntKind.wrap .i64 ((224 : Int) - i2))) (((p0).length : Int)))).length : Int) ≤ 9223372036854775807) (K [(0, str p0), (1, .int .i64 n1), (7, str (((ss p0 ((IntKind.wrap .i64 ((224 : Int) - n1))) ((IntKind.wrap .i64 ((223 : Int) - i2)))) ++ (ss p0 ((IntKind.wrap .i64 ((224 : Int) - i2))) (((p0).length : Int))))))])))) := by kernel_rfl
@[go_sem] theorem c54_r2 (p0 : List UInt8) (n1 : Int) (slots7 : List UInt8) (K : Env → W) : RP c54 2 [(0, str p0), (1, .int .i64 n1), (7, str slots7)] K =
    (rq (0 ≤ (0 : Int) ∧ 0 ≤ (2 : Int) ∧ (2 : Int) ≤ ((p0).length : Int)) (rq (0 ≤ ((3 : Int) : Int) ∧ (3 : Int) ≤ (IntKind.wrap .i64 ((224 : Int) - n1)) ∧ (IntKind.wrap .i64 ((224 : Int) - n1)) ≤ ((p0).length : Int)) (nwc #[.int .u8 ((IntKind.wrap .u8 ((IntKind.wrap .i64 (n1 - (1 : Int))))))] 5 fun y1_ => (ph fun S1 => (valq S1 eS Try.prog (oConv 103 9 (.slice ((some y1_)) 1 1)) fun (y2_ : List UInt8) => (rq ((((ss p0 0 ((2 : Int)))).length : Int) + ((y2_).length : Int) ≤ 9223372036854775807) (rq (((((ss p0 0 ((2 : Int))) ++ y2_)).length : Int) + (((ss p0 ((3 : Int)) ((IntKind.wrap .i64 ((224 : Int) - n1))))).length : Int) ≤ 9223372036854775807) (rq ((((((ss p0 0 ((2 : Int))) ++ y2_) ++ (ss p0 ((3 : Int)) ((IntKind.wrap .i64 ((224 : Int) - n1)))))).length : Int) + ((([0] : List UInt8)).length : Int) ≤ 9223372036854775807) (rq (((((((ss p0 0 ((2 : Int))) ++ y2_) ++ (ss p0 ((3 : Int)) ((IntKind.wrap .i64 ((224 : Int) - n1))))) ++ ([0] : List UInt8))).length : Int) + ((slots7).length : Int) ≤ 9223372036854775807) (K [(6, str ((((((ss p0 0 ((2 : Int))) ++ y2_) ++ (ss p0 ((3 : Int)) ((IntKind.wrap .i64 ((224 : Int) - n1))))) ++ ([0] : List UInt8)) ++ slots7)))])))))))))) := by kernel_rfl
@[go_sem] theorem c54_o : c54.lo 1000000 = [6] := rfl
@[go_sem] theorem c54_e (t6 : List UInt8) (k : Value → W) : RTp c54 [(6, str t6)] k = (k (str t6)) := by kernel_rfl
theorem c54_ok : (c54.P.follows .mixedOrders && okc c54 c54.body) = true := by kernel_rfl
theorem c54_fn {e : Enc} {args : Array Value} {G : e.α → W} {L : List HP} {ρ : Env} (hρ : envA 0 args.toList = ρ) (hs : Nat.ble args.size 35 = true) (h : E L (D c54 (.seq (.reg 0) (.seq (.reg 1) (.seq (.reg 2) (.ret)))) (fnQ c54 e G) ρ)) : E L (cal e Try.prog 54 args G) :=
  d_fn (c := c54) Try.func54 (by kernel_rfl) (by kernel_rfl) (by kernel_rfl) c54_ok (by kernel_rfl) (by kernel_rfl) hρ hs h
/-! gharry.gharrylaw05.same -/
noncomputable def c55 : Cfg := { P := Try.prog, n := 26, T := TT, body := (Try.f55.body).getD .skip, res := Try.f55.results.toList, li := lk [] [(0, [0, 1]), (1, [0, 1]), (2, []), (3, [0, 1]), (4, [0, 1, 5]), (5, [0, 1, 5]), (6, [0, 1, 5]), (7, []), (8, [])], lo := lk [] [(0, [0, 1]), (1, [0, 1, 10]), (2, [4]), (3, [0, 1, 5]), (4, [0, 1, 5, 14]), (5, [0, 1, 5]), (6, [0, 1, 5, 25]), (7, [4]), (8, [4]), (1000000, [4])], ord := lk (false, []) [(6, (true, [(0, 1), (1, 1), (2, 1), (3, 0), (4, 1), (5, 1), (6, 1), (7, 0), (8, 0)]))] }
@[go_sem] theorem c55_i0 : c55.li 0 = [0, 1] := rfl
@[go_sem] theorem c55_i1 : c55.li 1 = [0, 1] := rfl
@[go_sem] theorem c55_i2 : c55.li 2 = [] := rfl
@[go_sem] theorem c55_i3 : c55.li 3 = [0, 1] := rfl
@[go_sem] theorem c55_i4 : c55.li 4 = [0, 1, 5] := rfl
@[go_sem] theorem c55_i5 : c55.li 5 = [0, 1, 5] := rfl
@[go_sem] theorem c55_i6 : c55.li 6 = [0, 1, 5] := rfl
@[go_sem] theorem c55_i7 : c55.li 7 = [] := rfl
@[go_sem] theorem c55_i8 : c55.li 8 = [] := rfl
@[go_sem] theorem c55_r0 (a0p : Option Addr) (a0n a0c : Nat) (b1p : Option Addr) (b1n b1c : Nat) (K : Env → W) : RP c55 0 [(0, .slice a0p a0n a0c), (1, .slice b1p b1n b1c)] K =
    (K [(0, .slice a0p a0n a0c), (1, .slice b1p b1n b1c)]) := by kernel_rfl
@[go_sem] theorem c55_r1 (a0p : Option Addr) (a0n a0c : Nat) (b1p : Option Addr) (b1n b1c : Nat) (K : Env → W) : RP c55 1 [(0, .slice a0p a0n a0c), (1, .slice b1p b1n b1c)] K =
    (K [(0, .slice a0p a0n a0c), (1, .slice b1p b1n b1c), (10, .bool (((a0n : Int) != (b1n : Int))))]) := by kernel_rfl
@[go_sem] theorem c55_r2 (K : Env → W) : RP c55 2 [] K =
    (K [(4, .bool false)]) := by kernel_rfl
@[go_sem] theorem c55_r3 (a0p : Option Addr) (a0n a0c : Nat) (b1p : Option Addr) (b1n b1c : Nat) (K : Env → W) : RP c55 3 [(0, .slice a0p a0n a0c), (1, .slice b1p b1n b1c)] K =
    (K [(0, .slice a0p a0n a0c), (1, .slice b1p b1n b1c), (5, .int .i64 ((0 : Int)))]) := by kernel_rfl
@[go_sem] theorem c55_r4 (a0p : Option Addr) (a0n a0c : Nat) (b1p : Option Addr) (b1n b1c : Nat) (i5 : Int) (K : Env → W) : RP c55 4 [(0, .slice a0p a0n a0c), (1, .slice b1p b1n b1c), (5, .int .i64 i5)] K =
    (K [(0, .slice a0p a0n a0c), (1, .slice b1p b1n b1c), (5, .int .i64 i5), (14, .bool ((decide (i5 < (a0n : Int)))))]) := by kernel_rfl
@[go_sem] theorem c55_r5 (a0p : Option Addr) (a0n a0c : Nat) (b1p : Option Addr) (b1n b1c : Nat) (i5 : Int) (K : Env → W) : RP c55 5 [(0, .slice a0p a0n a0c), (1, .slice b1p b1n b1c), (5, .int .i64 i5)] K =
    (K [(0, .slice a0p a0n a0c), (1, .slice b1p b1n b1c), (5, .int .i64 ((IntKind.wrap .i64 (i5 + (1 : Int)))))]) := by kernel_rfl
@[go_sem] theorem c55_r6 (a0p : Option Addr) (a0n a0c : Nat) (b1p : Option Addr) (b1n b1c : Nat) (i5 : Int) (K : Env → W) : RP c55 6 [(0, .slice a0p a0n a0c), (1, .slice b1p b1n b1c), (5, .int .i64 i5)] K =
    (ph fun S0 => (rq (0 ≤ i5 ∧ i5 < (a0n : Int)) (nn a0p fun y1_ => (ldnq S0 e_api_Cell 2 ((Addr.add y1_ ((i5).toNat * 2))) fun (y2_ : api_Cell) => (rq (0 ≤ i5 ∧ i5 < (b1n : Int)) (nn b1p fun y3_ => (ldnq S0 e_api_Cell 2 ((Addr.add y3_ ((i5).toNat * 2))) fun (y4_ : api_Cell) => (valq S0 eB Try.prog (oEq .neq 55 (.tmp 20) (.tmp 24) (v_api_Cell y2_) (v_api_Cell y4_)) fun (y5_ : Bool) => (K [(0, .slice a0p a0n a0c), (1, .slice b1p b1n b1c), (5, .int .i64 i5), (25, .bool y5_)]))))))))) := by kernel_rfl
@[go_sem] theorem c55_r7 (K : Env → W) : RP c55 7 [] K =
    (K [(4, .bool false)]) := by kernel_rfl
@[go_sem] theorem c55_r8 (K : Env → W) : RP c55 8 [] K =
    (K [(4, .bool true)]) := by kernel_rfl
@[go_sem] theorem c55_o : c55.lo 1000000 = [4] := rfl
@[go_sem] theorem c55_e (t4 : Bool) (k : Value → W) : RTp c55 [(4, .bool t4)] k = (k (.bool t4)) := by kernel_rfl
theorem c55_ok : (c55.P.follows .mixedOrders && okc c55 c55.body) = true := by kernel_rfl
theorem c55_fn {e : Enc} {args : Array Value} {G : e.α → W} {L : List HP} {ρ : Env} (hρ : envA 0 args.toList = ρ) (hs : Nat.ble args.size 26 = true) (h : E L (D c55 (.seq (.reg 0) (.seq (.seq (.reg 1) (.cond (.tmp 10) (.seq (.reg 2) (.ret)) (.skip))) (.seq (.seq (.reg 3) (.block 0 (.loop (.seq (.seq (.reg 4) (.cond (.tmp 14) (.skip) (.exit 0))) (.seq (.block 1 (.seq (.reg 6) (.cond (.tmp 25) (.seq (.reg 7) (.ret)) (.skip)))) (.reg 5)))))) (.seq (.reg 8) (.ret))))) (fnQ c55 e G) ρ)) : E L (cal e Try.prog 55 args G) :=
  d_fn (c := c55) Try.func55 (by kernel_rfl) (by kernel_rfl) (by kernel_rfl) c55_ok (by kernel_rfl) (by kernel_rfl) hρ hs h
-- loop (first region 4): live slots 0:a0 1:b1 5:i5, of which it writes [5]
/-! gharry.page.Cells -/
noncomputable def c56 : Cfg := { P := Try.prog, n := 14, T := TT, body := (Try.f56.body).getD .skip, res := Try.f56.results.toList, li := lk [] [(0, [0]), (1, [0]), (2, [3, 4]), (3, []), (4, [3])], lo := lk [] [(0, [0]), (1, [3, 4]), (2, [3, 11]), (3, [2]), (4, [2]), (1000000, [2])], ord := lk (false, []) [] }
@[go_sem] theorem c56_i0 : c56.li 0 = [0] := rfl
@[go_sem] theorem c56_i1 : c56.li 1 = [0] := rfl
@[go_sem] theorem c56_i2 : c56.li 2 = [3, 4] := rfl
@[go_sem] theorem c56_i3 : c56.li 3 = [] := rfl
@[go_sem] theorem c56_i4 : c56.li 4 = [3] := rfl
@[go_sem] theorem c56_r0 (p0 : List UInt8) (K : Env → W) : RP c56 0 [(0, str p0)] K =
    (K [(0, str p0)]) := by kernel_rfl
@[go_sem] theorem c56_r1 (p0 : List UInt8) (K : Env → W) : RP c56 1 [(0, str p0)] K =
    (cal (eT2 eP eB) Try.prog 75 #[str p0] fun (y1_ : ((Option Addr) × Bool)) => (K [(3, .pointer y1_.1), (4, .bool y1_.2)])) := by kernel_rfl
@[go_sem] theorem c56_r2 (m3 : Option Addr) (ok4 : Bool) (K : Env → W) : RP c56 2 [(3, .pointer m3), (4, .bool ok4)] K =
    (K [(3, .pointer m3), (11, .bool ((!ok4)))]) := by kernel_rfl
@[go_sem] theorem c56_r3 (K : Env → W) : RP c56 3 [] K =
    (K [(2, .slice none 0 0)]) := by kernel_rfl
@[go_sem] theorem c56_r4 (m3 : Option Addr) (K : Env → W) : RP c56 4 [(3, .pointer m3)] K =
    (cal eSl Try.prog 82 #[.pointer m3] fun (y1_ : (Option Addr × Nat × Nat)) => (K [(2, .slice y1_.1 y1_.2.1 y1_.2.2)])) := by kernel_rfl
@[go_sem] theorem c56_o : c56.lo 1000000 = [2] := rfl
@[go_sem] theorem c56_e (t2p : Option Addr) (t2n t2c : Nat) (k : Value → W) : RTp c56 [(2, .slice t2p t2n t2c)] k = (k (.slice t2p t2n t2c)) := by kernel_rfl
theorem c56_ok : (c56.P.follows .mixedOrders && okc c56 c56.body) = true := by kernel_rfl
theorem c56_fn {e : Enc} {args : Array Value} {G : e.α → W} {L : List HP} {ρ : Env} (hρ : envA 0 args.toList = ρ) (hs : Nat.ble args.size 14 = true) (h : E L (D c56 (.seq (.reg 0) (.seq (.reg 1) (.seq (.seq (.reg 2) (.cond (.tmp 11) (.seq (.reg 3) (.ret)) (.skip))) (.seq (.reg 4) (.ret))))) (fnQ c56 e G) ρ)) : E L (cal e Try.prog 56 args G) :=
  d_fn (c := c56) Try.func56 (by kernel_rfl) (by kernel_rfl) (by kernel_rfl) c56_ok (by kernel_rfl) (by kernel_rfl) hρ hs h
/-! gharry.gharrylaw05.without -/
noncomputable def c57 : Cfg := { P := Try.prog, n := 17, T := TT, body := (Try.f57.body).getD .skip, res := Try.f57.results.toList, li := lk [] [(0, [0, 1]), (1, [0, 1]), (2, [0, 1, 5])], lo := lk [] [(0, [0, 1]), (1, [0, 1, 5]), (2, [4]), (1000000, [4])], ord := lk (false, []) [] }
@[go_sem] theorem c57_i0 : c57.li 0 = [0, 1] := rfl
@[go_sem] theorem c57_i1 : c57.li 1 = [0, 1] := rfl
@[go_sem] theorem c57_i2 : c57.li 2 = [0, 1, 5] := rfl
@[go_sem] theorem c57_r0 (l0p : Option Addr) (l0n l0c : Nat) (i1 : Int) (K : Env → W) : RP c57 0 [(0, .slice l0p l0n l0c), (1, .int .i64 i1)] K =
    (K [(0, .slice l0p l0n l0c), (1, .int .i64 i1)]) := by kernel_rfl
@[go_sem] theorem c57_r1 (l0p : Option Addr) (l0n l0c : Nat) (i1 : Int) (K : Env → W) : RP c57 1 [(0, .slice l0p l0n l0c), (1, .int .i64 i1)] K =
    (nwc #[] 55 fun y1_ => (rq (0 ≤ (0 : Int) ∧ 0 ≤ i1 ∧ i1 ≤ (l0c : Int)) (val eSl Try.prog (oB_append #[58, 58] 58 #[.slice ((some y1_)) 0 0, .slice ((slp l0p 0 (l0c : Int) 2)) (((i1).toNat - (0 : Int).toNat)) ((((l0c : Int)).toNat - (0 : Int).toNat))]) fun (y2_ : (Option Addr × Nat × Nat)) => (K [(0, .slice l0p l0n l0c), (1, .int .i64 i1), (5, .slice y2_.1 y2_.2.1 y2_.2.2)])))) := by kernel_rfl
@[go_sem] theorem c57_r2 (l0p : Option Addr) (l0n l0c : Nat) (i1 : Int) (out5p : Option Addr) (out5n out5c : Nat) (K : Env → W) : RP c57 2 [(0, .slice l0p l0n l0c), (1, .int .i64 i1), (5, .slice out5p out5n out5c)] K =
    (rq (0 ≤ ((IntKind.wrap .i64 (i1 + (1 : Int))) : Int) ∧ (IntKind.wrap .i64 (i1 + (1 : Int))) ≤ (l0n : Int) ∧ (l0n : Int) ≤ (l0c : Int)) (val eSl Try.prog (oB_append #[58, 58] 58 #[.slice out5p out5n out5c, .slice ((slp l0p ((IntKind.wrap .i64 (i1 + (1 : Int)))) (l0c : Int) 2)) ((((l0n : Int)).toNat - ((IntKind.wrap .i64 (i1 + (1 : Int))) : Int).toNat)) ((((l0c : Int)).toNat - ((IntKind.wrap .i64 (i1 + (1 : Int))) : Int).toNat))]) fun (y1_ : (Option Addr × Nat × Nat)) => (K [(4, .slice y1_.1 y1_.2.1 y1_.2.2)]))) := by kernel_rfl
@[go_sem] theorem c57_o : c57.lo 1000000 = [4] := rfl
@[go_sem] theorem c57_e (t4p : Option Addr) (t4n t4c : Nat) (k : Value → W) : RTp c57 [(4, .slice t4p t4n t4c)] k = (k (.slice t4p t4n t4c)) := by kernel_rfl
theorem c57_ok : (c57.P.follows .mixedOrders && okc c57 c57.body) = true := by kernel_rfl
theorem c57_fn {e : Enc} {args : Array Value} {G : e.α → W} {L : List HP} {ρ : Env} (hρ : envA 0 args.toList = ρ) (hs : Nat.ble args.size 17 = true) (h : E L (D c57 (.seq (.reg 0) (.seq (.reg 1) (.seq (.reg 2) (.ret)))) (fnQ c57 e G) ρ)) : E L (cal e Try.prog 57 args G) :=
  d_fn (c := c57) Try.func57 (by kernel_rfl) (by kernel_rfl) (by kernel_rfl) c57_ok (by kernel_rfl) (by kernel_rfl) hρ hs h
/-! gharry.page.Find -/
noncomputable def c58 : Cfg := { P := Try.prog, n := 20, T := TT, body := (Try.f58.body).getD .skip, res := Try.f58.results.toList, li := lk [] [(0, [0, 1]), (1, [0, 1]), (2, [1, 6, 7]), (3, []), (4, [1, 6])], lo := lk [] [(0, [0, 1]), (1, [1, 6, 7]), (2, [1, 6, 14]), (3, [4, 5]), (4, [4, 5]), (1000000, [4, 5])], ord := lk (false, []) [] }
@[go_sem] theorem c58_i0 : c58.li 0 = [0, 1] := rfl
@[go_sem] theorem c58_i1 : c58.li 1 = [0, 1] := rfl
@[go_sem] theorem c58_i2 : c58.li 2 = [1, 6, 7] := rfl
@[go_sem] theorem c58_i3 : c58.li 3 = [] := rfl
@[go_sem] theorem c58_i4 : c58.li 4 = [1, 6] := rfl
@[go_sem] theorem c58_r0 (p0 : List UInt8) (key1 : List UInt8) (K : Env → W) : RP c58 0 [(0, str p0), (1, str key1)] K =
    (K [(0, str p0), (1, str key1)]) := by kernel_rfl
@[go_sem] theorem c58_r1 (p0 : List UInt8) (key1 : List UInt8) (K : Env → W) : RP c58 1 [(0, str p0), (1, str key1)] K =
    (cal (eT2 eP eB) Try.prog 75 #[str p0] fun (y1_ : ((Option Addr) × Bool)) => (K [(1, str key1), (6, .pointer y1_.1), (7, .bool y1_.2)])) := by kernel_rfl
@[go_sem] theorem c58_r2 (key1 : List UInt8) (m6 : Option Addr) (ok7 : Bool) (K : Env → W) : RP c58 2 [(1, str key1), (6, .pointer m6), (7, .bool ok7)] K =
    (K [(1, str key1), (6, .pointer m6), (14, .bool ((!ok7)))]) := by kernel_rfl
@[go_sem] theorem c58_r3 (K : Env → W) : RP c58 3 [] K =
    (K [(4, .int .i64 ((0 : Int))), (5, .bool false)]) := by kernel_rfl
@[go_sem] theorem c58_r4 (key1 : List UInt8) (m6 : Option Addr) (K : Env → W) : RP c58 4 [(1, str key1), (6, .pointer m6)] K =
    (cal (eT2 eI eB) Try.prog 84 #[.pointer m6, str key1] fun (y1_ : (Int × Bool)) => (K [(4, .int .i64 y1_.1), (5, .bool y1_.2)])) := by kernel_rfl
@[go_sem] theorem c58_o : c58.lo 1000000 = [4, 5] := rfl
@[go_sem] theorem c58_e (t4 : Int) (t5 : Bool) (k : Value → W) : RTp c58 [(4, .int .i64 t4), (5, .bool t5)] k = (k (.tuple #[.int .i64 t4, .bool t5])) := by kernel_rfl
theorem c58_ok : (c58.P.follows .mixedOrders && okc c58 c58.body) = true := by kernel_rfl
theorem c58_fn {e : Enc} {args : Array Value} {G : e.α → W} {L : List HP} {ρ : Env} (hρ : envA 0 args.toList = ρ) (hs : Nat.ble args.size 20 = true) (h : E L (D c58 (.seq (.reg 0) (.seq (.reg 1) (.seq (.seq (.reg 2) (.cond (.tmp 14) (.seq (.reg 3) (.ret)) (.skip))) (.seq (.reg 4) (.ret))))) (fnQ c58 e G) ρ)) : E L (cal e Try.prog 58 args G) :=
  d_fn (c := c58) Try.func58 (by kernel_rfl) (by kernel_rfl) (by kernel_rfl) c58_ok (by kernel_rfl) (by kernel_rfl) hρ hs h
/-! gharry.page.At -/
noncomputable def c59 : Cfg := { P := Try.prog, n := 32, T := TT, body := (Try.f59.body).getD .skip, res := Try.f59.results.toList, li := lk [] [(0, [0, 1]), (1, [0, 1, 4]), (2, [1, 4, 6, 7]), (3, [4]), (4, [1, 4, 6]), (5, [4]), (6, [1, 4, 6])], lo := lk [] [(0, [0, 1, 4]), (1, [1, 4, 6, 7]), (2, [1, 4, 6, 13]), (3, [4, 5]), (4, [1, 4, 6, 17]), (5, [4, 5]), (6, [4, 5]), (1000000, [4, 5])], ord := lk (false, []) [] }
@[go_sem] theorem c59_i0 : c59.li 0 = [0, 1] := rfl
@[go_sem] theorem c59_i1 : c59.li 1 = [0, 1, 4] := rfl
@[go_sem] theorem c59_i2 : c59.li 2 = [1, 4, 6, 7] := rfl
@[go_sem] theorem c59_i3 : c59.li 3 = [4] := rfl
@[go_sem] theorem c59_i4 : c59.li 4 = [1, 4, 6] := rfl
@[go_sem] theorem c59_i5 : c59.li 5 = [4] := rfl
@[go_sem] theorem c59_i6 : c59.li 6 = [1, 4, 6] := rfl
@[go_sem] theorem c59_r0 (p0 : List UInt8) (i1 : Int) (K : Env → W) : RP c59 0 [(0, str p0), (1, .int .i64 i1)] K =
    (nwc #[str (([] : List UInt8)), str (([] : List UInt8))] 55 fun y1_ => (K [(0, str p0), (1, .int .i64 i1), (4, .pointer (some y1_))])) := by kernel_rfl
@[go_sem] theorem c59_r1 (p0 : List UInt8) (i1 : Int) (t4 : Addr) (K : Env → W) : RP c59 1 [(0, str p0), (1, .int .i64 i1), (4, .pointer (some t4))] K =
    (cal (eT2 eP eB) Try.prog 75 #[str p0] fun (y1_ : ((Option Addr) × Bool)) => (K [(1, .int .i64 i1), (4, .pointer (some t4)), (6, .pointer y1_.1), (7, .bool y1_.2)])) := by kernel_rfl
@[go_sem] theorem c59_r2 (i1 : Int) (t4 : Addr) (m6 : Option Addr) (ok7 : Bool) (K : Env → W) : RP c59 2 [(1, .int .i64 i1), (4, .pointer (some t4)), (6, .pointer m6), (7, .bool ok7)] K =
    (K [(1, .int .i64 i1), (4, .pointer (some t4)), (6, .pointer m6), (13, .bool ((!ok7)))]) := by kernel_rfl
@[go_sem] theorem c59_r3 (t4 : Addr) (K : Env → W) : RP c59 3 [(4, .pointer (some t4))] K =
    (stl [str (((⟨([] : List UInt8), ([] : List UInt8)⟩ : api_Cell)).Key), str (((⟨([] : List UInt8), ([] : List UInt8)⟩ : api_Cell)).Val)] t4 0 (K [(4, .pointer (some t4)), (5, .int .i64 ((4 : Int)))])) := by kernel_rfl
@[go_sem] theorem c59_r4 (i1 : Int) (t4 : Addr) (m6 : Option Addr) (K : Env → W) : RP c59 4 [(1, .int .i64 i1), (4, .pointer (some t4)), (6, .pointer m6)] K =
    (cnd ((decide (i1 < (0 : Int)))) (K [(1, .int .i64 i1), (4, .pointer (some t4)), (6, .pointer m6), (17, .bool true)]) (cal eI Try.prog 81 #[.pointer m6] fun (y1_ : Int) => (K [(1, .int .i64 i1), (4, .pointer (some t4)), (6, .pointer m6), (17, .bool ((decide (y1_ ≤ i1))))]))) := by kernel_rfl
@[go_sem] theorem c59_r5 (t4 : Addr) (K : Env → W) : RP c59 5 [(4, .pointer (some t4))] K =
    (stl [str (((⟨([] : List UInt8), ([] : List UInt8)⟩ : api_Cell)).Key), str (((⟨([] : List UInt8), ([] : List UInt8)⟩ : api_Cell)).Val)] t4 0 (K [(4, .pointer (some t4)), (5, .int .i64 ((8 : Int)))])) := by kernel_rfl
@[go_sem] theorem c59_r6 (i1 : Int) (t4 : Addr) (m6 : Option Addr) (K : Env → W) : RP c59 6 [(1, .int .i64 i1), (4, .pointer (some t4)), (6, .pointer m6)] K =
    (cal eI Try.prog 87 #[.pointer m6, .int .i64 i1] fun (y1_ : Int) => (cal e_api_Cell Try.prog 86 #[.pointer m6, .int .i64 y1_] fun (y2_ : api_Cell) => (stl [str y2_.Key, str y2_.Val] t4 0 (K [(4, .pointer (some t4)), (5, .int .i64 ((0 : Int)))])))) := by kernel_rfl
@[go_sem] theorem c59_o : c59.lo 1000000 = [4, 5] := rfl
@[go_sem] theorem c59_e (t4 : Addr) (t5 : Int) (k : Value → W) : RTp c59 [(4, .pointer (some t4)), (5, .int .i64 t5)] k = (ldn e_api_Cell 2 t4 fun (y1_ : api_Cell) => (k (.tuple #[v_api_Cell y1_, .int .i64 t5]))) := by kernel_rfl
theorem c59_ok : (c59.P.follows .mixedOrders && okc c59 c59.body) = true := by kernel_rfl
theorem c59_fn {e : Enc} {args : Array Value} {G : e.α → W} {L : List HP} {ρ : Env} (hρ : envA 0 args.toList = ρ) (hs : Nat.ble args.size 32 = true) (h : E L (D c59 (.seq (.reg 0) (.seq (.reg 1) (.seq (.block 0 (.seq (.reg 2) (.cond (.tmp 13) (.seq (.reg 3) (.ret)) (.seq (.reg 4) (.cond (.tmp 17) (.seq (.reg 5) (.ret)) (.skip)))))) (.seq (.reg 6) (.ret))))) (fnQ c59 e G) ρ)) : E L (cal e Try.prog 59 args G) :=
  d_fn (c := c59) Try.func59 (by kernel_rfl) (by kernel_rfl) (by kernel_rfl) c59_ok (by kernel_rfl) (by kernel_rfl) hρ hs h
/-! gharry.page.Kind -/
noncomputable def c60 : Cfg := { P := Try.prog, n := 16, T := TT, body := (Try.f60.body).getD .skip, res := Try.f60.results.toList, li := lk [] [(0, [0]), (1, [0]), (2, [3, 4]), (3, [3]), (4, [])], lo := lk [] [(0, [0]), (1, [3, 4]), (2, [3, 10]), (3, [2]), (4, [2]), (1000000, [2])], ord := lk (false, []) [] }
@[go_sem] theorem c60_i0 : c60.li 0 = [0] := rfl
@[go_sem] theorem c60_i1 : c60.li 1 = [0] := rfl
@[go_sem] theorem c60_i2 : c60.li 2 = [3, 4] := rfl
@[go_sem] theorem c60_i3 : c60.li 3 = [3] := rfl
@[go_sem] theorem c60_i4 : c60.li 4 = [] := rfl
@[go_sem] theorem c60_r0 (p0 : List UInt8) (K : Env → W) : RP c60 0 [(0, str p0)] K =
    (K [(0, str p0)]) := by kernel_rfl
@[go_sem] theorem c60_r1 (p0 : List UInt8) (K : Env → W) : RP c60 1 [(0, str p0)] K =
    (cal (eT2 eP eB) Try.prog 75 #[str p0] fun (y1_ : ((Option Addr) × Bool)) => (K [(3, .pointer y1_.1), (4, .bool y1_.2)])) := by kernel_rfl
@[go_sem] theorem c60_r2 (m3 : Option Addr) (ok4 : Bool) (K : Env → W) : RP c60 2 [(3, .pointer m3), (4, .bool ok4)] K =
    (K [(3, .pointer m3), (10, .bool ok4)]) := by kernel_rfl
@[go_sem] theorem c60_r3 (m3 : Option Addr) (K : Env → W) : RP c60 3 [(3, .pointer m3)] K =
    (nn m3 fun y1_ => (rq (0 ≤ (0 : Int) ∧ (0 : Int) < ((224 : Nat) : Int)) (ld eU8 ((Addr.add y1_ 0)) fun (y2_ : Int) => (K [(2, .int .i64 ((IntKind.wrap .i64 y2_)))])))) := by kernel_rfl
@[go_sem] theorem c60_r4 (K : Env → W) : RP c60 4 [] K =
    (K [(2, .int .i64 ((0 : Int)))]) := by kernel_rfl
@[go_sem] theorem c60_o : c60.lo 1000000 = [2] := rfl
@[go_sem] theorem c60_e (t2 : Int) (k : Value → W) : RTp c60 [(2, .int .i64 t2)] k = (k (.int .i64 t2)) := by kernel_rfl
theorem c60_ok : (c60.P.follows .mixedOrders && okc c60 c60.body) = true := by kernel_rfl
theorem c60_fn {e : Enc} {args : Array Value} {G : e.α → W} {L : List HP} {ρ : Env} (hρ : envA 0 args.toList = ρ) (hs : Nat.ble args.size 16 = true) (h : E L (D c60 (.seq (.reg 0) (.seq (.seq (.reg 1) (.seq (.reg 2) (.cond (.tmp 10) (.seq (.reg 3) (.ret)) (.skip)))) (.seq (.reg 4) (.ret)))) (fnQ c60 e G) ρ)) : E L (cal e Try.prog 60 args G) :=
  d_fn (c := c60) Try.func60 (by kernel_rfl) (by kernel_rfl) (by kernel_rfl) c60_ok (by kernel_rfl) (by kernel_rfl) hρ hs h
/-! gharry.page.Level -/
noncomputable def c61 : Cfg := { P := Try.prog, n := 16, T := TT, body := (Try.f61.body).getD .skip, res := Try.f61.results.toList, li := lk [] [(0, [0]), (1, [0]), (2, [3, 4]), (3, [3]), (4, [])], lo := lk [] [(0, [0]), (1, [3, 4]), (2, [3, 10]), (3, [2]), (4, [2]), (1000000, [2])], ord := lk (false, []) [] }
@[go_sem] theorem c61_i0 : c61.li 0 = [0] := rfl
@[go_sem] theorem c61_i1 : c61.li 1 = [0] := rfl
@[go_sem] theorem c61_i2 : c61.li 2 = [3, 4] := rfl
@[go_sem] theorem c61_i3 : c61.li 3 = [3] := rfl
@[go_sem] theorem c61_i4 : c61.li 4 = [] := rfl
@[go_sem] theorem c61_r0 (p0 : List UInt8) (K : Env → W) : RP c61 0 [(0, str p0)] K =
    (K [(0, str p0)]) := by kernel_rfl
@[go_sem] theorem c61_r1 (p0 : List UInt8) (K : Env → W) : RP c61 1 [(0, str p0)] K =
    (cal (eT2 eP eB) Try.prog 75 #[str p0] fun (y1_ : ((Option Addr) × Bool)) => (K [(3, .pointer y1_.1), (4, .bool y1_.2)])) := by kernel_rfl
@[go_sem] theorem c61_r2 (m3 : Option Addr) (ok4 : Bool) (K : Env → W) : RP c61 2 [(3, .pointer m3), (4, .bool ok4)] K =
    (K [(3, .pointer m3), (10, .bool ok4)]) := by kernel_rfl
@[go_sem] theorem c61_r3 (m3 : Option Addr) (K : Env → W) : RP c61 3 [(3, .pointer m3)] K =
    (nn m3 fun y1_ => (rq (0 ≤ (1 : Int) ∧ (1 : Int) < ((224 : Nat) : Int)) (ld eU8 ((Addr.add y1_ 1)) fun (y2_ : Int) => (K [(2, .int .i64 ((IntKind.wrap .i64 y2_)))])))) := by kernel_rfl
@[go_sem] theorem c61_r4 (K : Env → W) : RP c61 4 [] K =
    (K [(2, .int .i64 ((0 : Int)))]) := by kernel_rfl
@[go_sem] theorem c61_o : c61.lo 1000000 = [2] := rfl
@[go_sem] theorem c61_e (t2 : Int) (k : Value → W) : RTp c61 [(2, .int .i64 t2)] k = (k (.int .i64 t2)) := by kernel_rfl
theorem c61_ok : (c61.P.follows .mixedOrders && okc c61 c61.body) = true := by kernel_rfl
theorem c61_fn {e : Enc} {args : Array Value} {G : e.α → W} {L : List HP} {ρ : Env} (hρ : envA 0 args.toList = ρ) (hs : Nat.ble args.size 16 = true) (h : E L (D c61 (.seq (.reg 0) (.seq (.seq (.reg 1) (.seq (.reg 2) (.cond (.tmp 10) (.seq (.reg 3) (.ret)) (.skip)))) (.seq (.reg 4) (.ret)))) (fnQ c61 e G) ρ)) : E L (cal e Try.prog 61 args G) :=
  d_fn (c := c61) Try.func61 (by kernel_rfl) (by kernel_rfl) (by kernel_rfl) c61_ok (by kernel_rfl) (by kernel_rfl) hρ hs h
/-! gharry.page.Count -/
noncomputable def c62 : Cfg := { P := Try.prog, n := 13, T := TT, body := (Try.f62.body).getD .skip, res := Try.f62.results.toList, li := lk [] [(0, [0]), (1, [0]), (2, [3, 4]), (3, [3]), (4, [])], lo := lk [] [(0, [0]), (1, [3, 4]), (2, [3, 10]), (3, [2]), (4, [2]), (1000000, [2])], ord := lk (false, []) [] }
@[go_sem] theorem c62_i0 : c62.li 0 = [0] := rfl
@[go_sem] theorem c62_i1 : c62.li 1 = [0] := rfl
@[go_sem] theorem c62_i2 : c62.li 2 = [3, 4] := rfl
@[go_sem] theorem c62_i3 : c62.li 3 = [3] := rfl
@[go_sem] theorem c62_i4 : c62.li 4 = [] := rfl
@[go_sem] theorem c62_r0 (p0 : List UInt8) (K : Env → W) : RP c62 0 [(0, str p0)] K =
    (K [(0, str p0)]) := by kernel_rfl
@[go_sem] theorem c62_r1 (p0 : List UInt8) (K : Env → W) : RP c62 1 [(0, str p0)] K =
    (cal (eT2 eP eB) Try.prog 75 #[str p0] fun (y1_ : ((Option Addr) × Bool)) => (K [(3, .pointer y1_.1), (4, .bool y1_.2)])) := by kernel_rfl
@[go_sem] theorem c62_r2 (m3 : Option Addr) (ok4 : Bool) (K : Env → W) : RP c62 2 [(3, .pointer m3), (4, .bool ok4)] K =
    (K [(3, .pointer m3), (10, .bool ok4)]) := by kernel_rfl
@[go_sem] theorem c62_r3 (m3 : Option Addr) (K : Env → W) : RP c62 3 [(3, .pointer m3)] K =
    (cal eI Try.prog 81 #[.pointer m3] fun (y1_ : Int) => (K [(2, .int .i64 y1_)])) := by kernel_rfl
@[go_sem] theorem c62_r4 (K : Env → W) : RP c62 4 [] K =
    (K [(2, .int .i64 ((0 : Int)))]) := by kernel_rfl
@[go_sem] theorem c62_o : c62.lo 1000000 = [2] := rfl
@[go_sem] theorem c62_e (t2 : Int) (k : Value → W) : RTp c62 [(2, .int .i64 t2)] k = (k (.int .i64 t2)) := by kernel_rfl
theorem c62_ok : (c62.P.follows .mixedOrders && okc c62 c62.body) = true := by kernel_rfl
theorem c62_fn {e : Enc} {args : Array Value} {G : e.α → W} {L : List HP} {ρ : Env} (hρ : envA 0 args.toList = ρ) (hs : Nat.ble args.size 13 = true) (h : E L (D c62 (.seq (.reg 0) (.seq (.seq (.reg 1) (.seq (.reg 2) (.cond (.tmp 10) (.seq (.reg 3) (.ret)) (.skip)))) (.seq (.reg 4) (.ret)))) (fnQ c62 e G) ρ)) : E L (cal e Try.prog 62 args G) :=
  d_fn (c := c62) Try.func62 (by kernel_rfl) (by kernel_rfl) (by kernel_rfl) c62_ok (by kernel_rfl) (by kernel_rfl) hρ hs h
/-! gharry.page.Room -/
noncomputable def c63 : Cfg := { P := Try.prog, n := 21, T := TT, body := (Try.f63.body).getD .skip, res := Try.f63.results.toList, li := lk [] [(0, [0]), (1, [0]), (2, [3, 4]), (3, []), (4, [3])], lo := lk [] [(0, [0]), (1, [3, 4]), (2, [3, 18]), (3, [2]), (4, [2]), (1000000, [2])], ord := lk (false, []) [] }
@[go_sem] theorem c63_i0 : c63.li 0 = [0] := rfl
@[go_sem] theorem c63_i1 : c63.li 1 = [0] := rfl
@[go_sem] theorem c63_i2 : c63.li 2 = [3, 4] := rfl
@[go_sem] theorem c63_i3 : c63.li 3 = [] := rfl
@[go_sem] theorem c63_i4 : c63.li 4 = [3] := rfl
@[go_sem] theorem c63_r0 (p0 : List UInt8) (K : Env → W) : RP c63 0 [(0, str p0)] K =
    (K [(0, str p0)]) := by kernel_rfl
@[go_sem] theorem c63_r1 (p0 : List UInt8) (K : Env → W) : RP c63 1 [(0, str p0)] K =
    (cal (eT2 eP eB) Try.prog 75 #[str p0] fun (y1_ : ((Option Addr) × Bool)) => (K [(3, .pointer y1_.1), (4, .bool y1_.2)])) := by kernel_rfl
@[go_sem] theorem c63_r2 (m3 : Option Addr) (ok4 : Bool) (K : Env → W) : RP c63 2 [(3, .pointer m3), (4, .bool ok4)] K =
    (cnd ((!ok4)) (K [(3, .pointer m3), (18, .bool true)]) (nn m3 fun y1_ => (rq (0 ≤ (0 : Int) ∧ (0 : Int) < ((224 : Nat) : Int)) (ld eU8 ((Addr.add y1_ 0)) fun (y2_ : Int) => (K [(3, .pointer m3), (18, .bool ((y2_ == (0 : Int))))]))))) := by kernel_rfl
@[go_sem] theorem c63_r3 (K : Env → W) : RP c63 3 [] K =
    (K [(2, .int .i64 ((0 : Int)))]) := by kernel_rfl
@[go_sem] theorem c63_r4 (m3 : Option Addr) (K : Env → W) : RP c63 4 [(3, .pointer m3)] K =
    (cal eI Try.prog 88 #[.pointer m3] fun (y1_ : Int) => (K [(2, .int .i64 y1_)])) := by kernel_rfl
@[go_sem] theorem c63_o : c63.lo 1000000 = [2] := rfl
@[go_sem] theorem c63_e (t2 : Int) (k : Value → W) : RTp c63 [(2, .int .i64 t2)] k = (k (.int .i64 t2)) := by kernel_rfl
theorem c63_ok : (c63.P.follows .mixedOrders && okc c63 c63.body) = true := by kernel_rfl
theorem c63_fn {e : Enc} {args : Array Value} {G : e.α → W} {L : List HP} {ρ : Env} (hρ : envA 0 args.toList = ρ) (hs : Nat.ble args.size 21 = true) (h : E L (D c63 (.seq (.reg 0) (.seq (.reg 1) (.seq (.seq (.reg 2) (.cond (.tmp 18) (.seq (.reg 3) (.ret)) (.skip))) (.seq (.reg 4) (.ret))))) (fnQ c63 e G) ρ)) : E L (cal e Try.prog 63 args G) :=
  d_fn (c := c63) Try.func63 (by kernel_rfl) (by kernel_rfl) (by kernel_rfl) c63_ok (by kernel_rfl) (by kernel_rfl) hρ hs h
/-! gharry.page.Insert -/
noncomputable def c64 : Cfg := { P := Try.prog, n := 36, T := TT, body := (Try.f64.body).getD .skip, res := Try.f64.results.toList, li := lk [] [(0, [0, 1]), (1, [0, 3]), (2, [3, 6, 7]), (3, [7]), (4, [3, 6]), (5, [3, 6, 8, 9]), (6, []), (7, [3, 6, 8]), (8, []), (9, [6])], lo := lk [] [(0, [0, 3]), (1, [3, 6, 7]), (2, [3, 6, 7, 17]), (3, [4, 5]), (4, [3, 6, 8, 9]), (5, [3, 6, 8, 26]), (6, [4, 5]), (7, [6, 28]), (8, [4, 5]), (9, [4, 5]), (1000000, [4, 5])], ord := lk (false, []) [] }
@[go_sem] theorem c64_i0 : c64.li 0 = [0, 1] := rfl
@[go_sem] theorem c64_i1 : c64.li 1 = [0, 3] := rfl
@[go_sem] theorem c64_i2 : c64.li 2 = [3, 6, 7] := rfl
@[go_sem] theorem c64_i3 : c64.li 3 = [7] := rfl
@[go_sem] theorem c64_i4 : c64.li 4 = [3, 6] := rfl
@[go_sem] theorem c64_i5 : c64.li 5 = [3, 6, 8, 9] := rfl
@[go_sem] theorem c64_i6 : c64.li 6 = [] := rfl
@[go_sem] theorem c64_i7 : c64.li 7 = [3, 6, 8] := rfl
@[go_sem] theorem c64_i8 : c64.li 8 = [] := rfl
@[go_sem] theorem c64_i9 : c64.li 9 = [6] := rfl
@[go_sem] theorem c64_r0 (p0 : List UInt8) (c1 : api_Cell) (K : Env → W) : RP c64 0 [(0, str p0), (1, v_api_Cell c1)] K =
    (nwc #[str c1.Key, str c1.Val] 55 fun y1_ => (K [(0, str p0), (3, .pointer (some y1_))])) := by kernel_rfl
@[go_sem] theorem c64_r1 (p0 : List UInt8) (c3 : Addr) (K : Env → W) : RP c64 1 [(0, str p0), (3, .pointer (some c3))] K =
    (ldn e_api_Cell 2 c3 fun (y1_ : api_Cell) => (cal (eT2 eP eI) Try.prog 83 #[str p0, v_api_Cell y1_] fun (y2_ : ((Option Addr) × Int)) => (K [(3, .pointer (some c3)), (6, .pointer y2_.1), (7, .int .i64 y2_.2)]))) := by kernel_rfl
@[go_sem] theorem c64_r2 (c3 : Addr) (m6 : Option Addr) (e7 : Int) (K : Env → W) : RP c64 2 [(3, .pointer (some c3)), (6, .pointer m6), (7, .int .i64 e7)] K =
    (K [(3, .pointer (some c3)), (6, .pointer m6), (7, .int .i64 e7), (17, .bool ((e7 != (0 : Int))))]) := by kernel_rfl
@[go_sem] theorem c64_r3 (e7 : Int) (K : Env → W) : RP c64 3 [(7, .int .i64 e7)] K =
    (K [(4, str (([] : List UInt8))), (5, .int .i64 e7)]) := by kernel_rfl
@[go_sem] theorem c64_r4 (c3 : Addr) (m6 : Option Addr) (K : Env → W) : RP c64 4 [(3, .pointer (some c3)), (6, .pointer m6)] K =
    (ld eS c3 fun (y1_ : List UInt8) => (cal (eT2 eI eB) Try.prog 84 #[.pointer m6, str y1_] fun (y2_ : (Int × Bool)) => (K [(3, .pointer (some c3)), (6, .pointer m6), (8, .int .i64 y2_.1), (9, .bool y2_.2)]))) := by kernel_rfl
@[go_sem] theorem c64_r5 (c3 : Addr) (m6 : Option Addr) (i8 : Int) (there9 : Bool) (K : Env → W) : RP c64 5 [(3, .pointer (some c3)), (6, .pointer m6), (8, .int .i64 i8), (9, .bool there9)] K =
    (K [(3, .pointer (some c3)), (6, .pointer m6), (8, .int .i64 i8), (26, .bool there9)]) := by kernel_rfl
@[go_sem] theorem c64_r6 (K : Env → W) : RP c64 6 [] K =
    (K [(4, str (([] : List UInt8))), (5, .int .i64 ((19 : Int)))]) := by kernel_rfl
@[go_sem] theorem c64_r7 (c3 : Addr) (m6 : Option Addr) (i8 : Int) (K : Env → W) : RP c64 7 [(3, .pointer (some c3)), (6, .pointer m6), (8, .int .i64 i8)] K =
    (ldn e_api_Cell 2 c3 fun (y1_ : api_Cell) => (cal eB Try.prog 77 #[.pointer m6, .int .i64 i8, v_api_Cell y1_] fun (y2_ : Bool) => (K [(6, .pointer m6), (28, .bool ((!y2_)))]))) := by kernel_rfl
@[go_sem] theorem c64_r8 (K : Env → W) : RP c64 8 [] K =
    (K [(4, str (([] : List UInt8))), (5, .int .i64 ((7 : Int)))]) := by kernel_rfl
@[go_sem] theorem c64_r9 (m6 : Option Addr) (K : Env → W) : RP c64 9 [(6, .pointer m6)] K =
    (cal eS Try.prog 78 #[.pointer m6] fun (y1_ : List UInt8) => (K [(4, str y1_), (5, .int .i64 ((0 : Int)))])) := by kernel_rfl
@[go_sem] theorem c64_o : c64.lo 1000000 = [4, 5] := rfl
@[go_sem] theorem c64_e (t4 : List UInt8) (t5 : Int) (k : Value → W) : RTp c64 [(4, str t4), (5, .int .i64 t5)] k = (k (.tuple #[str t4, .int .i64 t5])) := by kernel_rfl
theorem c64_ok : (c64.P.follows .mixedOrders && okc c64 c64.body) = true := by kernel_rfl
theorem c64_fn {e : Enc} {args : Array Value} {G : e.α → W} {L : List HP} {ρ : Env} (hρ : envA 0 args.toList = ρ) (hs : Nat.ble args.size 36 = true) (h : E L (D c64 (.seq (.reg 0) (.seq (.reg 1) (.seq (.seq (.reg 2) (.cond (.tmp 17) (.seq (.reg 3) (.ret)) (.skip))) (.seq (.reg 4) (.seq (.block 0 (.seq (.reg 5) (.cond (.tmp 26) (.seq (.reg 6) (.ret)) (.seq (.reg 7) (.cond (.tmp 28) (.seq (.reg 8) (.ret)) (.skip)))))) (.seq (.reg 9) (.ret))))))) (fnQ c64 e G) ρ)) : E L (cal e Try.prog 64 args G) :=
  d_fn (c := c64) Try.func64 (by kernel_rfl) (by kernel_rfl) (by kernel_rfl) c64_ok (by kernel_rfl) (by kernel_rfl) hρ hs h
/-! gharry.gharrylaw05.wrong -/
noncomputable def c65 : Cfg := { P := Try.prog, n := 11, T := TT, body := (Try.f65.body).getD .skip, res := Try.f65.results.toList, li := lk [] [(0, [0]), (1, [1]), (2, []), (3, [1]), (4, []), (5, [])], lo := lk [] [(0, [1]), (1, [1, 6]), (2, [2]), (3, [10]), (4, [2]), (5, [2]), (1000000, [2])], ord := lk (false, []) [] }
@[go_sem] theorem c65_i0 : c65.li 0 = [0] := rfl
@[go_sem] theorem c65_i1 : c65.li 1 = [1] := rfl
@[go_sem] theorem c65_i2 : c65.li 2 = [] := rfl
@[go_sem] theorem c65_i3 : c65.li 3 = [1] := rfl
@[go_sem] theorem c65_i4 : c65.li 4 = [] := rfl
@[go_sem] theorem c65_i5 : c65.li 5 = [] := rfl
@[go_sem] theorem c65_r0 (c0 : api_Cell) (K : Env → W) : RP c65 0 [(0, v_api_Cell c0)] K =
    (nwc #[str c0.Key, str c0.Val] 55 fun y1_ => (K [(1, .pointer (some y1_))])) := by kernel_rfl
@[go_sem] theorem c65_r1 (c1 : Addr) (K : Env → W) : RP c65 1 [(1, .pointer (some c1))] K =
    (ld eS c1 fun (y1_ : List UInt8) => (K [(1, .pointer (some c1)), (6, .bool ((decide ((16 : Int) < ((y1_).length : Int)))))])) := by kernel_rfl
@[go_sem] theorem c65_r2 (K : Env → W) : RP c65 2 [] K =
    (K [(2, .int .i64 ((17 : Int)))]) := by kernel_rfl
@[go_sem] theorem c65_r3 (c1 : Addr) (K : Env → W) : RP c65 3 [(1, .pointer (some c1))] K =
    (ld eS ((c1.add 1)) fun (y1_ : List UInt8) => (K [(10, .bool ((decide ((32 : Int) < ((y1_).length : Int)))))])) := by kernel_rfl
@[go_sem] theorem c65_r4 (K : Env → W) : RP c65 4 [] K =
    (K [(2, .int .i64 ((18 : Int)))]) := by kernel_rfl
@[go_sem] theorem c65_r5 (K : Env → W) : RP c65 5 [] K =
    (K [(2, .int .i64 ((0 : Int)))]) := by kernel_rfl
@[go_sem] theorem c65_o : c65.lo 1000000 = [2] := rfl
@[go_sem] theorem c65_e (t2 : Int) (k : Value → W) : RTp c65 [(2, .int .i64 t2)] k = (k (.int .i64 t2)) := by kernel_rfl
theorem c65_ok : (c65.P.follows .mixedOrders && okc c65 c65.body) = true := by kernel_rfl
theorem c65_fn {e : Enc} {args : Array Value} {G : e.α → W} {L : List HP} {ρ : Env} (hρ : envA 0 args.toList = ρ) (hs : Nat.ble args.size 11 = true) (h : E L (D c65 (.seq (.reg 0) (.seq (.seq (.reg 1) (.cond (.tmp 6) (.seq (.reg 2) (.ret)) (.skip))) (.seq (.seq (.reg 3) (.cond (.tmp 10) (.seq (.reg 4) (.ret)) (.skip))) (.seq (.reg 5) (.ret))))) (fnQ c65 e G) ρ)) : E L (cal e Try.prog 65 args G) :=
  d_fn (c := c65) Try.func65 (by kernel_rfl) (by kernel_rfl) (by kernel_rfl) c65_ok (by kernel_rfl) (by kernel_rfl) hρ hs h
/-! gharry.gharrylaw05.with -/
noncomputable def c66 : Cfg := { P := Try.prog, n := 22, T := TT, body := (Try.f66.body).getD .skip, res := Try.f66.results.toList, li := lk [] [(0, [0, 1, 2]), (1, [0, 1, 5]), (2, [0, 1, 5, 7]), (3, [0, 1, 7])], lo := lk [] [(0, [0, 1, 5]), (1, [0, 1, 5, 7]), (2, [0, 1, 7]), (3, [6]), (1000000, [6])], ord := lk (false, []) [] }
@[go_sem] theorem c66_i0 : c66.li 0 = [0, 1, 2] := rfl
@[go_sem] theorem c66_i1 : c66.li 1 = [0, 1, 5] := rfl
@[go_sem] theorem c66_i2 : c66.li 2 = [0, 1, 5, 7] := rfl
@[go_sem] theorem c66_i3 : c66.li 3 = [0, 1, 7] := rfl
@[go_sem] theorem c66_r0 (l0p : Option Addr) (l0n l0c : Nat) (i1 : Int) (c2 : api_Cell) (K : Env → W) : RP c66 0 [(0, .slice l0p l0n l0c), (1, .int .i64 i1), (2, v_api_Cell c2)] K =
    (nwc #[str c2.Key, str c2.Val] 55 fun y1_ => (K [(0, .slice l0p l0n l0c), (1, .int .i64 i1), (5, .pointer (some y1_))])) := by kernel_rfl
@[go_sem] theorem c66_r1 (l0p : Option Addr) (l0n l0c : Nat) (i1 : Int) (c5 : Addr) (K : Env → W) : RP c66 1 [(0, .slice l0p l0n l0c), (1, .int .i64 i1), (5, .pointer (some c5))] K =
    (nwc #[] 55 fun y1_ => (rq (0 ≤ (0 : Int) ∧ 0 ≤ i1 ∧ i1 ≤ (l0c : Int)) (val eSl Try.prog (oB_append #[58, 58] 58 #[.slice ((some y1_)) 0 0, .slice ((slp l0p 0 (l0c : Int) 2)) (((i1).toNat - (0 : Int).toNat)) ((((l0c : Int)).toNat - (0 : Int).toNat))]) fun (y2_ : (Option Addr × Nat × Nat)) => (K [(0, .slice l0p l0n l0c), (1, .int .i64 i1), (5, .pointer (some c5)), (7, .slice y2_.1 y2_.2.1 y2_.2.2)])))) := by kernel_rfl
@[go_sem] theorem c66_r2 (l0p : Option Addr) (l0n l0c : Nat) (i1 : Int) (c5 : Addr) (out7p : Option Addr) (out7n out7c : Nat) (K : Env → W) : RP c66 2 [(0, .slice l0p l0n l0c), (1, .int .i64 i1), (5, .pointer (some c5)), (7, .slice out7p out7n out7c)] K =
    (ldn e_api_Cell 2 c5 fun (y1_ : api_Cell) => (nwc #[str y1_.Key, str y1_.Val] 55 fun y2_ => (val eSl Try.prog (oB_append #[58, 58] 58 #[.slice out7p out7n out7c, .slice ((some y2_)) 1 1]) fun (y3_ : (Option Addr × Nat × Nat)) => (K [(0, .slice l0p l0n l0c), (1, .int .i64 i1), (7, .slice y3_.1 y3_.2.1 y3_.2.2)])))) := by kernel_rfl
@[go_sem] theorem c66_r3 (l0p : Option Addr) (l0n l0c : Nat) (i1 : Int) (out7p : Option Addr) (out7n out7c : Nat) (K : Env → W) : RP c66 3 [(0, .slice l0p l0n l0c), (1, .int .i64 i1), (7, .slice out7p out7n out7c)] K =
    (rq (0 ≤ (i1 : Int) ∧ i1 ≤ (l0n : Int) ∧ (l0n : Int) ≤ (l0c : Int)) (val eSl Try.prog (oB_append #[58, 58] 58 #[.slice out7p out7n out7c, .slice ((slp l0p i1 (l0c : Int) 2)) ((((l0n : Int)).toNat - (i1 : Int).toNat)) ((((l0c : Int)).toNat - (i1 : Int).toNat))]) fun (y1_ : (Option Addr × Nat × Nat)) => (K [(6, .slice y1_.1 y1_.2.1 y1_.2.2)]))) := by kernel_rfl
@[go_sem] theorem c66_o : c66.lo 1000000 = [6] := rfl
@[go_sem] theorem c66_e (t6p : Option Addr) (t6n t6c : Nat) (k : Value → W) : RTp c66 [(6, .slice t6p t6n t6c)] k = (k (.slice t6p t6n t6c)) := by kernel_rfl
theorem c66_ok : (c66.P.follows .mixedOrders && okc c66 c66.body) = true := by kernel_rfl
theorem c66_fn {e : Enc} {args : Array Value} {G : e.α → W} {L : List HP} {ρ : Env} (hρ : envA 0 args.toList = ρ) (hs : Nat.ble args.size 22 = true) (h : E L (D c66 (.seq (.reg 0) (.seq (.reg 1) (.seq (.reg 2) (.seq (.reg 3) (.ret))))) (fnQ c66 e G) ρ)) : E L (cal e Try.prog 66 args G) :=
  d_fn (c := c66) Try.func66 (by kernel_rfl) (by kernel_rfl) (by kernel_rfl) c66_ok (by kernel_rfl) (by kernel_rfl) hρ hs h
/-! gharry.page.Update -/
noncomputable def c67 : Cfg := { P := Try.prog, n := 38, T := TT, body := (Try.f67.body).getD .skip, res := Try.f67.results.toList, li := lk [] [(0, [0, 1]), (1, [0, 3]), (2, [3, 6, 7]), (3, [7]), (4, [3, 6]), (5, [3, 6, 8, 9]), (6, []), (7, [3, 6, 8]), (8, [3, 6, 8]), (9, []), (10, [6])], lo := lk [] [(0, [0, 3]), (1, [3, 6, 7]), (2, [3, 6, 7, 17]), (3, [4, 5]), (4, [3, 6, 8, 9]), (5, [3, 6, 8, 27]), (6, [4, 5]), (7, [3, 6, 8]), (8, [6, 35]), (9, [4, 5]), (10, [4, 5]), (1000000, [4, 5])], ord := lk (false, []) [] }
@[go_sem] theorem c67_i0 : c67.li 0 = [0, 1] := rfl
@[go_sem] theorem c67_i1 : c67.li 1 = [0, 3] := rfl
@[go_sem] theorem c67_i2 : c67.li 2 = [3, 6, 7] := rfl
@[go_sem] theorem c67_i3 : c67.li 3 = [7] := rfl
@[go_sem] theorem c67_i4 : c67.li 4 = [3, 6] := rfl
@[go_sem] theorem c67_i5 : c67.li 5 = [3, 6, 8, 9] := rfl
@[go_sem] theorem c67_i6 : c67.li 6 = [] := rfl
@[go_sem] theorem c67_i7 : c67.li 7 = [3, 6, 8] := rfl
@[go_sem] theorem c67_i8 : c67.li 8 = [3, 6, 8] := rfl
@[go_sem] theorem c67_i9 : c67.li 9 = [] := rfl
@[go_sem] theorem c67_i10 : c67.li 10 = [6] := rfl
@[go_sem] theorem c67_r0 (p0 : List UInt8) (c1 : api_Cell) (K : Env → W) : RP c67 0 [(0, str p0), (1, v_api_Cell c1)] K =
    (nwc #[str c1.Key, str c1.Val] 55 fun y1_ => (K [(0, str p0), (3, .pointer (some y1_))])) := by kernel_rfl
@[go_sem] theorem c67_r1 (p0 : List UInt8) (c3 : Addr) (K : Env → W) : RP c67 1 [(0, str p0), (3, .pointer (some c3))] K =
    (ldn e_api_Cell 2 c3 fun (y1_ : api_Cell) => (cal (eT2 eP eI) Try.prog 83 #[str p0, v_api_Cell y1_] fun (y2_ : ((Option Addr) × Int)) => (K [(3, .pointer (some c3)), (6, .pointer y2_.1), (7, .int .i64 y2_.2)]))) := by kernel_rfl
@[go_sem] theorem c67_r2 (c3 : Addr) (m6 : Option Addr) (e7 : Int) (K : Env → W) : RP c67 2 [(3, .pointer (some c3)), (6, .pointer m6), (7, .int .i64 e7)] K =
    (K [(3, .pointer (some c3)), (6, .pointer m6), (7, .int .i64 e7), (17, .bool ((e7 != (0 : Int))))]) := by kernel_rfl
@[go_sem] theorem c67_r3 (e7 : Int) (K : Env → W) : RP c67 3 [(7, .int .i64 e7)] K =
    (K [(4, str (([] : List UInt8))), (5, .int .i64 e7)]) := by kernel_rfl
@[go_sem] theorem c67_r4 (c3 : Addr) (m6 : Option Addr) (K : Env → W) : RP c67 4 [(3, .pointer (some c3)), (6, .pointer m6)] K =
    (ld eS c3 fun (y1_ : List UInt8) => (cal (eT2 eI eB) Try.prog 84 #[.pointer m6, str y1_] fun (y2_ : (Int × Bool)) => (K [(3, .pointer (some c3)), (6, .pointer m6), (8, .int .i64 y2_.1), (9, .bool y2_.2)]))) := by kernel_rfl
@[go_sem] theorem c67_r5 (c3 : Addr) (m6 : Option Addr) (i8 : Int) (there9 : Bool) (K : Env → W) : RP c67 5 [(3, .pointer (some c3)), (6, .pointer m6), (8, .int .i64 i8), (9, .bool there9)] K =
    (K [(3, .pointer (some c3)), (6, .pointer m6), (8, .int .i64 i8), (27, .bool ((!there9)))]) := by kernel_rfl
@[go_sem] theorem c67_r6 (K : Env → W) : RP c67 6 [] K =
    (K [(4, str (([] : List UInt8))), (5, .int .i64 ((8 : Int)))]) := by kernel_rfl
@[go_sem] theorem c67_r7 (c3 : Addr) (m6 : Option Addr) (i8 : Int) (K : Env → W) : RP c67 7 [(3, .pointer (some c3)), (6, .pointer m6), (8, .int .i64 i8)] K =
    (cal eN Try.prog 85 #[.pointer m6, .int .i64 i8] fun (y1_ : Unit) => (K [(3, .pointer (some c3)), (6, .pointer m6), (8, .int .i64 i8)])) := by kernel_rfl
@[go_sem] theorem c67_r8 (c3 : Addr) (m6 : Option Addr) (i8 : Int) (K : Env → W) : RP c67 8 [(3, .pointer (some c3)), (6, .pointer m6), (8, .int .i64 i8)] K =
    (ldn e_api_Cell 2 c3 fun (y1_ : api_Cell) => (cal eB Try.prog 77 #[.pointer m6, .int .i64 i8, v_api_Cell y1_] fun (y2_ : Bool) => (K [(6, .pointer m6), (35, .bool ((!y2_)))]))) := by kernel_rfl
@[go_sem] theorem c67_r9 (K : Env → W) : RP c67 9 [] K =
    (K [(4, str (([] : List UInt8))), (5, .int .i64 ((7 : Int)))]) := by kernel_rfl
@[go_sem] theorem c67_r10 (m6 : Option Addr) (K : Env → W) : RP c67 10 [(6, .pointer m6)] K =
    (cal eS Try.prog 78 #[.pointer m6] fun (y1_ : List UInt8) => (K [(4, str y1_), (5, .int .i64 ((0 : Int)))])) := by kernel_rfl
@[go_sem] theorem c67_o : c67.lo 1000000 = [4, 5] := rfl
@[go_sem] theorem c67_e (t4 : List UInt8) (t5 : Int) (k : Value → W) : RTp c67 [(4, str t4), (5, .int .i64 t5)] k = (k (.tuple #[str t4, .int .i64 t5])) := by kernel_rfl
theorem c67_ok : (c67.P.follows .mixedOrders && okc c67 c67.body) = true := by kernel_rfl
theorem c67_fn {e : Enc} {args : Array Value} {G : e.α → W} {L : List HP} {ρ : Env} (hρ : envA 0 args.toList = ρ) (hs : Nat.ble args.size 38 = true) (h : E L (D c67 (.seq (.reg 0) (.seq (.reg 1) (.seq (.seq (.reg 2) (.cond (.tmp 17) (.seq (.reg 3) (.ret)) (.skip))) (.seq (.reg 4) (.seq (.seq (.reg 5) (.cond (.tmp 27) (.seq (.reg 6) (.ret)) (.skip))) (.seq (.reg 7) (.seq (.seq (.reg 8) (.cond (.tmp 35) (.seq (.reg 9) (.ret)) (.skip))) (.seq (.reg 10) (.ret))))))))) (fnQ c67 e G) ρ)) : E L (cal e Try.prog 67 args G) :=
  d_fn (c := c67) Try.func67 (by kernel_rfl) (by kernel_rfl) (by kernel_rfl) c67_ok (by kernel_rfl) (by kernel_rfl) hρ hs h
/-! gharry.page.load -/
noncomputable def c75 : Cfg := { P := Try.prog, n := 23, T := TT, body := (Try.f75.body).getD .skip, res := Try.f75.results.toList, li := lk [] [(0, [0]), (1, [0]), (2, []), (3, [0]), (4, [0, 4]), (5, [4])], lo := lk [] [(0, [0]), (1, [0, 12]), (2, [2, 3]), (3, [0, 4]), (4, [4]), (5, [2, 3]), (1000000, [2, 3])], ord := lk (false, []) [] }
@[go_sem] theorem c75_i0 : c75.li 0 = [0] := rfl
@[go_sem] theorem c75_i1 : c75.li 1 = [0] := rfl
@[go_sem] theorem c75_i2 : c75.li 2 = [] := rfl
@[go_sem] theorem c75_i3 : c75.li 3 = [0] := rfl
@[go_sem] theorem c75_i4 : c75.li 4 = [0, 4] := rfl
@[go_sem] theorem c75_i5 : c75.li 5 = [4] := rfl
@[go_sem] theorem c75_r0 (p0 : List UInt8) (K : Env → W) : RP c75 0 [(0, str p0)] K =
    (K [(0, str p0)]) := by kernel_rfl
@[go_sem] theorem c75_r1 (p0 : List UInt8) (K : Env → W) : RP c75 1 [(0, str p0)] K =
    (cnd ((((p0).length : Int) != (224 : Int))) (K [(0, str p0), (12, .bool true)]) (rq (0 ≤ (0 : Int) ∧ (0 : Int) < ((p0).length : Int)) (K [(0, str p0), (12, .bool ((decide ((2 : Int) < (bt p0 0 : Int)))))]))) := by kernel_rfl
@[go_sem] theorem c75_r2 (K : Env → W) : RP c75 2 [] K =
    (K [(2, .pointer none), (3, .bool false)]) := by kernel_rfl
@[go_sem] theorem c75_r3 (p0 : List UInt8) (K : Env → W) : RP c75 3 [(0, str p0)] K =
    (nwc (((List.replicate 224 ((0 : Int)))).map eU8.enc).toArray 113 fun y1_ => (K [(0, str p0), (4, .pointer (some y1_))])) := by kernel_rfl
@[go_sem] theorem c75_r4 (p0 : List UInt8) (m4 : Addr) (K : Env → W) : RP c75 4 [(0, str p0), (4, .pointer (some m4))] K =
    (rq (0 ≤ (0 : Int) ∧ 0 ≤ ((224 : Nat) : Int) ∧ ((224 : Nat) : Int) ≤ ((224 : Nat) : Int)) (val eI Try.prog (oB_copy #[103, 9] 3 #[.slice ((slp (some m4) 0 ((224 : Nat) : Int) 1)) (((((224 : Nat) : Int)).toNat - (0 : Int).toNat)) (((((224 : Nat) : Int)).toNat - (0 : Int).toNat)), str p0]) fun (y1_ : Int) => (K [(4, .pointer (some m4))]))) := by kernel_rfl
@[go_sem] theorem c75_r5 (m4 : Addr) (K : Env → W) : RP c75 5 [(4, .pointer (some m4))] K =
    (cal eB Try.prog 90 #[.pointer (some m4)] fun (y1_ : Bool) => (K [(2, .pointer (some m4)), (3, .bool y1_)])) := by kernel_rfl
@[go_sem] theorem c75_o : c75.lo 1000000 = [2, 3] := rfl
@[go_sem] theorem c75_e (t2 : Option Addr) (t3 : Bool) (k : Value → W) : RTp c75 [(2, .pointer t2), (3, .bool t3)] k = (k (.tuple #[.pointer t2, .bool t3])) := by kernel_rfl
theorem c75_ok : (c75.P.follows .mixedOrders && okc c75 c75.body) = true := by kernel_rfl
theorem c75_fn {e : Enc} {args : Array Value} {G : e.α → W} {L : List HP} {ρ : Env} (hρ : envA 0 args.toList = ρ) (hs : Nat.ble args.size 23 = true) (h : E L (D c75 (.seq (.reg 0) (.seq (.seq (.reg 1) (.cond (.tmp 12) (.seq (.reg 2) (.ret)) (.skip))) (.seq (.reg 3) (.seq (.reg 4) (.seq (.reg 5) (.ret)))))) (fnQ c75 e G) ρ)) : E L (cal e Try.prog 75 args G) :=
  d_fn (c := c75) Try.func75 (by kernel_rfl) (by kernel_rfl) (by kernel_rfl) c75_ok (by kernel_rfl) (by kernel_rfl) hρ hs h
/-! gharry.page.check -/
noncomputable def c76 : Cfg := { P := Try.prog, n := 13, T := TT, body := (Try.f76.body).getD .skip, res := Try.f76.results.toList, li := lk [] [(0, [0]), (1, [1]), (2, []), (3, [1]), (4, []), (5, [])], lo := lk [] [(0, [1]), (1, [1, 3]), (2, [2]), (3, [8]), (4, [2]), (5, [2]), (1000000, [2])], ord := lk (false, []) [] }
@[go_sem] theorem c76_i0 : c76.li 0 = [0] := rfl
@[go_sem] theorem c76_i1 : c76.li 1 = [1] := rfl
@[go_sem] theorem c76_i2 : c76.li 2 = [] := rfl
@[go_sem] theorem c76_i3 : c76.li 3 = [1] := rfl
@[go_sem] theorem c76_i4 : c76.li 4 = [] := rfl
@[go_sem] theorem c76_i5 : c76.li 5 = [] := rfl
@[go_sem] theorem c76_r0 (c0 : api_Cell) (K : Env → W) : RP c76 0 [(0, v_api_Cell c0)] K =
    (nwc #[str c0.Key, str c0.Val] 55 fun y1_ => (K [(1, .pointer (some y1_))])) := by kernel_rfl
@[go_sem] theorem c76_r1 (c1 : Addr) (K : Env → W) : RP c76 1 [(1, .pointer (some c1))] K =
    (ld eS c1 fun (y1_ : List UInt8) => (K [(1, .pointer (some c1)), (3, .bool ((decide ((16 : Int) < ((y1_).length : Int)))))])) := by kernel_rfl
@[go_sem] theorem c76_r2 (K : Env → W) : RP c76 2 [] K =
    (K [(2, .int .i64 ((17 : Int)))]) := by kernel_rfl
@[go_sem] theorem c76_r3 (c1 : Addr) (K : Env → W) : RP c76 3 [(1, .pointer (some c1))] K =
    (ld eS ((c1.add 1)) fun (y1_ : List UInt8) => (K [(8, .bool ((decide ((32 : Int) < ((y1_).length : Int)))))])) := by kernel_rfl
@[go_sem] theorem c76_r4 (K : Env → W) : RP c76 4 [] K =
    (K [(2, .int .i64 ((18 : Int)))]) := by kernel_rfl
@[go_sem] theorem c76_r5 (K : Env → W) : RP c76 5 [] K =
    (K [(2, .int .i64 ((0 : Int)))]) := by kernel_rfl
@[go_sem] theorem c76_o : c76.lo 1000000 = [2] := rfl
@[go_sem] theorem c76_e (t2 : Int) (k : Value → W) : RTp c76 [(2, .int .i64 t2)] k = (k (.int .i64 t2)) := by kernel_rfl
theorem c76_ok : (c76.P.follows .mixedOrders && okc c76 c76.body) = true := by kernel_rfl
theorem c76_fn {e : Enc} {args : Array Value} {G : e.α → W} {L : List HP} {ρ : Env} (hρ : envA 0 args.toList = ρ) (hs : Nat.ble args.size 13 = true) (h : E L (D c76 (.seq (.reg 0) (.seq (.block 0 (.seq (.reg 1) (.cond (.tmp 3) (.seq (.reg 2) (.ret)) (.seq (.reg 3) (.cond (.tmp 8) (.seq (.reg 4) (.ret)) (.skip)))))) (.seq (.reg 5) (.ret)))) (fnQ c76 e G) ρ)) : E L (cal e Try.prog 76 args G) :=
  d_fn (c := c76) Try.func76 (by kernel_rfl) (by kernel_rfl) (by kernel_rfl) c76_ok (by kernel_rfl) (by kernel_rfl) hρ hs h
/-! (*gharry.page.image).put -/
noncomputable def c77 : Cfg := { P := Try.prog, n := 27, T := TT, body := (Try.f77.body).getD .skip, res := Try.f77.results.toList, li := lk [] [(0, [0, 1, 2]), (1, [0, 1, 5]), (2, []), (3, [0, 1, 5]), (4, [0, 1, 5]), (5, [0, 1, 5]), (6, [])], lo := lk [] [(0, [0, 1, 5]), (1, [0, 1, 5, 11]), (2, [6]), (3, [0, 1, 5, 20]), (4, [0, 1, 5]), (5, []), (6, [6]), (1000000, [6])], ord := lk (false, []) [(3, (true, [(0, 1), (2, 1), (5, 0), (1, 2), (3, 2), (4, 1), (6, 4), (7, 1), (8, 1)]))] }
@[go_sem] theorem c77_i0 : c77.li 0 = [0, 1, 2] := rfl
@[go_sem] theorem c77_i1 : c77.li 1 = [0, 1, 5] := rfl
@[go_sem] theorem c77_i2 : c77.li 2 = [] := rfl
@[go_sem] theorem c77_i3 : c77.li 3 = [0, 1, 5] := rfl
@[go_sem] theorem c77_i4 : c77.li 4 = [0, 1, 5] := rfl
@[go_sem] theorem c77_i5 : c77.li 5 = [0, 1, 5] := rfl
@[go_sem] theorem c77_i6 : c77.li 6 = [] := rfl
@[go_sem] theorem c77_r0 (m0 : Option Addr) (i1 : Int) (c2 : api_Cell) (K : Env → W) : RP c77 0 [(0, .pointer m0), (1, .int .i64 i1), (2, v_api_Cell c2)] K =
    (nwc #[str c2.Key, str c2.Val] 55 fun y1_ => (K [(0, .pointer m0), (1, .int .i64 i1), (5, .pointer (some y1_))])) := by kernel_rfl
@[go_sem] theorem c77_r1 (m0 : Option Addr) (i1 : Int) (c5 : Addr) (K : Env → W) : RP c77 1 [(0, .pointer m0), (1, .int .i64 i1), (5, .pointer (some c5))] K =
    (ldn e_api_Cell 2 c5 fun (y1_ : api_Cell) => (cal eI Try.prog 40 #[v_api_Cell y1_] fun (y2_ : Int) => (cal eI Try.prog 88 #[.pointer m0] fun (y3_ : Int) => (K [(0, .pointer m0), (1, .int .i64 i1), (5, .pointer (some c5)), (11, .bool ((decide (y3_ < y2_))))])))) := by kernel_rfl
@[go_sem] theorem c77_r2 (K : Env → W) : RP c77 2 [] K =
    (K [(6, .bool false)]) := by kernel_rfl
@[go_sem] theorem c77_r3 (m0 : Option Addr) (i1 : Int) (c5 : Addr) (K : Env → W) : RP c77 3 [(0, .pointer m0), (1, .int .i64 i1), (5, .pointer (some c5))] K =
    (ph fun S0 => (ldnq S0 e_api_Cell 2 c5 fun (y1_ : api_Cell) => (cal eI Try.prog 91 #[.pointer m0] fun (y2_ : Int) => (kpn S0 fun S1 => (cal eI Try.prog 81 #[.pointer m0] fun (y3_ : Int) => (kpn S1 fun S2 => (cal eI Try.prog 40 #[v_api_Cell y1_] fun (y4_ : Int) => (K [(0, .pointer m0), (1, .int .i64 i1), (5, .pointer (some c5)), (20, .bool ((decide ((224 : Int) < (IntKind.wrap .i64 ((IntKind.wrap .i64 (y2_ + y3_)) + y4_))))))])))))))) := by kernel_rfl
@[go_sem] theorem c77_r4 (m0 : Option Addr) (i1 : Int) (c5 : Addr) (K : Env → W) : RP c77 4 [(0, .pointer m0), (1, .int .i64 i1), (5, .pointer (some c5))] K =
    (cal eN Try.prog 92 #[.pointer m0] fun (y1_ : Unit) => (K [(0, .pointer m0), (1, .int .i64 i1), (5, .pointer (some c5))])) := by kernel_rfl
@[go_sem] theorem c77_r5 (m0 : Option Addr) (i1 : Int) (c5 : Addr) (K : Env → W) : RP c77 5 [(0, .pointer m0), (1, .int .i64 i1), (5, .pointer (some c5))] K =
    (ldn e_api_Cell 2 c5 fun (y1_ : api_Cell) => (cal eN Try.prog 93 #[.pointer m0, .int .i64 i1, v_api_Cell y1_] fun (y2_ : Unit) => (K []))) := by kernel_rfl
@[go_sem] theorem c77_r6 (K : Env → W) : RP c77 6 [] K =
    (K [(6, .bool true)]) := by kernel_rfl
@[go_sem] theorem c77_o : c77.lo 1000000 = [6] := rfl
@[go_sem] theorem c77_e (t6 : Bool) (k : Value → W) : RTp c77 [(6, .bool t6)] k = (k (.bool t6)) := by kernel_rfl
theorem c77_ok : (c77.P.follows .mixedOrders && okc c77 c77.body) = true := by kernel_rfl
theorem c77_fn {e : Enc} {args : Array Value} {G : e.α → W} {L : List HP} {ρ : Env} (hρ : envA 0 args.toList = ρ) (hs : Nat.ble args.size 27 = true) (h : E L (D c77 (.seq (.reg 0) (.seq (.seq (.reg 1) (.cond (.tmp 11) (.seq (.reg 2) (.ret)) (.skip))) (.seq (.seq (.reg 3) (.cond (.tmp 20) (.reg 4) (.skip))) (.seq (.reg 5) (.seq (.reg 6) (.ret)))))) (fnQ c77 e G) ρ)) : E L (cal e Try.prog 77 args G) :=
  d_fn (c := c77) Try.func77 (by kernel_rfl) (by kernel_rfl) (by kernel_rfl) c77_ok (by kernel_rfl) (by kernel_rfl) hρ hs h
/-! (*gharry.page.image).text -/
noncomputable def c78 : Cfg := { P := Try.prog, n := 7, T := TT, body := (Try.f78.body).getD .skip, res := Try.f78.results.toList, li := lk [] [(0, [0]), (1, [0])], lo := lk [] [(0, [0]), (1, [2]), (1000000, [2])], ord := lk (false, []) [] }
@[go_sem] theorem c78_i0 : c78.li 0 = [0] := rfl
@[go_sem] theorem c78_i1 : c78.li 1 = [0] := rfl
@[go_sem] theorem c78_r0 (m0 : Option Addr) (K : Env → W) : RP c78 0 [(0, .pointer m0)] K =
    (K [(0, .pointer m0)]) := by kernel_rfl
@[go_sem] theorem c78_r1 (m0 : Option Addr) (K : Env → W) : RP c78 1 [(0, .pointer m0)] K =
    (nn m0 fun y1_ => (rq (0 ≤ (0 : Int) ∧ 0 ≤ ((224 : Nat) : Int) ∧ ((224 : Nat) : Int) ≤ ((224 : Nat) : Int)) (val eS Try.prog (oConv 103 9 (.slice ((slp (some y1_) 0 ((224 : Nat) : Int) 1)) (((((224 : Nat) : Int)).toNat - (0 : Int).toNat)) (((((224 : Nat) : Int)).toNat - (0 : Int).toNat)))) fun (y2_ : List UInt8) => (K [(2, str y2_)])))) := by kernel_rfl
@[go_sem] theorem c78_o : c78.lo 1000000 = [2] := rfl
@[go_sem] theorem c78_e (t2 : List UInt8) (k : Value → W) : RTp c78 [(2, str t2)] k = (k (str t2)) := by kernel_rfl
theorem c78_ok : (c78.P.follows .mixedOrders && okc c78 c78.body) = true := by kernel_rfl
theorem c78_fn {e : Enc} {args : Array Value} {G : e.α → W} {L : List HP} {ρ : Env} (hρ : envA 0 args.toList = ρ) (hs : Nat.ble args.size 7 = true) (h : E L (D c78 (.seq (.reg 0) (.seq (.reg 1) (.ret))) (fnQ c78 e G) ρ)) : E L (cal e Try.prog 78 args G) :=
  d_fn (c := c78) Try.func78 (by kernel_rfl) (by kernel_rfl) (by kernel_rfl) c78_ok (by kernel_rfl) (by kernel_rfl) hρ hs h
/-! gharry.page.blank -/
noncomputable def c79 : Cfg := { P := Try.prog, n := 22, T := TT, body := (Try.f79.body).getD .skip, res := Try.f79.results.toList, li := lk [] [(0, [0, 1]), (1, [0, 1]), (2, [0, 1, 5]), (3, [5])], lo := lk [] [(0, [0, 1]), (1, [0, 1, 5]), (2, [5]), (3, [4]), (1000000, [4])], ord := lk (false, []) [(2, (false, [(0, 1), (1, 1), (2, 1), (3, 1), (4, 1), (5, 1), (6, 1), (7, 1), (8, 1), (10, 1), (13, 1), (9, 4), (11, 1), (12, 4), (14, 1), (15, 4)]))] }
@[go_sem] theorem c79_i0 : c79.li 0 = [0, 1] := rfl
@[go_sem] theorem c79_i1 : c79.li 1 = [0, 1] := rfl
@[go_sem] theorem c79_i2 : c79.li 2 = [0, 1, 5] := rfl
@[go_sem] theorem c79_i3 : c79.li 3 = [5] := rfl
@[go_sem] theorem c79_r0 (kind0 : Int) (level1 : Int) (K : Env → W) : RP c79 0 [(0, .int .i64 kind0), (1, .int .i64 level1)] K =
    (K [(0, .int .i64 kind0), (1, .int .i64 level1)]) := by kernel_rfl
@[go_sem] theorem c79_r1 (kind0 : Int) (level1 : Int) (K : Env → W) : RP c79 1 [(0, .int .i64 kind0), (1, .int .i64 level1)] K =
    (nwc (((List.replicate 224 ((0 : Int)))).map eU8.enc).toArray 113 fun y1_ => (K [(0, .int .i64 kind0), (1, .int .i64 level1), (5, .pointer (some y1_))])) := by kernel_rfl
@[go_sem] theorem c79_r2 (kind0 : Int) (level1 : Int) (m5 : Addr) (K : Env → W) : RP c79 2 [(0, .int .i64 kind0), (1, .int .i64 level1), (5, .pointer (some m5))] K =
    (rq (0 ≤ (0 : Int) ∧ (0 : Int) < ((224 : Nat) : Int)) (st ((Addr.add m5 0)) (.int .u8 ((IntKind.wrap .u8 kind0))) (rq (0 ≤ (1 : Int) ∧ (1 : Int) < ((224 : Nat) : Int)) (st ((Addr.add m5 1)) (.int .u8 ((IntKind.wrap .u8 level1))) (rq (0 ≤ (3 : Int) ∧ (3 : Int) < ((224 : Nat) : Int)) (st ((Addr.add m5 3)) (.int .u8 ((4 : Int))) (K [(5, .pointer (some m5))]))))))) := by kernel_rfl
@[go_sem] theorem c79_r3 (m5 : Addr) (K : Env → W) : RP c79 3 [(5, .pointer (some m5))] K =
    (K [(4, .pointer (some m5))]) := by kernel_rfl
@[go_sem] theorem c79_o : c79.lo 1000000 = [4] := rfl
@[go_sem] theorem c79_e (t4 : Option Addr) (k : Value → W) : RTp c79 [(4, .pointer t4)] k = (k (.pointer t4)) := by kernel_rfl
theorem c79_ok : (c79.P.follows .mixedOrders && okc c79 c79.body) = true := by kernel_rfl
theorem c79_fn {e : Enc} {args : Array Value} {G : e.α → W} {L : List HP} {ρ : Env} (hρ : envA 0 args.toList = ρ) (hs : Nat.ble args.size 22 = true) (h : E L (D c79 (.seq (.reg 0) (.seq (.reg 1) (.seq (.reg 2) (.seq (.reg 3) (.ret))))) (fnQ c79 e G) ρ)) : E L (cal e Try.prog 79 args G) :=
  d_fn (c := c79) Try.func79 (by kernel_rfl) (by kernel_rfl) (by kernel_rfl) c79_ok (by kernel_rfl) (by kernel_rfl) hρ hs h
/-! gharry.gharrylaw05.noughts -/
noncomputable def c80 : Cfg := { P := Try.prog, n := 6, T := TT, body := (Try.f80.body).getD .skip, res := Try.f80.results.toList, li := lk [] [(0, [0]), (1, [0])], lo := lk [] [(0, [0]), (1, [2]), (1000000, [2])], ord := lk (false, []) [] }
@[go_sem] theorem c80_i0 : c80.li 0 = [0] := rfl
@[go_sem] theorem c80_i1 : c80.li 1 = [0] := rfl
@[go_sem] theorem c80_r0 (n0 : Int) (K : Env → W) : RP c80 0 [(0, .int .i64 n0)] K =
    (K [(0, .int .i64 n0)]) := by kernel_rfl
@[go_sem] theorem c80_r1 (n0 : Int) (K : Env → W) : RP c80 1 [(0, .int .i64 n0)] K =
    (val eSl Try.prog (oMake 103 (.int .i64 n0) (.int .i64 n0)) fun (y1_ : (Option Addr × Nat × Nat)) => (val eS Try.prog (oConv 103 9 (.slice y1_.1 y1_.2.1 y1_.2.2)) fun (y2_ : List UInt8) => (K [(2, str y2_)]))) := by kernel_rfl
@[go_sem] theorem c80_o : c80.lo 1000000 = [2] := rfl
@[go_sem] theorem c80_e (t2 : List UInt8) (k : Value → W) : RTp c80 [(2, str t2)] k = (k (str t2)) := by kernel_rfl
theorem c80_ok : (c80.P.follows .mixedOrders && okc c80 c80.body) = true := by kernel_rfl
theorem c80_fn {e : Enc} {args : Array Value} {G : e.α → W} {L : List HP} {ρ : Env} (hρ : envA 0 args.toList = ρ) (hs : Nat.ble args.size 6 = true) (h : E L (D c80 (.seq (.reg 0) (.seq (.reg 1) (.ret))) (fnQ c80 e G) ρ)) : E L (cal e Try.prog 80 args G) :=
  d_fn (c := c80) Try.func80 (by kernel_rfl) (by kernel_rfl) (by kernel_rfl) c80_ok (by kernel_rfl) (by kernel_rfl) hρ hs h
/-! (*gharry.page.image).count -/
noncomputable def c81 : Cfg := { P := Try.prog, n := 8, T := TT, body := (Try.f81.body).getD .skip, res := Try.f81.results.toList, li := lk [] [(0, [0]), (1, [0])], lo := lk [] [(0, [0]), (1, [2]), (1000000, [2])], ord := lk (false, []) [] }
@[go_sem] theorem c81_i0 : c81.li 0 = [0] := rfl
@[go_sem] theorem c81_i1 : c81.li 1 = [0] := rfl
@[go_sem] theorem c81_r0 (m0 : Option Addr) (K : Env → W) : RP c81 0 [(0, .pointer m0)] K =
    (K [(0, .pointer m0)]) := by kernel_rfl
@[go_sem] theorem c81_r1 (m0 : Option Addr) (K : Env → W) : RP c81 1 [(0, .pointer m0)] K =
    (nn m0 fun y1_ => (rq (0 ≤ (2 : Int) ∧ (2 : Int) < ((224 : Nat) : Int)) (ld eU8 ((Addr.add y1_ 2)) fun (y2_ : Int) => (K [(2, .int .i64 ((IntKind.wrap .i64 y2_)))])))) := by kernel_rfl
@[go_sem] theorem c81_o : c81.lo 1000000 = [2] := rfl
@[go_sem] theorem c81_e (t2 : Int) (k : Value → W) : RTp c81 [(2, .int .i64 t2)] k = (k (.int .i64 t2)) := by kernel_rfl
theorem c81_ok : (c81.P.follows .mixedOrders && okc c81 c81.body) = true := by kernel_rfl
theorem c81_fn {e : Enc} {args : Array Value} {G : e.α → W} {L : List HP} {ρ : Env} (hρ : envA 0 args.toList = ρ) (hs : Nat.ble args.size 8 = true) (h : E L (D c81 (.seq (.reg 0) (.seq (.reg 1) (.ret))) (fnQ c81 e G) ρ)) : E L (cal e Try.prog 81 args G) :=
  d_fn (c := c81) Try.func81 (by kernel_rfl) (by kernel_rfl) (by kernel_rfl) c81_ok (by kernel_rfl) (by kernel_rfl) hρ hs h
/-! (*gharry.page.image).cells -/
noncomputable def c82 : Cfg := { P := Try.prog, n := 20, T := TT, body := (Try.f82.body).getD .skip, res := Try.f82.results.toList, li := lk [] [(0, [0]), (1, [0]), (2, [0, 3]), (3, [0, 3, 6, 7]), (4, [0, 3, 6, 7]), (5, [0, 3, 4, 6, 7]), (6, [0, 3, 6, 7]), (7, [3])], lo := lk [] [(0, [0]), (1, [0, 3]), (2, [0, 3, 6, 7]), (3, [0, 3, 6, 7, 8]), (4, [0, 3, 4, 6, 7]), (5, [0, 3, 6, 7]), (6, [0, 3, 6, 7]), (7, [2]), (1000000, [2])], ord := lk (false, []) [] }
@[go_sem] theorem c82_i0 : c82.li 0 = [0] := rfl
@[go_sem] theorem c82_i1 : c82.li 1 = [0] := rfl
@[go_sem] theorem c82_i2 : c82.li 2 = [0, 3] := rfl
@[go_sem] theorem c82_i3 : c82.li 3 = [0, 3, 6, 7] := rfl
@[go_sem] theorem c82_i4 : c82.li 4 = [0, 3, 6, 7] := rfl
@[go_sem] theorem c82_i5 : c82.li 5 = [0, 3, 4, 6, 7] := rfl
@[go_sem] theorem c82_i6 : c82.li 6 = [0, 3, 6, 7] := rfl
@[go_sem] theorem c82_i7 : c82.li 7 = [3] := rfl
@[go_sem] theorem c82_r0 (m0 : Option Addr) (K : Env → W) : RP c82 0 [(0, .pointer m0)] K =
    (K [(0, .pointer m0)]) := by kernel_rfl
@[go_sem] theorem c82_r1 (m0 : Option Addr) (K : Env → W) : RP c82 1 [(0, .pointer m0)] K =
    (K [(0, .pointer m0), (3, .slice none 0 0)]) := by kernel_rfl
@[go_sem] theorem c82_r2 (m0 : Option Addr) (out3p : Option Addr) (out3n out3c : Nat) (K : Env → W) : RP c82 2 [(0, .pointer m0), (3, .slice out3p out3n out3c)] K =
    (cal eI Try.prog 81 #[.pointer m0] fun (y1_ : Int) => (K [(0, .pointer m0), (3, .slice out3p out3n out3c), (6, .int .i64 y1_), (7, .int .i64 ((0 : Int)))])) := by kernel_rfl
@[go_sem] theorem c82_r3 (m0 : Option Addr) (out3p : Option Addr) (out3n out3c : Nat) (t6 : Int) (t7 : Int) (K : Env → W) : RP c82 3 [(0, .pointer m0), (3, .slice out3p out3n out3c), (6, .int .i64 t6), (7, .int .i64 t7)] K =
    (K [(0, .pointer m0), (3, .slice out3p out3n out3c), (6, .int .i64 t6), (7, .int .i64 t7), (8, .bool ((decide (t7 < t6))))]) := by kernel_rfl
@[go_sem] theorem c82_r4 (m0 : Option Addr) (out3p : Option Addr) (out3n out3c : Nat) (t6 : Int) (t7 : Int) (K : Env → W) : RP c82 4 [(0, .pointer m0), (3, .slice out3p out3n out3c), (6, .int .i64 t6), (7, .int .i64 t7)] K =
    (K [(0, .pointer m0), (3, .slice out3p out3n out3c), (4, .int .i64 t7), (6, .int .i64 t6), (7, .int .i64 t7)]) := by kernel_rfl
@[go_sem] theorem c82_r5 (m0 : Option Addr) (out3p : Option Addr) (out3n out3c : Nat) (i4 : Int) (t6 : Int) (t7 : Int) (K : Env → W) : RP c82 5 [(0, .pointer m0), (3, .slice out3p out3n out3c), (4, .int .i64 i4), (6, .int .i64 t6), (7, .int .i64 t7)] K =
    (cal eI Try.prog 87 #[.pointer m0, .int .i64 i4] fun (y1_ : Int) => (cal e_api_Cell Try.prog 86 #[.pointer m0, .int .i64 y1_] fun (y2_ : api_Cell) => (nwc #[str y2_.Key, str y2_.Val] 55 fun y3_ => (val eSl Try.prog (oB_append #[58, 58] 58 #[.slice out3p out3n out3c, .slice ((some y3_)) 1 1]) fun (y4_ : (Option Addr × Nat × Nat)) => (K [(0, .pointer m0), (3, .slice y4_.1 y4_.2.1 y4_.2.2), (6, .int .i64 t6), (7, .int .i64 t7)]))))) := by kernel_rfl
@[go_sem] theorem c82_r6 (m0 : Option Addr) (out3p : Option Addr) (out3n out3c : Nat) (t6 : Int) (t7 : Int) (K : Env → W) : RP c82 6 [(0, .pointer m0), (3, .slice out3p out3n out3c), (6, .int .i64 t6), (7, .int .i64 t7)] K =
    (K [(0, .pointer m0), (3, .slice out3p out3n out3c), (6, .int .i64 t6), (7, .int .i64 ((IntKind.wrap .i64 (t7 + (1 : Int)))))]) := by kernel_rfl
@[go_sem] theorem c82_r7 (out3p : Option Addr) (out3n out3c : Nat) (K : Env → W) : RP c82 7 [(3, .slice out3p out3n out3c)] K =
    (K [(2, .slice out3p out3n out3c)]) := by kernel_rfl
@[go_sem] theorem c82_o : c82.lo 1000000 = [2] := rfl
@[go_sem] theorem c82_e (t2p : Option Addr) (t2n t2c : Nat) (k : Value → W) : RTp c82 [(2, .slice t2p t2n t2c)] k = (k (.slice t2p t2n t2c)) := by kernel_rfl
theorem c82_ok : (c82.P.follows .mixedOrders && okc c82 c82.body) = true := by kernel_rfl
theorem c82_fn {e : Enc} {args : Array Value} {G : e.α → W} {L : List HP} {ρ : Env} (hρ : envA 0 args.toList = ρ) (hs : Nat.ble args.size 20 = true) (h : E L (D c82 (.seq (.reg 0) (.seq (.reg 1) (.seq (.seq (.reg 2) (.block 0 (.loop (.seq (.reg 3) (.seq (.cond (.tmp 8) (.skip) (.exit 0)) (.seq (.block 1 (.seq (.reg 4) (.reg 5))) (.reg 6))))))) (.seq (.reg 7) (.ret))))) (fnQ c82 e G) ρ)) : E L (cal e Try.prog 82 args G) :=
  d_fn (c := c82) Try.func82 (by kernel_rfl) (by kernel_rfl) (by kernel_rfl) c82_ok (by kernel_rfl) (by kernel_rfl) hρ hs h
-- loop (first region 3): live slots 0:m0 3:out3 6:t6 7:t7, of which it writes [3, 7]
/-! gharry.page.open -/
noncomputable def c83 : Cfg := { P := Try.prog, n := 25, T := TT, body := (Try.f83.body).getD .skip, res := Try.f83.results.toList, li := lk [] [(0, [0, 1]), (1, [0, 3]), (2, [3, 6, 7]), (3, []), (4, [3, 6])], lo := lk [] [(0, [0, 3]), (1, [3, 6, 7]), (2, [3, 6, 21]), (3, [4, 5]), (4, [4, 5]), (1000000, [4, 5])], ord := lk (false, []) [] }
@[go_sem] theorem c83_i0 : c83.li 0 = [0, 1] := rfl
@[go_sem] theorem c83_i1 : c83.li 1 = [0, 3] := rfl
@[go_sem] theorem c83_i2 : c83.li 2 = [3, 6, 7] := rfl
@[go_sem] theorem c83_i3 : c83.li 3 = [] := rfl
@[go_sem] theorem c83_i4 : c83.li 4 = [3, 6] := rfl
@[go_sem] theorem c83_r0 (p0 : List UInt8) (c1 : api_Cell) (K : Env → W) : RP c83 0 [(0, str p0), (1, v_api_Cell c1)] K =
    (nwc #[str c1.Key, str c1.Val] 55 fun y1_ => (K [(0, str p0), (3, .pointer (some y1_))])) := by kernel_rfl
@[go_sem] theorem c83_r1 (p0 : List UInt8) (c3 : Addr) (K : Env → W) : RP c83 1 [(0, str p0), (3, .pointer (some c3))] K =
    (cal (eT2 eP eB) Try.prog 75 #[str p0] fun (y1_ : ((Option Addr) × Bool)) => (K [(3, .pointer (some c3)), (6, .pointer y1_.1), (7, .bool y1_.2)])) := by kernel_rfl
@[go_sem] theorem c83_r2 (c3 : Addr) (m6 : Option Addr) (ok7 : Bool) (K : Env → W) : RP c83 2 [(3, .pointer (some c3)), (6, .pointer m6), (7, .bool ok7)] K =
    (cnd ((!ok7)) (K [(3, .pointer (some c3)), (6, .pointer m6), (21, .bool true)]) (nn m6 fun y1_ => (rq (0 ≤ (0 : Int) ∧ (0 : Int) < ((224 : Nat) : Int)) (ld eU8 ((Addr.add y1_ 0)) fun (y2_ : Int) => (K [(3, .pointer (some c3)), (6, .pointer m6), (21, .bool ((y2_ == (0 : Int))))]))))) := by kernel_rfl
@[go_sem] theorem c83_r3 (K : Env → W) : RP c83 3 [] K =
    (K [(4, .pointer none), (5, .int .i64 ((4 : Int)))]) := by kernel_rfl
@[go_sem] theorem c83_r4 (c3 : Addr) (m6 : Option Addr) (K : Env → W) : RP c83 4 [(3, .pointer (some c3)), (6, .pointer m6)] K =
    (ldn e_api_Cell 2 c3 fun (y1_ : api_Cell) => (cal eI Try.prog 76 #[v_api_Cell y1_] fun (y2_ : Int) => (K [(4, .pointer m6), (5, .int .i64 y2_)]))) := by kernel_rfl
@[go_sem] theorem c83_o : c83.lo 1000000 = [4, 5] := rfl
@[go_sem] theorem c83_e (t4 : Option Addr) (t5 : Int) (k : Value → W) : RTp c83 [(4, .pointer t4), (5, .int .i64 t5)] k = (k (.tuple #[.pointer t4, .int .i64 t5])) := by kernel_rfl
theorem c83_ok : (c83.P.follows .mixedOrders && okc c83 c83.body) = true := by kernel_rfl
theorem c83_fn {e : Enc} {args : Array Value} {G : e.α → W} {L : List HP} {ρ : Env} (hρ : envA 0 args.toList = ρ) (hs : Nat.ble args.size 25 = true) (h : E L (D c83 (.seq (.reg 0) (.seq (.reg 1) (.seq (.seq (.reg 2) (.cond (.tmp 21) (.seq (.reg 3) (.ret)) (.skip))) (.seq (.reg 4) (.ret))))) (fnQ c83 e G) ρ)) : E L (cal e Try.prog 83 args G) :=
  d_fn (c := c83) Try.func83 (by kernel_rfl) (by kernel_rfl) (by kernel_rfl) c83_ok (by kernel_rfl) (by kernel_rfl) hρ hs h
/-! (*gharry.page.image).find -/
noncomputable def c84 : Cfg := { P := Try.prog, n := 12, T := TT, body := (Try.f84.body).getD .skip, res := Try.f84.results.toList, li := lk [] [(0, [0, 1]), (1, [0, 1])], lo := lk [] [(0, [0, 1]), (1, [4, 5]), (1000000, [4, 5])], ord := lk (false, []) [] }
@[go_sem] theorem c84_i0 : c84.li 0 = [0, 1] := rfl
@[go_sem] theorem c84_i1 : c84.li 1 = [0, 1] := rfl
@[go_sem] theorem c84_r0 (m0 : Option Addr) (key1 : List UInt8) (K : Env → W) : RP c84 0 [(0, .pointer m0), (1, str key1)] K =
    (K [(0, .pointer m0), (1, str key1)]) := by kernel_rfl
@[go_sem] theorem c84_r1 (m0 : Option Addr) (key1 : List UInt8) (K : Env → W) : RP c84 1 [(0, .pointer m0), (1, str key1)] K =
    (cal eSl Try.prog 82 #[.pointer m0] fun (y1_ : (Option Addr × Nat × Nat)) => (cal (eT2 eI eB) Try.prog 94 #[.slice y1_.1 y1_.2.1 y1_.2.2, str key1, .func (.func 95) #[] #[]] fun (y2_ : (Int × Bool)) => (K [(4, .int .i64 y2_.1), (5, .bool y2_.2)]))) := by kernel_rfl
@[go_sem] theorem c84_o : c84.lo 1000000 = [4, 5] := rfl
@[go_sem] theorem c84_e (t4 : Int) (t5 : Bool) (k : Value → W) : RTp c84 [(4, .int .i64 t4), (5, .bool t5)] k = (k (.tuple #[.int .i64 t4, .bool t5])) := by kernel_rfl
theorem c84_ok : (c84.P.follows .mixedOrders && okc c84 c84.body) = true := by kernel_rfl
theorem c84_fn {e : Enc} {args : Array Value} {G : e.α → W} {L : List HP} {ρ : Env} (hρ : envA 0 args.toList = ρ) (hs : Nat.ble args.size 12 = true) (h : E L (D c84 (.seq (.reg 0) (.seq (.reg 1) (.ret))) (fnQ c84 e G) ρ)) : E L (cal e Try.prog 84 args G) :=
  d_fn (c := c84) Try.func84 (by kernel_rfl) (by kernel_rfl) (by kernel_rfl) c84_ok (by kernel_rfl) (by kernel_rfl) hρ hs h
end Go.Sp
