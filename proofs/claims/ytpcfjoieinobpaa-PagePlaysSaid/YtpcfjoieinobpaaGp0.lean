/- What each region of the Go functions does. Written by my own generator. -/
import Derived.Test.YtpcfjoieinobpaaT
namespace Go.Sp
open Go
set_option maxRecDepth 100000
set_option linter.unusedVariables false
open Go.Proofs
/-! gharry.gharrylaw05.PageNeeds -/
noncomputable def c9 : Cfg := { P := Try.prog, n := 11, T := TT, body := (Try.f9.body).getD .skip, res := Try.f9.results.toList, li := lk [] [(0, [0]), (1, [1])], lo := lk [] [(0, [1]), (1, [2]), (1000000, [2])], ord := lk (false, []) [(1, (true, [(0, 0), (2, 0), (1, 2), (3, 4), (4, 1), (5, 1), (6, 4), (7, 1), (8, 1)]))] }
@[go_sem] theorem c9_i0 : c9.li 0 = [0] := rfl
@[go_sem] theorem c9_i1 : c9.li 1 = [1] := rfl
@[go_sem] theorem c9_r0 (c0 : api_Cell) (K : Env → W) : RP c9 0 [(0, v_api_Cell c0)] K =
    (nwc #[str c0.Key, str c0.Val] 55 fun y1_ => (K [(1, .pointer (some y1_))])) := by kernel_rfl
@[go_sem] theorem c9_r1 (c1 : Addr) (K : Env → W) : RP c9 1 [(1, .pointer (some c1))] K =
    (ph fun S0 => (ldnq S0 e_api_Cell 2 c1 fun (y1_ : api_Cell) => (ldnq S0 e_api_Cell 2 c1 fun (y2_ : api_Cell) => (cal eI Try.prog 40 #[v_api_Cell y1_] fun (y3_ : Int) => (kpn S0 fun S1 => (cal eI Try.prog 41 #[v_api_Cell y2_] fun (y4_ : Int) => (cnd ((y3_ == y4_)) (cal eB Try.prog 42 #[] fun (y5_ : Bool) => (K [(2, .bool y5_)])) (K [(2, .bool false)])))))))) := by kernel_rfl
@[go_sem] theorem c9_o : c9.lo 1000000 = [2] := rfl
@[go_sem] theorem c9_e (t2 : Bool) (k : Value → W) : RTp c9 [(2, .bool t2)] k = (k (.bool t2)) := by kernel_rfl
theorem c9_ok : (c9.P.follows .mixedOrders && okc c9 c9.body) = true := by kernel_rfl
theorem c9_fn {e : Enc} {args : Array Value} {G : e.α → W} {L : List HP} {ρ : Env} (hρ : envA 0 args.toList = ρ) (hs : Nat.ble args.size 11 = true) (h : E L (D c9 (.seq (.reg 0) (.seq (.reg 1) (.ret))) (fnQ c9 e G) ρ)) : E L (cal e Try.prog 9 args G) :=
  d_fn (c := c9) Try.func9 (by kernel_rfl) (by kernel_rfl) (by kernel_rfl) c9_ok (by kernel_rfl) (by kernel_rfl) hρ hs h
/-! gharry.gharrylaw05.PageMakes -/
noncomputable def c10 : Cfg := { P := Try.prog, n := 91, T := TT, body := (Try.f10.body).getD .skip, res := Try.f10.results.toList, li := lk [] [(0, [0, 1, 2]), (1, [0, 1, 2]), (2, [0, 1, 2]), (3, [0, 1, 2, 7, 8]), (4, [0, 1, 2, 7, 8, 9, 10]), (5, [7, 8, 9, 10]), (6, [0, 1, 2, 7, 8, 9, 10]), (7, []), (8, [0, 1, 2, 7, 8]), (9, [0, 1, 2, 7, 8]), (10, [0, 1, 2, 7, 8])], lo := lk [] [(0, [0, 1, 2]), (1, [0, 1, 2]), (2, [0, 1, 2, 7, 8]), (3, [0, 1, 2, 7, 8, 9, 10]), (4, [0, 1, 2, 7, 8, 9, 10, 29]), (5, [6]), (6, [0, 1, 2, 7, 8, 55]), (7, [6]), (8, [0, 1, 2, 7, 8, 60]), (9, [6]), (10, [6]), (1000000, [6])], ord := lk (false, []) [] }
@[go_sem] theorem c10_i0 : c10.li 0 = [0, 1, 2] := rfl
@[go_sem] theorem c10_i1 : c10.li 1 = [0, 1, 2] := rfl
@[go_sem] theorem c10_i2 : c10.li 2 = [0, 1, 2] := rfl
@[go_sem] theorem c10_i3 : c10.li 3 = [0, 1, 2, 7, 8] := rfl
@[go_sem] theorem c10_i4 : c10.li 4 = [0, 1, 2, 7, 8, 9, 10] := rfl
@[go_sem] theorem c10_i5 : c10.li 5 = [7, 8, 9, 10] := rfl
@[go_sem] theorem c10_i6 : c10.li 6 = [0, 1, 2, 7, 8, 9, 10] := rfl
@[go_sem] theorem c10_i7 : c10.li 7 = [] := rfl
@[go_sem] theorem c10_i8 : c10.li 8 = [0, 1, 2, 7, 8] := rfl
@[go_sem] theorem c10_i9 : c10.li 9 = [0, 1, 2, 7, 8] := rfl
@[go_sem] theorem c10_i10 : c10.li 10 = [0, 1, 2, 7, 8] := rfl
@[go_sem] theorem c10_r0 (kind0 : Int) (level1 : Int) (l2p : Option Addr) (l2n l2c : Nat) (K : Env → W) : RP c10 0 [(0, .int .i64 kind0), (1, .int .i64 level1), (2, .slice l2p l2n l2c)] K =
    (K [(0, .int .i64 kind0), (1, .int .i64 level1), (2, .slice l2p l2n l2c)]) := by kernel_rfl
@[go_sem] theorem c10_r1 (kind0 : Int) (level1 : Int) (l2p : Option Addr) (l2n l2c : Nat) (K : Env → W) : RP c10 1 [(0, .int .i64 kind0), (1, .int .i64 level1), (2, .slice l2p l2n l2c)] K =
    (cal eSl Try.prog 43 #[.slice l2p l2n l2c] fun (y1_ : (Option Addr × Nat × Nat)) => (K [(0, .int .i64 kind0), (1, .int .i64 level1), (2, .slice y1_.1 y1_.2.1 y1_.2.2)])) := by kernel_rfl
@[go_sem] theorem c10_r2 (kind0 : Int) (level1 : Int) (l2p : Option Addr) (l2n l2c : Nat) (K : Env → W) : RP c10 2 [(0, .int .i64 kind0), (1, .int .i64 level1), (2, .slice l2p l2n l2c)] K =
    (cal (eT2 eS eI) Try.prog 44 #[.int .i64 kind0, .int .i64 level1, .slice l2p l2n l2c] fun (y1_ : ((List UInt8) × Int)) => (K [(0, .int .i64 kind0), (1, .int .i64 level1), (2, .slice l2p l2n l2c), (7, str y1_.1), (8, .int .i64 y1_.2)])) := by kernel_rfl
@[go_sem] theorem c10_r3 (kind0 : Int) (level1 : Int) (l2p : Option Addr) (l2n l2c : Nat) (p7 : List UInt8) (e8 : Int) (K : Env → W) : RP c10 3 [(0, .int .i64 kind0), (1, .int .i64 level1), (2, .slice l2p l2n l2c), (7, str p7), (8, .int .i64 e8)] K =
    (cal (eT2 eS eI) Try.prog 45 #[.int .i64 kind0, .int .i64 level1] fun (y1_ : ((List UInt8) × Int)) => (K [(0, .int .i64 kind0), (1, .int .i64 level1), (2, .slice l2p l2n l2c), (7, str p7), (8, .int .i64 e8), (9, str y1_.1), (10, .int .i64 y1_.2)])) := by kernel_rfl
@[go_sem] theorem c10_r4 (kind0 : Int) (level1 : Int) (l2p : Option Addr) (l2n l2c : Nat) (p7 : List UInt8) (e8 : Int) (n9 : List UInt8) (f10 : Int) (K : Env → W) : RP c10 4 [(0, .int .i64 kind0), (1, .int .i64 level1), (2, .slice l2p l2n l2c), (7, str p7), (8, .int .i64 e8), (9, str n9), (10, .int .i64 f10)] K =
    (cal eI Try.prog 46 #[.int .i64 kind0, .int .i64 level1, .slice none 0 0] fun (y1_ : Int) => (K [(0, .int .i64 kind0), (1, .int .i64 level1), (2, .slice l2p l2n l2c), (7, str p7), (8, .int .i64 e8), (9, str n9), (10, .int .i64 f10), (29, .bool ((y1_ != (0 : Int))))])) := by kernel_rfl
@[go_sem] theorem c10_r5 (p7 : List UInt8) (e8 : Int) (n9 : List UInt8) (f10 : Int) (K : Env → W) : RP c10 5 [(7, str p7), (8, .int .i64 e8), (9, str n9), (10, .int .i64 f10)] K =
    (cnd ((p7 == ([] : List UInt8))) (cnd ((e8 == (1 : Int))) (cnd ((n9 == ([] : List UInt8))) (cnd ((f10 == (1 : Int))) (cal eB Try.prog 42 #[] fun (y1_ : Bool) => (K [(6, .bool y1_)])) (K [(6, .bool false)])) (K [(6, .bool false)])) (K [(6, .bool false)])) (K [(6, .bool false)])) := by kernel_rfl
@[go_sem] theorem c10_r6 (kind0 : Int) (level1 : Int) (l2p : Option Addr) (l2n l2c : Nat) (p7 : List UInt8) (e8 : Int) (n9 : List UInt8) (f10 : Int) (K : Env → W) : RP c10 6 [(0, .int .i64 kind0), (1, .int .i64 level1), (2, .slice l2p l2n l2c), (7, str p7), (8, .int .i64 e8), (9, str n9), (10, .int .i64 f10)] K =
    (cnd ((f10 != (0 : Int))) (K [(0, .int .i64 kind0), (1, .int .i64 level1), (2, .slice l2p l2n l2c), (7, str p7), (8, .int .i64 e8), (55, .bool true)]) (cal eS Try.prog 47 #[.int .i64 kind0, .int .i64 level1, .slice none 0 0] fun (y1_ : List UInt8) => (K [(0, .int .i64 kind0), (1, .int .i64 level1), (2, .slice l2p l2n l2c), (7, str p7), (8, .int .i64 e8), (55, .bool ((!(n9 == y1_))))]))) := by kernel_rfl
@[go_sem] theorem c10_r7 (K : Env → W) : RP c10 7 [] K =
    (K [(6, .bool false)]) := by kernel_rfl
@[go_sem] theorem c10_r8 (kind0 : Int) (level1 : Int) (l2p : Option Addr) (l2n l2c : Nat) (p7 : List UInt8) (e8 : Int) (K : Env → W) : RP c10 8 [(0, .int .i64 kind0), (1, .int .i64 level1), (2, .slice l2p l2n l2c), (7, str p7), (8, .int .i64 e8)] K =
    (cal eI Try.prog 46 #[.int .i64 kind0, .int .i64 level1, .slice l2p l2n l2c] fun (y1_ : Int) => (K [(0, .int .i64 kind0), (1, .int .i64 level1), (2, .slice l2p l2n l2c), (7, str p7), (8, .int .i64 e8), (60, .bool ((y1_ != (0 : Int))))])) := by kernel_rfl
@[go_sem] theorem c10_r9 (kind0 : Int) (level1 : Int) (l2p : Option Addr) (l2n l2c : Nat) (p7 : List UInt8) (e8 : Int) (K : Env → W) : RP c10 9 [(0, .int .i64 kind0), (1, .int .i64 level1), (2, .slice l2p l2n l2c), (7, str p7), (8, .int .i64 e8)] K =
    (cnd ((p7 == ([] : List UInt8))) (cal eI Try.prog 46 #[.int .i64 kind0, .int .i64 level1, .slice l2p l2n l2c] fun (y1_ : Int) => (cnd ((e8 == y1_)) (cal eB Try.prog 42 #[] fun (y2_ : Bool) => (K [(6, .bool y2_)])) (K [(6, .bool false)]))) (K [(6, .bool false)])) := by kernel_rfl
@[go_sem] theorem c10_r10 (kind0 : Int) (level1 : Int) (l2p : Option Addr) (l2n l2c : Nat) (p7 : List UInt8) (e8 : Int) (K : Env → W) : RP c10 10 [(0, .int .i64 kind0), (1, .int .i64 level1), (2, .slice l2p l2n l2c), (7, str p7), (8, .int .i64 e8)] K =
    (cnd ((e8 == (0 : Int))) (cal eS Try.prog 47 #[.int .i64 kind0, .int .i64 level1, .slice l2p l2n l2c] fun (y1_ : List UInt8) => (cnd ((p7 == y1_)) (cal eB Try.prog 48 #[str p7] fun (y2_ : Bool) => (cnd y2_ (cal eB Try.prog 42 #[] fun (y3_ : Bool) => (K [(6, .bool y3_)])) (K [(6, .bool false)]))) (K [(6, .bool false)]))) (K [(6, .bool false)])) := by kernel_rfl
@[go_sem] theorem c10_o : c10.lo 1000000 = [6] := rfl
@[go_sem] theorem c10_e (t6 : Bool) (k : Value → W) : RTp c10 [(6, .bool t6)] k = (k (.bool t6)) := by kernel_rfl
theorem c10_ok : (c10.P.follows .mixedOrders && okc c10 c10.body) = true := by kernel_rfl
theorem c10_fn {e : Enc} {args : Array Value} {G : e.α → W} {L : List HP} {ρ : Env} (hρ : envA 0 args.toList = ρ) (hs : Nat.ble args.size 91 = true) (h : E L (D c10 (.seq (.reg 0) (.seq (.reg 1) (.seq (.reg 2) (.seq (.reg 3) (.seq (.seq (.reg 4) (.cond (.tmp 29) (.seq (.reg 5) (.ret)) (.skip))) (.seq (.seq (.reg 6) (.cond (.tmp 55) (.seq (.reg 7) (.ret)) (.skip))) (.seq (.seq (.reg 8) (.cond (.tmp 60) (.seq (.reg 9) (.ret)) (.skip))) (.seq (.reg 10) (.ret))))))))) (fnQ c10 e G) ρ)) : E L (cal e Try.prog 10 args G) :=
  d_fn (c := c10) Try.func10 (by kernel_rfl) (by kernel_rfl) (by kernel_rfl) c10_ok (by kernel_rfl) (by kernel_rfl) hρ hs h
/-! gharry.gharrylaw05.PageHalves -/
noncomputable def c11 : Cfg := { P := Try.prog, n := 135, T := TT, body := (Try.f11.body).getD .skip, res := Try.f11.results.toList, li := lk [] [(0, [0]), (1, [0]), (2, [0, 3, 4, 5, 6]), (3, [0, 3, 4, 5, 6, 7, 8]), (4, [3, 4, 5, 6]), (5, [0, 3, 4, 5, 6, 7]), (6, [3, 4, 5, 6]), (7, [0, 3, 4, 5, 6, 7]), (8, [0, 3, 4, 5, 6, 7, 9]), (9, [0, 3, 4, 5, 6, 7, 9, 10]), (10, [0, 3, 4, 5, 6, 7, 9, 10, 11]), (11, [0, 3, 4, 5, 6, 7, 9, 10, 11]), (12, [0, 3, 4, 5, 6, 7, 9, 10, 11]), (13, [0, 3, 4, 5, 6, 7, 10]), (14, [3, 4, 5, 6, 7, 10, 12, 13])], lo := lk [] [(0, [0]), (1, [0, 3, 4, 5, 6]), (2, [0, 3, 4, 5, 6, 7, 8]), (3, [0, 3, 4, 5, 6, 7, 32]), (4, [2]), (5, [0, 3, 4, 5, 6, 7, 48]), (6, [2]), (7, [0, 3, 4, 5, 6, 7, 9]), (8, [0, 3, 4, 5, 6, 7, 9, 10]), (9, [0, 3, 4, 5, 6, 7, 9, 10, 11]), (10, [0, 3, 4, 5, 6, 7, 9, 10, 11, 85]), (11, [0, 3, 4, 5, 6, 7, 9, 10, 11]), (12, [0, 3, 4, 5, 6, 7, 9, 10, 11]), (13, [3, 4, 5, 6, 7, 10, 12, 13]), (14, [2]), (1000000, [2])], ord := lk (false, []) [(13, (false, [(0, 1), (1, 1), (2, 1), (3, 1), (4, 1), (5, 1), (6, 1), (7, 1)]))] }
@[go_sem] theorem c11_i0 : c11.li 0 = [0] := rfl
@[go_sem] theorem c11_i1 : c11.li 1 = [0] := rfl
@[go_sem] theorem c11_i2 : c11.li 2 = [0, 3, 4, 5, 6] := rfl
@[go_sem] theorem c11_i3 : c11.li 3 = [0, 3, 4, 5, 6, 7, 8] := rfl
@[go_sem] theorem c11_i4 : c11.li 4 = [3, 4, 5, 6] := rfl
@[go_sem] theorem c11_i5 : c11.li 5 = [0, 3, 4, 5, 6, 7] := rfl
@[go_sem] theorem c11_i6 : c11.li 6 = [3, 4, 5, 6] := rfl
@[go_sem] theorem c11_i7 : c11.li 7 = [0, 3, 4, 5, 6, 7] := rfl
@[go_sem] theorem c11_i8 : c11.li 8 = [0, 3, 4, 5, 6, 7, 9] := rfl
@[go_sem] theorem c11_i9 : c11.li 9 = [0, 3, 4, 5, 6, 7, 9, 10] := rfl
@[go_sem] theorem c11_i10 : c11.li 10 = [0, 3, 4, 5, 6, 7, 9, 10, 11] := rfl
@[go_sem] theorem c11_i11 : c11.li 11 = [0, 3, 4, 5, 6, 7, 9, 10, 11] := rfl
@[go_sem] theorem c11_i12 : c11.li 12 = [0, 3, 4, 5, 6, 7, 9, 10, 11] := rfl
@[go_sem] theorem c11_i13 : c11.li 13 = [0, 3, 4, 5, 6, 7, 10] := rfl
@[go_sem] theorem c11_i14 : c11.li 14 = [3, 4, 5, 6, 7, 10, 12, 13] := rfl
@[go_sem] theorem c11_r0 (p0 : List UInt8) (K : Env → W) : RP c11 0 [(0, str p0)] K =
    (K [(0, str p0)]) := by kernel_rfl
@[go_sem] theorem c11_r1 (p0 : List UInt8) (K : Env → W) : RP c11 1 [(0, str p0)] K =
    (cal (eT4 eS eS eS eI) Try.prog 49 #[str p0] fun (y1_ : ((List UInt8) × (List UInt8) × (List UInt8) × Int)) => (K [(0, str p0), (3, str y1_.1), (4, str y1_.2.1), (5, str y1_.2.2.1), (6, .int .i64 y1_.2.2.2)])) := by kernel_rfl
@[go_sem] theorem c11_r2 (p0 : List UInt8) (a3 : List UInt8) (b4 : List UInt8) (key5 : List UInt8) (e6 : Int) (K : Env → W) : RP c11 2 [(0, str p0), (3, str a3), (4, str b4), (5, str key5), (6, .int .i64 e6)] K =
    (cal (eT2 eSl eB) Try.prog 50 #[str p0] fun (y1_ : ((Option Addr × Nat × Nat) × Bool)) => (K [(0, str p0), (3, str a3), (4, str b4), (5, str key5), (6, .int .i64 e6), (7, .slice y1_.1.1 y1_.1.2.1 y1_.1.2.2), (8, .bool y1_.2)])) := by kernel_rfl
@[go_sem] theorem c11_r3 (p0 : List UInt8) (a3 : List UInt8) (b4 : List UInt8) (key5 : List UInt8) (e6 : Int) (l7p : Option Addr) (l7n l7c : Nat) (ok8 : Bool) (K : Env → W) : RP c11 3 [(0, str p0), (3, str a3), (4, str b4), (5, str key5), (6, .int .i64 e6), (7, .slice l7p l7n l7c), (8, .bool ok8)] K =
    (cnd ((!ok8)) (K [(0, str p0), (3, str a3), (4, str b4), (5, str key5), (6, .int .i64 e6), (7, .slice l7p l7n l7c), (32, .bool true)]) (rq (0 ≤ (0 : Int) ∧ (0 : Int) < ((p0).length : Int)) (K [(0, str p0), (3, str a3), (4, str b4), (5, str key5), (6, .int .i64 e6), (7, .slice l7p l7n l7c), (32, .bool (((bt p0 0 : Int) == (0 : Int))))]))) := by kernel_rfl
@[go_sem] theorem c11_r4 (a3 : List UInt8) (b4 : List UInt8) (key5 : List UInt8) (e6 : Int) (K : Env → W) : RP c11 4 [(3, str a3), (4, str b4), (5, str key5), (6, .int .i64 e6)] K =
    (rq (((a3).length : Int) + ((b4).length : Int) ≤ 9223372036854775807) (rq ((((a3 ++ b4)).length : Int) + ((key5).length : Int) ≤ 9223372036854775807) (cnd ((((a3 ++ b4) ++ key5) == ([] : List UInt8))) (cnd ((e6 == (4 : Int))) (cal eB Try.prog 42 #[] fun (y1_ : Bool) => (K [(2, .bool y1_)])) (K [(2, .bool false)])) (K [(2, .bool false)])))) := by kernel_rfl
@[go_sem] theorem c11_r5 (p0 : List UInt8) (a3 : List UInt8) (b4 : List UInt8) (key5 : List UInt8) (e6 : Int) (l7p : Option Addr) (l7n l7c : Nat) (K : Env → W) : RP c11 5 [(0, str p0), (3, str a3), (4, str b4), (5, str key5), (6, .int .i64 e6), (7, .slice l7p l7n l7c)] K =
    (K [(0, str p0), (3, str a3), (4, str b4), (5, str key5), (6, .int .i64 e6), (7, .slice l7p l7n l7c), (48, .bool ((decide ((l7n : Int) < (2 : Int)))))]) := by kernel_rfl
@[go_sem] theorem c11_r6 (a3 : List UInt8) (b4 : List UInt8) (key5 : List UInt8) (e6 : Int) (K : Env → W) : RP c11 6 [(3, str a3), (4, str b4), (5, str key5), (6, .int .i64 e6)] K =
    (rq (((a3).length : Int) + ((b4).length : Int) ≤ 9223372036854775807) (rq ((((a3 ++ b4)).length : Int) + ((key5).length : Int) ≤ 9223372036854775807) (cnd ((((a3 ++ b4) ++ key5) == ([] : List UInt8))) (cnd ((e6 == (2 : Int))) (cal eB Try.prog 42 #[] fun (y1_ : Bool) => (K [(2, .bool y1_)])) (K [(2, .bool false)])) (K [(2, .bool false)])))) := by kernel_rfl
@[go_sem] theorem c11_r7 (p0 : List UInt8) (a3 : List UInt8) (b4 : List UInt8) (key5 : List UInt8) (e6 : Int) (l7p : Option Addr) (l7n l7c : Nat) (K : Env → W) : RP c11 7 [(0, str p0), (3, str a3), (4, str b4), (5, str key5), (6, .int .i64 e6), (7, .slice l7p l7n l7c)] K =
    (cal eI Try.prog 51 #[.slice l7p l7n l7c] fun (y1_ : Int) => (K [(0, str p0), (3, str a3), (4, str b4), (5, str key5), (6, .int .i64 e6), (7, .slice l7p l7n l7c), (9, .int .i64 ((IntKind.wrap .i64 ((220 : Int) - y1_))))])) := by kernel_rfl
@[go_sem] theorem c11_r8 (p0 : List UInt8) (a3 : List UInt8) (b4 : List UInt8) (key5 : List UInt8) (e6 : Int) (l7p : Option Addr) (l7n l7c : Nat) (total9 : Int) (K : Env → W) : RP c11 8 [(0, str p0), (3, str a3), (4, str b4), (5, str key5), (6, .int .i64 e6), (7, .slice l7p l7n l7c), (9, .int .i64 total9)] K =
    (K [(0, str p0), (3, str a3), (4, str b4), (5, str key5), (6, .int .i64 e6), (7, .slice l7p l7n l7c), (9, .int .i64 total9), (10, .int .i64 ((1 : Int)))]) := by kernel_rfl
@[go_sem] theorem c11_r9 (p0 : List UInt8) (a3 : List UInt8) (b4 : List UInt8) (key5 : List UInt8) (e6 : Int) (l7p : Option Addr) (l7n l7c : Nat) (total9 : Int) (n10 : Int) (K : Env → W) : RP c11 9 [(0, str p0), (3, str a3), (4, str b4), (5, str key5), (6, .int .i64 e6), (7, .slice l7p l7n l7c), (9, .int .i64 total9), (10, .int .i64 n10)] K =
    (rq (0 ≤ (0 : Int) ∧ (0 : Int) < (l7n : Int)) (nn l7p fun y1_ => (ldn e_api_Cell 2 ((Addr.add y1_ 0)) fun (y2_ : api_Cell) => (cal eI Try.prog 41 #[v_api_Cell y2_] fun (y3_ : Int) => (K [(0, str p0), (3, str a3), (4, str b4), (5, str key5), (6, .int .i64 e6), (7, .slice l7p l7n l7c), (9, .int .i64 total9), (10, .int .i64 n10), (11, .int .i64 y3_)]))))) := by kernel_rfl
@[go_sem] theorem c11_r10 (p0 : List UInt8) (a3 : List UInt8) (b4 : List UInt8) (key5 : List UInt8) (e6 : Int) (l7p : Option Addr) (l7n l7c : Nat) (total9 : Int) (n10 : Int) (half11 : Int) (K : Env → W) : RP c11 10 [(0, str p0), (3, str a3), (4, str b4), (5, str key5), (6, .int .i64 e6), (7, .slice l7p l7n l7c), (9, .int .i64 total9), (10, .int .i64 n10), (11, .int .i64 half11)] K =
    (cnd ((decide (n10 < (IntKind.wrap .i64 ((l7n : Int) - (1 : Int)))))) (rq (0 ≤ n10 ∧ n10 < (l7n : Int)) (nn l7p fun y1_ => (ldn e_api_Cell 2 ((Addr.add y1_ ((n10).toNat * 2))) fun (y2_ : api_Cell) => (cal eI Try.prog 41 #[v_api_Cell y2_] fun (y3_ : Int) => (K [(0, str p0), (3, str a3), (4, str b4), (5, str key5), (6, .int .i64 e6), (7, .slice l7p l7n l7c), (9, .int .i64 total9), (10, .int .i64 n10), (11, .int .i64 half11), (85, .bool ((decide ((IntKind.wrap .i64 ((2 : Int) * (IntKind.wrap .i64 (half11 + y3_)))) ≤ total9))))]))))) (K [(0, str p0), (3, str a3), (4, str b4), (5, str key5), (6, .int .i64 e6), (7, .slice l7p l7n l7c), (9, .int .i64 total9), (10, .int .i64 n10), (11, .int .i64 half11), (85, .bool false)])) := by kernel_rfl
@[go_sem] theorem c11_r11 (p0 : List UInt8) (a3 : List UInt8) (b4 : List UInt8) (key5 : List UInt8) (e6 : Int) (l7p : Option Addr) (l7n l7c : Nat) (total9 : Int) (n10 : Int) (half11 : Int) (K : Env → W) : RP c11 11 [(0, str p0), (3, str a3), (4, str b4), (5, str key5), (6, .int .i64 e6), (7, .slice l7p l7n l7c), (9, .int .i64 total9), (10, .int .i64 n10), (11, .int .i64 half11)] K =
    (rq (0 ≤ n10 ∧ n10 < (l7n : Int)) (nn l7p fun y1_ => (ldn e_api_Cell 2 ((Addr.add y1_ ((n10).toNat * 2))) fun (y2_ : api_Cell) => (cal eI Try.prog 41 #[v_api_Cell y2_] fun (y3_ : Int) => (K [(0, str p0), (3, str a3), (4, str b4), (5, str key5), (6, .int .i64 e6), (7, .slice l7p l7n l7c), (9, .int .i64 total9), (10, .int .i64 n10), (11, .int .i64 ((IntKind.wrap .i64 (half11 + y3_))))]))))) := by kernel_rfl
@[go_sem] theorem c11_r12 (p0 : List UInt8) (a3 : List UInt8) (b4 : List UInt8) (key5 : List UInt8) (e6 : Int) (l7p : Option Addr) (l7n l7c : Nat) (total9 : Int) (n10 : Int) (half11 : Int) (K : Env → W) : RP c11 12 [(0, str p0), (3, str a3), (4, str b4), (5, str key5), (6, .int .i64 e6), (7, .slice l7p l7n l7c), (9, .int .i64 total9), (10, .int .i64 n10), (11, .int .i64 half11)] K =
    (K [(0, str p0), (3, str a3), (4, str b4), (5, str key5), (6, .int .i64 e6), (7, .slice l7p l7n l7c), (9, .int .i64 total9), (10, .int .i64 ((IntKind.wrap .i64 (n10 + (1 : Int))))), (11, .int .i64 half11)]) := by kernel_rfl
@[go_sem] theorem c11_r13 (p0 : List UInt8) (a3 : List UInt8) (b4 : List UInt8) (key5 : List UInt8) (e6 : Int) (l7p : Option Addr) (l7n l7c : Nat) (n10 : Int) (K : Env → W) : RP c11 13 [(0, str p0), (3, str a3), (4, str b4), (5, str key5), (6, .int .i64 e6), (7, .slice l7p l7n l7c), (10, .int .i64 n10)] K =
    (rq (0 ≤ (0 : Int) ∧ (0 : Int) < ((p0).length : Int)) (rq (0 ≤ (1 : Int) ∧ (1 : Int) < ((p0).length : Int)) (K [(3, str a3), (4, str b4), (5, str key5), (6, .int .i64 e6), (7, .slice l7p l7n l7c), (10, .int .i64 n10), (12, .int .i64 ((IntKind.wrap .i64 ((bt p0 0 : Int))))), (13, .int .i64 ((IntKind.wrap .i64 ((bt p0 1 : Int)))))]))) := by kernel_rfl
@[go_sem] theorem c11_r14 (a3 : List UInt8) (b4 : List UInt8) (key5 : List UInt8) (e6 : Int) (l7p : Option Addr) (l7n l7c : Nat) (n10 : Int) (kind12 : Int) (level13 : Int) (K : Env → W) : RP c11 14 [(3, str a3), (4, str b4), (5, str key5), (6, .int .i64 e6), (7, .slice l7p l7n l7c), (10, .int .i64 n10), (12, .int .i64 kind12), (13, .int .i64 level13)] K =
    (cnd ((e6 == (0 : Int))) (rq (0 ≤ (0 : Int) ∧ 0 ≤ n10 ∧ n10 ≤ (l7c : Int)) (cal eS Try.prog 47 #[.int .i64 kind12, .int .i64 level13, .slice ((slp l7p 0 (l7c : Int) 2)) (((n10).toNat - (0 : Int).toNat)) ((((l7c : Int)).toNat - (0 : Int).toNat))] fun (y1_ : List UInt8) => (cnd ((a3 == y1_)) (rq (0 ≤ (n10 : Int) ∧ n10 ≤ (l7n : Int) ∧ (l7n : Int) ≤ (l7c : Int)) (cal eS Try.prog 47 #[.int .i64 kind12, .int .i64 level13, .slice ((slp l7p n10 (l7c : Int) 2)) ((((l7n : Int)).toNat - (n10 : Int).toNat)) ((((l7c : Int)).toNat - (n10 : Int).toNat))] fun (y2_ : List UInt8) => (cnd ((b4 == y2_)) (rq (0 ≤ n10 ∧ n10 < (l7n : Int)) (nn l7p fun y3_ => (ld eS ((Addr.add y3_ ((n10).toNat * 2))) fun (y4_ : List UInt8) => (cnd ((key5 == y4_)) (cal eB Try.prog 42 #[] fun (y5_ : Bool) => (K [(2, .bool y5_)])) (K [(2, .bool false)]))))) (K [(2, .bool false)])))) (K [(2, .bool false)])))) (K [(2, .bool false)])) := by kernel_rfl
@[go_sem] theorem c11_o : c11.lo 1000000 = [2] := rfl
@[go_sem] theorem c11_e (t2 : Bool) (k : Value → W) : RTp c11 [(2, .bool t2)] k = (k (.bool t2)) := by kernel_rfl
theorem c11_ok : (c11.P.follows .mixedOrders && okc c11 c11.body) = true := by kernel_rfl
theorem c11_fn {e : Enc} {args : Array Value} {G : e.α → W} {L : List HP} {ρ : Env} (hρ : envA 0 args.toList = ρ) (hs : Nat.ble args.size 135 = true) (h : E L (D c11 (.seq (.reg 0) (.seq (.reg 1) (.seq (.reg 2) (.seq (.seq (.reg 3) (.cond (.tmp 32) (.seq (.reg 4) (.ret)) (.skip))) (.seq (.seq (.reg 5) (.cond (.tmp 48) (.seq (.reg 6) (.ret)) (.skip))) (.seq (.reg 7) (.seq (.reg 8) (.seq (.reg 9) (.seq (.block 0 (.loop (.seq (.seq (.reg 10) (.cond (.tmp 85) (.skip) (.exit 0))) (.block 1 (.seq (.reg 11) (.reg 12)))))) (.seq (.reg 13) (.seq (.reg 14) (.ret)))))))))))) (fnQ c11 e G) ρ)) : E L (cal e Try.prog 11 args G) :=
  d_fn (c := c11) Try.func11 (by kernel_rfl) (by kernel_rfl) (by kernel_rfl) c11_ok (by kernel_rfl) (by kernel_rfl) hρ hs h
-- loop (first region 10): live slots 0:p0 3:a3 4:b4 5:key5 6:e6 7:l7 9:total9 10:n10 11:half11, of which it writes [10, 11]
/-! gharry.gharrylaw05.PageDeletes -/
noncomputable def c12 : Cfg := { P := Try.prog, n := 77, T := TT, body := (Try.f12.body).getD .skip, res := Try.f12.results.toList, li := lk [] [(0, [0, 1]), (1, [0, 1]), (2, [0, 1, 5, 6]), (3, [0, 1, 5, 6, 7, 8]), (4, [5, 6]), (5, [0, 1, 5, 6, 7]), (6, [0, 5, 6, 7, 9, 10]), (7, [5, 6]), (8, [0, 5, 6, 7, 9])], lo := lk [] [(0, [0, 1]), (1, [0, 1, 5, 6]), (2, [0, 1, 5, 6, 7, 8]), (3, [0, 1, 5, 6, 7, 28]), (4, [4]), (5, [0, 5, 6, 7, 9, 10]), (6, [0, 5, 6, 7, 9, 45]), (7, [4]), (8, [4]), (1000000, [4])], ord := lk (false, []) [] }
@[go_sem] theorem c12_i0 : c12.li 0 = [0, 1] := rfl
@[go_sem] theorem c12_i1 : c12.li 1 = [0, 1] := rfl
@[go_sem] theorem c12_i2 : c12.li 2 = [0, 1, 5, 6] := rfl
@[go_sem] theorem c12_i3 : c12.li 3 = [0, 1, 5, 6, 7, 8] := rfl
@[go_sem] theorem c12_i4 : c12.li 4 = [5, 6] := rfl
@[go_sem] theorem c12_i5 : c12.li 5 = [0, 1, 5, 6, 7] := rfl
@[go_sem] theorem c12_i6 : c12.li 6 = [0, 5, 6, 7, 9, 10] := rfl
@[go_sem] theorem c12_i7 : c12.li 7 = [5, 6] := rfl
@[go_sem] theorem c12_i8 : c12.li 8 = [0, 5, 6, 7, 9] := rfl
@[go_sem] theorem c12_r0 (p0 : List UInt8) (key1 : List UInt8) (K : Env → W) : RP c12 0 [(0, str p0), (1, str key1)] K =
    (K [(0, str p0), (1, str key1)]) := by kernel_rfl
@[go_sem] theorem c12_r1 (p0 : List UInt8) (key1 : List UInt8) (K : Env → W) : RP c12 1 [(0, str p0), (1, str key1)] K =
    (cal (eT2 eS eI) Try.prog 52 #[str p0, str key1] fun (y1_ : ((List UInt8) × Int)) => (K [(0, str p0), (1, str key1), (5, str y1_.1), (6, .int .i64 y1_.2)])) := by kernel_rfl
@[go_sem] theorem c12_r2 (p0 : List UInt8) (key1 : List UInt8) (q5 : List UInt8) (e6 : Int) (K : Env → W) : RP c12 2 [(0, str p0), (1, str key1), (5, str q5), (6, .int .i64 e6)] K =
    (cal (eT2 eSl eB) Try.prog 50 #[str p0] fun (y1_ : ((Option Addr × Nat × Nat) × Bool)) => (K [(0, str p0), (1, str key1), (5, str q5), (6, .int .i64 e6), (7, .slice y1_.1.1 y1_.1.2.1 y1_.1.2.2), (8, .bool y1_.2)])) := by kernel_rfl
@[go_sem] theorem c12_r3 (p0 : List UInt8) (key1 : List UInt8) (q5 : List UInt8) (e6 : Int) (l7p : Option Addr) (l7n l7c : Nat) (ok8 : Bool) (K : Env → W) : RP c12 3 [(0, str p0), (1, str key1), (5, str q5), (6, .int .i64 e6), (7, .slice l7p l7n l7c), (8, .bool ok8)] K =
    (cnd ((!ok8)) (K [(0, str p0), (1, str key1), (5, str q5), (6, .int .i64 e6), (7, .slice l7p l7n l7c), (28, .bool true)]) (rq (0 ≤ (0 : Int) ∧ (0 : Int) < ((p0).length : Int)) (K [(0, str p0), (1, str key1), (5, str q5), (6, .int .i64 e6), (7, .slice l7p l7n l7c), (28, .bool (((bt p0 0 : Int) == (0 : Int))))]))) := by kernel_rfl
@[go_sem] theorem c12_r4 (q5 : List UInt8) (e6 : Int) (K : Env → W) : RP c12 4 [(5, str q5), (6, .int .i64 e6)] K =
    (cnd ((q5 == ([] : List UInt8))) (cnd ((e6 == (4 : Int))) (cal eB Try.prog 42 #[] fun (y1_ : Bool) => (K [(4, .bool y1_)])) (K [(4, .bool false)])) (K [(4, .bool false)])) := by kernel_rfl
@[go_sem] theorem c12_r5 (p0 : List UInt8) (key1 : List UInt8) (q5 : List UInt8) (e6 : Int) (l7p : Option Addr) (l7n l7c : Nat) (K : Env → W) : RP c12 5 [(0, str p0), (1, str key1), (5, str q5), (6, .int .i64 e6), (7, .slice l7p l7n l7c)] K =
    (cal (eT2 eI eB) Try.prog 53 #[.slice l7p l7n l7c, str key1] fun (y1_ : (Int × Bool)) => (K [(0, str p0), (5, str q5), (6, .int .i64 e6), (7, .slice l7p l7n l7c), (9, .int .i64 y1_.1), (10, .bool y1_.2)])) := by kernel_rfl
@[go_sem] theorem c12_r6 (p0 : List UInt8) (q5 : List UInt8) (e6 : Int) (l7p : Option Addr) (l7n l7c : Nat) (i9 : Int) (is10 : Bool) (K : Env → W) : RP c12 6 [(0, str p0), (5, str q5), (6, .int .i64 e6), (7, .slice l7p l7n l7c), (9, .int .i64 i9), (10, .bool is10)] K =
    (K [(0, str p0), (5, str q5), (6, .int .i64 e6), (7, .slice l7p l7n l7c), (9, .int .i64 i9), (45, .bool ((!is10)))]) := by kernel_rfl
@[go_sem] theorem c12_r7 (q5 : List UInt8) (e6 : Int) (K : Env → W) : RP c12 7 [(5, str q5), (6, .int .i64 e6)] K =
    (cnd ((q5 == ([] : List UInt8))) (cnd ((e6 == (8 : Int))) (cal eB Try.prog 42 #[] fun (y1_ : Bool) => (K [(4, .bool y1_)])) (K [(4, .bool false)])) (K [(4, .bool false)])) := by kernel_rfl
@[go_sem] theorem c12_r8 (p0 : List UInt8) (q5 : List UInt8) (e6 : Int) (l7p : Option Addr) (l7n l7c : Nat) (i9 : Int) (K : Env → W) : RP c12 8 [(0, str p0), (5, str q5), (6, .int .i64 e6), (7, .slice l7p l7n l7c), (9, .int .i64 i9)] K =
    (cnd ((e6 == (0 : Int))) (cal eS Try.prog 54 #[str p0, .int .i64 ((l7n : Int)), .int .i64 i9] fun (y1_ : List UInt8) => (cnd ((q5 == y1_)) (cal eSl Try.prog 56 #[str q5] fun (y2_ : (Option Addr × Nat × Nat)) => (cal eSl Try.prog 57 #[.slice l7p l7n l7c, .int .i64 i9] fun (y3_ : (Option Addr × Nat × Nat)) => (cal eB Try.prog 55 #[.slice y2_.1 y2_.2.1 y2_.2.2, .slice y3_.1 y3_.2.1 y3_.2.2] fun (y4_ : Bool) => (cnd y4_ (cal eB Try.prog 42 #[] fun (y5_ : Bool) => (K [(4, .bool y5_)])) (K [(4, .bool false)]))))) (K [(4, .bool false)]))) (K [(4, .bool false)])) := by kernel_rfl
@[go_sem] theorem c12_o : c12.lo 1000000 = [4] := rfl
@[go_sem] theorem c12_e (t4 : Bool) (k : Value → W) : RTp c12 [(4, .bool t4)] k = (k (.bool t4)) := by kernel_rfl
theorem c12_ok : (c12.P.follows .mixedOrders && okc c12 c12.body) = true := by kernel_rfl
theorem c12_fn {e : Enc} {args : Array Value} {G : e.α → W} {L : List HP} {ρ : Env} (hρ : envA 0 args.toList = ρ) (hs : Nat.ble args.size 77 = true) (h : E L (D c12 (.seq (.reg 0) (.seq (.reg 1) (.seq (.reg 2) (.seq (.seq (.reg 3) (.cond (.tmp 28) (.seq (.reg 4) (.ret)) (.skip))) (.seq (.reg 5) (.seq (.seq (.reg 6) (.cond (.tmp 45) (.seq (.reg 7) (.ret)) (.skip))) (.seq (.reg 8) (.ret)))))))) (fnQ c12 e G) ρ)) : E L (cal e Try.prog 12 args G) :=
  d_fn (c := c12) Try.func12 (by kernel_rfl) (by kernel_rfl) (by kernel_rfl) c12_ok (by kernel_rfl) (by kernel_rfl) hρ hs h
/-! gharry.gharrylaw05.PageRights -/
noncomputable def c13 : Cfg := { P := Try.prog, n := 159, T := TT, body := (Try.f13.body).getD .skip, res := Try.f13.results.toList, li := lk [] [(0, [0, 1, 2]), (1, [0, 1, 2]), (2, [0, 1, 2, 7, 8]), (3, [0, 1, 2, 7, 8, 9, 10]), (4, [0, 1, 2, 7, 8, 9, 10, 11, 12]), (5, []), (6, [0, 1, 2, 7, 8, 9, 10, 11, 12]), (7, [0, 9, 10, 11, 12]), (8, [0, 1, 2, 7, 9, 10, 11, 12]), (9, [0, 2, 7, 9, 10, 11, 12, 13, 14]), (10, [0, 2, 7, 9, 10, 11, 12, 13, 14, 15]), (11, [0, 2, 7, 9, 10, 11, 12, 13, 14]), (12, [0, 2, 7, 9, 10, 11, 12, 13, 14, 15]), (13, []), (14, [2, 7, 11, 12]), (15, [11, 12]), (16, [2, 7, 11, 12])], lo := lk [] [(0, [0, 1, 2]), (1, [0, 1, 2, 7, 8]), (2, [0, 1, 2, 7, 8, 9, 10]), (3, [0, 1, 2, 7, 8, 9, 10, 11, 12]), (4, [0, 1, 2, 7, 8, 9, 10, 11, 12, 36]), (5, [6]), (6, [0, 1, 2, 7, 9, 10, 11, 12, 38]), (7, [6]), (8, [0, 2, 7, 9, 10, 11, 12, 13, 14]), (9, [0, 2, 7, 9, 10, 11, 12, 13, 14, 15]), (10, [0, 2, 7, 9, 10, 11, 12, 13, 14, 15, 83]), (11, [0, 2, 7, 9, 10, 11, 12, 13, 14, 15]), (12, [2, 7, 11, 12, 127]), (13, [6]), (14, [2, 7, 11, 12, 135]), (15, [6]), (16, [6]), (1000000, [6])], ord := lk (false, []) [(12, (false, [(0, 1), (2, 1), (3, 1), (4, 1), (1, 4), (5, 1), (6, 1), (7, 1), (9, 1), (10, 1), (11, 1), (8, 4), (12, 1), (13, 1), (14, 1), (15, 1), (17, 1), (18, 1), (16, 4), (19, 1), (20, 1), (21, 1), (22, 1), (24, 1), (23, 4), (25, 4), (26, 1), (27, 1), (28, 1), (29, 1), (31, 1), (30, 4), (32, 1), (33, 1), (34, 1), (35, 1), (36, 1), (37, 1), (38, 1), (39, 1), (40, 1), (41, 1), (42, 1), (43, 1)])), (16, (true, [(0, 0), (1, 1), (2, 1), (3, 1), (4, 0), (5, 0), (6, 1), (7, 1), (8, 1), (9, 1), (10, 1), (11, 4), (12, 1), (13, 1)]))] }
@[go_sem] theorem c13_i0 : c13.li 0 = [0, 1, 2] := rfl
@[go_sem] theorem c13_i1 : c13.li 1 = [0, 1, 2] := rfl
@[go_sem] theorem c13_i2 : c13.li 2 = [0, 1, 2, 7, 8] := rfl
@[go_sem] theorem c13_i3 : c13.li 3 = [0, 1, 2, 7, 8, 9, 10] := rfl
@[go_sem] theorem c13_i4 : c13.li 4 = [0, 1, 2, 7, 8, 9, 10, 11, 12] := rfl
@[go_sem] theorem c13_i5 : c13.li 5 = [] := rfl
@[go_sem] theorem c13_i6 : c13.li 6 = [0, 1, 2, 7, 8, 9, 10, 11, 12] := rfl
@[go_sem] theorem c13_i7 : c13.li 7 = [0, 9, 10, 11, 12] := rfl
@[go_sem] theorem c13_i8 : c13.li 8 = [0, 1, 2, 7, 9, 10, 11, 12] := rfl
@[go_sem] theorem c13_i9 : c13.li 9 = [0, 2, 7, 9, 10, 11, 12, 13, 14] := rfl
@[go_sem] theorem c13_i10 : c13.li 10 = [0, 2, 7, 9, 10, 11, 12, 13, 14, 15] := rfl
@[go_sem] theorem c13_i11 : c13.li 11 = [0, 2, 7, 9, 10, 11, 12, 13, 14] := rfl
@[go_sem] theorem c13_i12 : c13.li 12 = [0, 2, 7, 9, 10, 11, 12, 13, 14, 15] := rfl
@[go_sem] theorem c13_i13 : c13.li 13 = [] := rfl
@[go_sem] theorem c13_i14 : c13.li 14 = [2, 7, 11, 12] := rfl
@[go_sem] theorem c13_i15 : c13.li 15 = [11, 12] := rfl
@[go_sem] theorem c13_i16 : c13.li 16 = [2, 7, 11, 12] := rfl
@[go_sem] theorem c13_r0 (p0 : List UInt8) (key1 : List UInt8) (i2 : Int) (K : Env → W) : RP c13 0 [(0, str p0), (1, str key1), (2, .int .i64 i2)] K =
    (K [(0, str p0), (1, str key1), (2, .int .i64 i2)]) := by kernel_rfl
@[go_sem] theorem c13_r1 (p0 : List UInt8) (key1 : List UInt8) (i2 : Int) (K : Env → W) : RP c13 1 [(0, str p0), (1, str key1), (2, .int .i64 i2)] K =
    (cal (eT2 eSl eB) Try.prog 50 #[str p0] fun (y1_ : ((Option Addr × Nat × Nat) × Bool)) => (K [(0, str p0), (1, str key1), (2, .int .i64 i2), (7, .slice y1_.1.1 y1_.1.2.1 y1_.1.2.2), (8, .bool y1_.2)])) := by kernel_rfl
@[go_sem] theorem c13_r2 (p0 : List UInt8) (key1 : List UInt8) (i2 : Int) (l7p : Option Addr) (l7n l7c : Nat) (ok8 : Bool) (K : Env → W) : RP c13 2 [(0, str p0), (1, str key1), (2, .int .i64 i2), (7, .slice l7p l7n l7c), (8, .bool ok8)] K =
    (cal (eT2 eI eB) Try.prog 58 #[str p0, str key1] fun (y1_ : (Int × Bool)) => (K [(0, str p0), (1, str key1), (2, .int .i64 i2), (7, .slice l7p l7n l7c), (8, .bool ok8), (9, .int .i64 y1_.1), (10, .bool y1_.2)])) := by kernel_rfl
@[go_sem] theorem c13_r3 (p0 : List UInt8) (key1 : List UInt8) (i2 : Int) (l7p : Option Addr) (l7n l7c : Nat) (ok8 : Bool) (at9 : Int) (is10 : Bool) (K : Env → W) : RP c13 3 [(0, str p0), (1, str key1), (2, .int .i64 i2), (7, .slice l7p l7n l7c), (8, .bool ok8), (9, .int .i64 at9), (10, .bool is10)] K =
    (cal (eT2 e_api_Cell eI) Try.prog 59 #[str p0, .int .i64 i2] fun (y1_ : (api_Cell × Int)) => (nwc #[str (([] : List UInt8)), str (([] : List UInt8))] 55 fun y2_ => (stl [str y1_.1.Key, str y1_.1.Val] y2_ 0 (K [(0, str p0), (1, str key1), (2, .int .i64 i2), (7, .slice l7p l7n l7c), (8, .bool ok8), (9, .int .i64 at9), (10, .bool is10), (11, .pointer (some y2_)), (12, .int .i64 y1_.2)])))) := by kernel_rfl
@[go_sem] theorem c13_r4 (p0 : List UInt8) (key1 : List UInt8) (i2 : Int) (l7p : Option Addr) (l7n l7c : Nat) (ok8 : Bool) (at9 : Int) (is10 : Bool) (c11 : Addr) (e12 : Int) (K : Env → W) : RP c13 4 [(0, str p0), (1, str key1), (2, .int .i64 i2), (7, .slice l7p l7n l7c), (8, .bool ok8), (9, .int .i64 at9), (10, .bool is10), (11, .pointer (some c11)), (12, .int .i64 e12)] K =
    (cal eB Try.prog 48 #[str p0] fun (y1_ : Bool) => (K [(0, str p0), (1, str key1), (2, .int .i64 i2), (7, .slice l7p l7n l7c), (8, .bool ok8), (9, .int .i64 at9), (10, .bool is10), (11, .pointer (some c11)), (12, .int .i64 e12), (36, .bool ((!(y1_ == ok8))))])) := by kernel_rfl
@[go_sem] theorem c13_r5 (K : Env → W) : RP c13 5 [] K =
    (K [(6, .bool false)]) := by kernel_rfl
@[go_sem] theorem c13_r6 (p0 : List UInt8) (key1 : List UInt8) (i2 : Int) (l7p : Option Addr) (l7n l7c : Nat) (ok8 : Bool) (at9 : Int) (is10 : Bool) (c11 : Addr) (e12 : Int) (K : Env → W) : RP c13 6 [(0, str p0), (1, str key1), (2, .int .i64 i2), (7, .slice l7p l7n l7c), (8, .bool ok8), (9, .int .i64 at9), (10, .bool is10), (11, .pointer (some c11)), (12, .int .i64 e12)] K =
    (K [(0, str p0), (1, str key1), (2, .int .i64 i2), (7, .slice l7p l7n l7c), (9, .int .i64 at9), (10, .bool is10), (11, .pointer (some c11)), (12, .int .i64 e12), (38, .bool ((!ok8)))]) := by kernel_rfl
@[go_sem] theorem c13_r7 (p0 : List UInt8) (at9 : Int) (is10 : Bool) (c11 : Addr) (e12 : Int) (K : Env → W) : RP c13 7 [(0, str p0), (9, .int .i64 at9), (10, .bool is10), (11, .pointer (some c11)), (12, .int .i64 e12)] K =
    (cal eI Try.prog 60 #[str p0] fun (y1_ : Int) => (cal eI Try.prog 61 #[str p0] fun (y2_ : Int) => (cal eI Try.prog 62 #[str p0] fun (y3_ : Int) => (cal eI Try.prog 63 #[str p0] fun (y4_ : Int) => (cal eSl Try.prog 56 #[str p0] fun (y5_ : (Option Addr × Nat × Nat)) => (cnd (((IntKind.wrap .i64 ((IntKind.wrap .i64 ((IntKind.wrap .i64 ((IntKind.wrap .i64 ((IntKind.wrap .i64 (y1_ + y2_)) + y3_)) + y4_)) + (y5_.2.1 : Int))) + at9)) == (0 : Int))) (cnd ((!is10)) (ldn e_api_Cell 2 c11 fun (y6_ : api_Cell) => (val eB Try.prog (oEq .eql 55 (.tmp 62) (.tmp 63) (v_api_Cell y6_) (v_api_Cell ((⟨([] : List UInt8), ([] : List UInt8)⟩ : api_Cell)))) fun (y7_ : Bool) => (cnd y7_ (cnd ((e12 == (4 : Int))) (cal eB Try.prog 42 #[] fun (y8_ : Bool) => (K [(6, .bool y8_)])) (K [(6, .bool false)])) (K [(6, .bool false)])))) (K [(6, .bool false)])) (K [(6, .bool false)]))))))) := by kernel_rfl
@[go_sem] theorem c13_r8 (p0 : List UInt8) (key1 : List UInt8) (i2 : Int) (l7p : Option Addr) (l7n l7c : Nat) (at9 : Int) (is10 : Bool) (c11 : Addr) (e12 : Int) (K : Env → W) : RP c13 8 [(0, str p0), (1, str key1), (2, .int .i64 i2), (7, .slice l7p l7n l7c), (9, .int .i64 at9), (10, .bool is10), (11, .pointer (some c11)), (12, .int .i64 e12)] K =
    (cal (eT2 eI eB) Try.prog 53 #[.slice l7p l7n l7c, str key1] fun (y1_ : (Int × Bool)) => (K [(0, str p0), (2, .int .i64 i2), (7, .slice l7p l7n l7c), (9, .int .i64 at9), (10, .bool is10), (11, .pointer (some c11)), (12, .int .i64 e12), (13, .int .i64 y1_.1), (14, .bool y1_.2)])) := by kernel_rfl
@[go_sem] theorem c13_r9 (p0 : List UInt8) (i2 : Int) (l7p : Option Addr) (l7n l7c : Nat) (at9 : Int) (is10 : Bool) (c11 : Addr) (e12 : Int) (n13 : Int) (there14 : Bool) (K : Env → W) : RP c13 9 [(0, str p0), (2, .int .i64 i2), (7, .slice l7p l7n l7c), (9, .int .i64 at9), (10, .bool is10), (11, .pointer (some c11)), (12, .int .i64 e12), (13, .int .i64 n13), (14, .bool there14)] K =
    (cal eI Try.prog 51 #[.slice l7p l7n l7c] fun (y1_ : Int) => (K [(0, str p0), (2, .int .i64 i2), (7, .slice l7p l7n l7c), (9, .int .i64 at9), (10, .bool is10), (11, .pointer (some c11)), (12, .int .i64 e12), (13, .int .i64 n13), (14, .bool there14), (15, .int .i64 y1_)])) := by kernel_rfl
@[go_sem] theorem c13_r10 (p0 : List UInt8) (i2 : Int) (l7p : Option Addr) (l7n l7c : Nat) (at9 : Int) (is10 : Bool) (c11 : Addr) (e12 : Int) (n13 : Int) (there14 : Bool) (left15 : Int) (K : Env → W) : RP c13 10 [(0, str p0), (2, .int .i64 i2), (7, .slice l7p l7n l7c), (9, .int .i64 at9), (10, .bool is10), (11, .pointer (some c11)), (12, .int .i64 e12), (13, .int .i64 n13), (14, .bool there14), (15, .int .i64 left15)] K =
    (rq (0 ≤ (0 : Int) ∧ (0 : Int) < ((p0).length : Int)) (K [(0, str p0), (2, .int .i64 i2), (7, .slice l7p l7n l7c), (9, .int .i64 at9), (10, .bool is10), (11, .pointer (some c11)), (12, .int .i64 e12), (13, .int .i64 n13), (14, .bool there14), (15, .int .i64 left15), (83, .bool (((bt p0 0 : Int) == (0 : Int))))])) := by kernel_rfl
@[go_sem] theorem c13_r11 (p0 : List UInt8) (i2 : Int) (l7p : Option Addr) (l7n l7c : Nat) (at9 : Int) (is10 : Bool) (c11 : Addr) (e12 : Int) (n13 : Int) (there14 : Bool) (K : Env → W) : RP c13 11 [(0, str p0), (2, .int .i64 i2), (7, .slice l7p l7n l7c), (9, .int .i64 at9), (10, .bool is10), (11, .pointer (some c11)), (12, .int .i64 e12), (13, .int .i64 n13), (14, .bool there14)] K =
    (K [(0, str p0), (2, .int .i64 i2), (7, .slice l7p l7n l7c), (9, .int .i64 at9), (10, .bool is10), (11, .pointer (some c11)), (12, .int .i64 e12), (13, .int .i64 n13), (14, .bool there14), (15, .int .i64 ((0 : Int)))]) := by kernel_rfl
@[go_sem] theorem c13_r12 (p0 : List UInt8) (i2 : Int) (l7p : Option Addr) (l7n l7c : Nat) (at9 : Int) (is10 : Bool) (c11 : Addr) (e12 : Int) (n13 : Int) (there14 : Bool) (left15 : Int) (K : Env → W) : RP c13 12 [(0, str p0), (2, .int .i64 i2), (7, .slice l7p l7n l7c), (9, .int .i64 at9), (10, .bool is10), (11, .pointer (some c11)), (12, .int .i64 e12), (13, .int .i64 n13), (14, .bool there14), (15, .int .i64 left15)] K =
    (rq (0 ≤ (0 : Int) ∧ (0 : Int) < ((p0).length : Int)) (cal eI Try.prog 60 #[str p0] fun (y1_ : Int) => (cnd ((y1_ != (IntKind.wrap .i64 ((bt p0 0 : Int))))) (K [(2, .int .i64 i2), (7, .slice l7p l7n l7c), (11, .pointer (some c11)), (12, .int .i64 e12), (127, .bool true)]) (rq (0 ≤ (1 : Int) ∧ (1 : Int) < ((p0).length : Int)) (cal eI Try.prog 61 #[str p0] fun (y2_ : Int) => (cnd ((y2_ != (IntKind.wrap .i64 ((bt p0 1 : Int))))) (K [(2, .int .i64 i2), (7, .slice l7p l7n l7c), (11, .pointer (some c11)), (12, .int .i64 e12), (127, .bool true)]) (cal eI Try.prog 62 #[str p0] fun (y3_ : Int) => (cnd ((y3_ != (l7n : Int))) (K [(2, .int .i64 i2), (7, .slice l7p l7n l7c), (11, .pointer (some c11)), (12, .int .i64 e12), (127, .bool true)]) (cal eSl Try.prog 56 #[str p0] fun (y4_ : (Option Addr × Nat × Nat)) => (cal eB Try.prog 55 #[.slice y4_.1 y4_.2.1 y4_.2.2, .slice l7p l7n l7c] fun (y5_ : Bool) => (cnd ((!y5_)) (K [(2, .int .i64 i2), (7, .slice l7p l7n l7c), (11, .pointer (some c11)), (12, .int .i64 e12), (127, .bool true)]) (cal eI Try.prog 63 #[str p0] fun (y6_ : Int) => (cnd ((y6_ != left15)) (K [(2, .int .i64 i2), (7, .slice l7p l7n l7c), (11, .pointer (some c11)), (12, .int .i64 e12), (127, .bool true)]) (cnd ((at9 != n13)) (K [(2, .int .i64 i2), (7, .slice l7p l7n l7c), (11, .pointer (some c11)), (12, .int .i64 e12), (127, .bool true)]) (K [(2, .int .i64 i2), (7, .slice l7p l7n l7c), (11, .pointer (some c11)), (12, .int .i64 e12), (127, .bool ((!(is10 == there14))))]))))))))))))))) := by kernel_rfl
@[go_sem] theorem c13_r13 (K : Env → W) : RP c13 13 [] K =
    (K [(6, .bool false)]) := by kernel_rfl
@[go_sem] theorem c13_r14 (i2 : Int) (l7p : Option Addr) (l7n l7c : Nat) (c11 : Addr) (e12 : Int) (K : Env → W) : RP c13 14 [(2, .int .i64 i2), (7, .slice l7p l7n l7c), (11, .pointer (some c11)), (12, .int .i64 e12)] K =
    (cnd ((decide (i2 < (0 : Int)))) (K [(2, .int .i64 i2), (7, .slice l7p l7n l7c), (11, .pointer (some c11)), (12, .int .i64 e12), (135, .bool true)]) (K [(2, .int .i64 i2), (7, .slice l7p l7n l7c), (11, .pointer (some c11)), (12, .int .i64 e12), (135, .bool ((decide ((l7n : Int) ≤ i2))))])) := by kernel_rfl
@[go_sem] theorem c13_r15 (c11 : Addr) (e12 : Int) (K : Env → W) : RP c13 15 [(11, .pointer (some c11)), (12, .int .i64 e12)] K =
    (ldn e_api_Cell 2 c11 fun (y1_ : api_Cell) => (val eB Try.prog (oEq .eql 55 (.tmp 136) (.tmp 137) (v_api_Cell y1_) (v_api_Cell ((⟨([] : List UInt8), ([] : List UInt8)⟩ : api_Cell)))) fun (y2_ : Bool) => (cnd y2_ (cnd ((e12 == (8 : Int))) (cal eB Try.prog 42 #[] fun (y3_ : Bool) => (K [(6, .bool y3_)])) (K [(6, .bool false)])) (K [(6, .bool false)])))) := by kernel_rfl
@[go_sem] theorem c13_r16 (i2 : Int) (l7p : Option Addr) (l7n l7c : Nat) (c11 : Addr) (e12 : Int) (K : Env → W) : RP c13 16 [(2, .int .i64 i2), (7, .slice l7p l7n l7c), (11, .pointer (some c11)), (12, .int .i64 e12)] K =
    (ph fun S0 => (ldnq S0 e_api_Cell 2 c11 fun (y1_ : api_Cell) => (rq (0 ≤ i2 ∧ i2 < (l7n : Int)) (nn l7p fun y2_ => (ldnq S0 e_api_Cell 2 ((Addr.add y2_ ((i2).toNat * 2))) fun (y3_ : api_Cell) => (valq S0 eB Try.prog (oEq .eql 55 (.tmp 146) (.tmp 150) (v_api_Cell y1_) (v_api_Cell y3_)) fun (y4_ : Bool) => (cnd y4_ (cnd ((e12 == (0 : Int))) (cal eB Try.prog 42 #[] fun (y5_ : Bool) => (K [(6, .bool y5_)])) (K [(6, .bool false)])) (K [(6, .bool false)])))))))) := by kernel_rfl
@[go_sem] theorem c13_o : c13.lo 1000000 = [6] := rfl
@[go_sem] theorem c13_e (t6 : Bool) (k : Value → W) : RTp c13 [(6, .bool t6)] k = (k (.bool t6)) := by kernel_rfl
theorem c13_ok : (c13.P.follows .mixedOrders && okc c13 c13.body) = true := by kernel_rfl
theorem c13_fn {e : Enc} {args : Array Value} {G : e.α → W} {L : List HP} {ρ : Env} (hρ : envA 0 args.toList = ρ) (hs : Nat.ble args.size 159 = true) (h : E L (D c13 (.seq (.reg 0) (.seq (.reg 1) (.seq (.reg 2) (.seq (.reg 3) (.seq (.seq (.reg 4) (.cond (.tmp 36) (.seq (.reg 5) (.ret)) (.skip))) (.seq (.seq (.reg 6) (.cond (.tmp 38) (.seq (.reg 7) (.ret)) (.skip))) (.seq (.reg 8) (.seq (.reg 9) (.seq (.seq (.reg 10) (.cond (.tmp 83) (.reg 11) (.skip))) (.seq (.seq (.reg 12) (.cond (.tmp 127) (.seq (.reg 13) (.ret)) (.skip))) (.seq (.seq (.reg 14) (.cond (.tmp 135) (.seq (.reg 15) (.ret)) (.skip))) (.seq (.reg 16) (.ret))))))))))))) (fnQ c13 e G) ρ)) : E L (cal e Try.prog 13 args G) :=
  d_fn (c := c13) Try.func13 (by kernel_rfl) (by kernel_rfl) (by kernel_rfl) c13_ok (by kernel_rfl) (by kernel_rfl) hρ hs h
/-! gharry.gharrylaw05.PagePlays -/
noncomputable def c14 : Cfg := { P := Try.prog, n := 130, T := TT, body := (Try.f14.body).getD .skip, res := Try.f14.results.toList, li := lk [] [(0, [0]), (1, [0]), (2, [0, 3, 4]), (3, [0, 3, 4, 5]), (4, []), (5, [0, 3, 5]), (6, [0, 3, 5, 6]), (7, [0, 3, 5, 6]), (8, [0, 3, 5, 6]), (9, [0, 3, 5, 6, 7]), (10, [0, 3, 5, 6, 7, 8, 9]), (11, [0, 3, 5, 6, 7, 8, 9, 10]), (12, [0, 3, 5, 6, 7, 8, 9, 10]), (13, [0, 3, 5, 6, 7, 8, 9, 10]), (14, [0, 3, 5, 6, 7, 8, 9, 10, 11, 12]), (15, [0, 3, 5, 6, 7, 8, 11, 12]), (16, [0, 3, 5, 6, 7, 8, 9, 10, 46]), (17, [0, 3, 5, 6, 7, 8, 9, 10]), (18, [0, 3, 5, 6, 7, 8, 9, 10, 11, 12]), (19, [0, 3, 5, 6, 7, 8, 11, 12]), (20, [0, 3, 5, 6, 7, 8, 9, 10, 46]), (21, [0, 3, 5, 6, 7, 8, 9, 10]), (22, [0, 3, 5, 6, 8, 9, 10, 11, 12]), (23, [0, 3, 5, 6, 8, 11, 12]), (24, [0, 3, 6, 10, 11, 12]), (25, [0, 6, 10, 11]), (26, [0, 3, 6, 10]), (27, []), (28, [0, 3, 6, 10]), (29, [])], lo := lk [] [(0, [0]), (1, [0, 3, 4]), (2, [0, 3, 4, 5]), (3, [0, 3, 5, 18]), (4, [2]), (5, [0, 3, 5, 6]), (6, [0, 3, 5, 6, 26]), (7, [0, 3, 5, 6]), (8, [0, 3, 5, 6, 7]), (9, [0, 3, 5, 6, 7, 8, 9]), (10, [0, 3, 5, 6, 7, 8, 9, 10]), (11, [0, 3, 5, 6, 7, 8, 9, 10]), (12, [0, 3, 5, 6, 7, 8, 9, 10, 46]), (13, [0, 3, 5, 6, 7, 8, 9, 10, 11, 12]), (14, [0, 3, 5, 6, 7, 8, 10, 11, 12, 67]), (15, [0, 3, 6, 10, 11, 12]), (16, [0, 3, 5, 6, 7, 8, 9, 10, 46, 74]), (17, [0, 3, 5, 6, 7, 8, 9, 10, 11, 12]), (18, [0, 3, 5, 6, 7, 8, 10, 11, 12, 95]), (19, [0, 3, 6, 10, 11, 12]), (20, [0, 3, 5, 6, 7, 8, 9, 10, 100]), (21, [0, 3, 5, 6, 8, 9, 10, 11, 12]), (22, [0, 3, 5, 6, 8, 10, 11, 12, 109]), (23, [0, 3, 6, 10, 11, 12]), (24, [0, 3, 6, 10, 11, 114]), (25, [0, 3, 6, 10]), (26, [0, 3, 6, 10, 127]), (27, [2]), (28, [0, 3, 5, 6]), (29, [2]), (1000000, [2])], ord := lk (false, []) [(15, (true, [(0, 1), (1, 1), (3, 1), (4, 0), (2, 2), (5, 4), (6, 1)]))] }
@[go_sem] theorem c14_i0 : c14.li 0 = [0] := rfl
@[go_sem] theorem c14_i1 : c14.li 1 = [0] := rfl
@[go_sem] theorem c14_i2 : c14.li 2 = [0, 3, 4] := rfl
@[go_sem] theorem c14_i3 : c14.li 3 = [0, 3, 4, 5] := rfl
@[go_sem] theorem c14_i4 : c14.li 4 = [] := rfl
@[go_sem] theorem c14_i5 : c14.li 5 = [0, 3, 5] := rfl
@[go_sem] theorem c14_i6 : c14.li 6 = [0, 3, 5, 6] := rfl
@[go_sem] theorem c14_i7 : c14.li 7 = [0, 3, 5, 6] := rfl
@[go_sem] theorem c14_i8 : c14.li 8 = [0, 3, 5, 6] := rfl
@[go_sem] theorem c14_i9 : c14.li 9 = [0, 3, 5, 6, 7] := rfl
@[go_sem] theorem c14_i10 : c14.li 10 = [0, 3, 5, 6, 7, 8, 9] := rfl
@[go_sem] theorem c14_i11 : c14.li 11 = [0, 3, 5, 6, 7, 8, 9, 10] := rfl
@[go_sem] theorem c14_i12 : c14.li 12 = [0, 3, 5, 6, 7, 8, 9, 10] := rfl
@[go_sem] theorem c14_i13 : c14.li 13 = [0, 3, 5, 6, 7, 8, 9, 10] := rfl
@[go_sem] theorem c14_i14 : c14.li 14 = [0, 3, 5, 6, 7, 8, 9, 10, 11, 12] := rfl
@[go_sem] theorem c14_i15 : c14.li 15 = [0, 3, 5, 6, 7, 8, 11, 12] := rfl
@[go_sem] theorem c14_i16 : c14.li 16 = [0, 3, 5, 6, 7, 8, 9, 10, 46] := rfl
@[go_sem] theorem c14_i17 : c14.li 17 = [0, 3, 5, 6, 7, 8, 9, 10] := rfl
@[go_sem] theorem c14_i18 : c14.li 18 = [0, 3, 5, 6, 7, 8, 9, 10, 11, 12] := rfl
@[go_sem] theorem c14_i19 : c14.li 19 = [0, 3, 5, 6, 7, 8, 11, 12] := rfl
@[go_sem] theorem c14_i20 : c14.li 20 = [0, 3, 5, 6, 7, 8, 9, 10, 46] := rfl
@[go_sem] theorem c14_i21 : c14.li 21 = [0, 3, 5, 6, 7, 8, 9, 10] := rfl
@[go_sem] theorem c14_i22 : c14.li 22 = [0, 3, 5, 6, 8, 9, 10, 11, 12] := rfl
@[go_sem] theorem c14_i23 : c14.li 23 = [0, 3, 5, 6, 8, 11, 12] := rfl
@[go_sem] theorem c14_i24 : c14.li 24 = [0, 3, 6, 10, 11, 12] := rfl
@[go_sem] theorem c14_i25 : c14.li 25 = [0, 6, 10, 11] := rfl
@[go_sem] theorem c14_i26 : c14.li 26 = [0, 3, 6, 10] := rfl
@[go_sem] theorem c14_i27 : c14.li 27 = [] := rfl
@[go_sem] theorem c14_i28 : c14.li 28 = [0, 3, 6, 10] := rfl
@[go_sem] theorem c14_i29 : c14.li 29 = [] := rfl
@[go_sem] theorem c14_r0 (script0p : Option Addr) (script0n script0c : Nat) (K : Env → W) : RP c14 0 [(0, .slice script0p script0n script0c)] K =
    (K [(0, .slice script0p script0n script0c)]) := by kernel_rfl
@[go_sem] theorem c14_r1 (script0p : Option Addr) (script0n script0c : Nat) (K : Env → W) : RP c14 1 [(0, .slice script0p script0n script0c)] K =
    (cal (eT2 eS eI) Try.prog 45 #[.int .i64 ((1 : Int)), .int .i64 ((0 : Int))] fun (y1_ : ((List UInt8) × Int)) => (K [(0, .slice script0p script0n script0c), (3, str y1_.1), (4, .int .i64 y1_.2)])) := by kernel_rfl
@[go_sem] theorem c14_r2 (script0p : Option Addr) (script0n script0c : Nat) (p3 : List UInt8) (e4 : Int) (K : Env → W) : RP c14 2 [(0, .slice script0p script0n script0c), (3, str p3), (4, .int .i64 e4)] K =
    (K [(0, .slice script0p script0n script0c), (3, str p3), (4, .int .i64 e4), (5, .slice none 0 0)]) := by kernel_rfl
@[go_sem] theorem c14_r3 (script0p : Option Addr) (script0n script0c : Nat) (p3 : List UInt8) (e4 : Int) (l5p : Option Addr) (l5n l5c : Nat) (K : Env → W) : RP c14 3 [(0, .slice script0p script0n script0c), (3, str p3), (4, .int .i64 e4), (5, .slice l5p l5n l5c)] K =
    (K [(0, .slice script0p script0n script0c), (3, str p3), (5, .slice l5p l5n l5c), (18, .bool ((e4 != (0 : Int))))]) := by kernel_rfl
@[go_sem] theorem c14_r4 (K : Env → W) : RP c14 4 [] K =
    (K [(2, .bool false)]) := by kernel_rfl
@[go_sem] theorem c14_r5 (script0p : Option Addr) (script0n script0c : Nat) (p3 : List UInt8) (l5p : Option Addr) (l5n l5c : Nat) (K : Env → W) : RP c14 5 [(0, .slice script0p script0n script0c), (3, str p3), (5, .slice l5p l5n l5c)] K =
    (K [(0, .slice script0p script0n script0c), (3, str p3), (5, .slice l5p l5n l5c), (6, .int .i64 ((0 : Int)))]) := by kernel_rfl
@[go_sem] theorem c14_r6 (script0p : Option Addr) (script0n script0c : Nat) (p3 : List UInt8) (l5p : Option Addr) (l5n l5c : Nat) (k6 : Int) (K : Env → W) : RP c14 6 [(0, .slice script0p script0n script0c), (3, str p3), (5, .slice l5p l5n l5c), (6, .int .i64 k6)] K =
    (cnd ((decide (k6 < (script0n : Int)))) (K [(0, .slice script0p script0n script0c), (3, str p3), (5, .slice l5p l5n l5c), (6, .int .i64 k6), (26, .bool ((decide (k6 < (80 : Int)))))]) (K [(0, .slice script0p script0n script0c), (3, str p3), (5, .slice l5p l5n l5c), (6, .int .i64 k6), (26, .bool false)])) := by kernel_rfl
@[go_sem] theorem c14_r7 (script0p : Option Addr) (script0n script0c : Nat) (p3 : List UInt8) (l5p : Option Addr) (l5n l5c : Nat) (k6 : Int) (K : Env → W) : RP c14 7 [(0, .slice script0p script0n script0c), (3, str p3), (5, .slice l5p l5n l5c), (6, .int .i64 k6)] K =
    (K [(0, .slice script0p script0n script0c), (3, str p3), (5, .slice l5p l5n l5c), (6, .int .i64 ((IntKind.wrap .i64 (k6 + (1 : Int)))))]) := by kernel_rfl
@[go_sem] theorem c14_r8 (script0p : Option Addr) (script0n script0c : Nat) (p3 : List UInt8) (l5p : Option Addr) (l5n l5c : Nat) (k6 : Int) (K : Env → W) : RP c14 8 [(0, .slice script0p script0n script0c), (3, str p3), (5, .slice l5p l5n l5c), (6, .int .i64 k6)] K =
    (rq (0 ≤ k6 ∧ k6 < (script0n : Int)) (nn script0p fun y1_ => (ldn e_api_Cell 2 ((((Addr.add y1_ ((k6).toNat * 3))).add 1)) fun (y2_ : api_Cell) => (nwc #[str (([] : List UInt8)), str (([] : List UInt8))] 55 fun y3_ => (stl [str y2_.Key, str y2_.Val] y3_ 0 (K [(0, .slice script0p script0n script0c), (3, str p3), (5, .slice l5p l5n l5c), (6, .int .i64 k6), (7, .pointer (some y3_))])))))) := by kernel_rfl
@[go_sem] theorem c14_r9 (script0p : Option Addr) (script0n script0c : Nat) (p3 : List UInt8) (l5p : Option Addr) (l5n l5c : Nat) (k6 : Int) (c7 : Addr) (K : Env → W) : RP c14 9 [(0, .slice script0p script0n script0c), (3, str p3), (5, .slice l5p l5n l5c), (6, .int .i64 k6), (7, .pointer (some c7))] K =
    (ld eS c7 fun (y1_ : List UInt8) => (cal (eT2 eI eB) Try.prog 53 #[.slice l5p l5n l5c, str y1_] fun (y2_ : (Int × Bool)) => (K [(0, .slice script0p script0n script0c), (3, str p3), (5, .slice l5p l5n l5c), (6, .int .i64 k6), (7, .pointer (some c7)), (8, .int .i64 y2_.1), (9, .bool y2_.2)]))) := by kernel_rfl
@[go_sem] theorem c14_r10 (script0p : Option Addr) (script0n script0c : Nat) (p3 : List UInt8) (l5p : Option Addr) (l5n l5c : Nat) (k6 : Int) (c7 : Addr) (i8 : Int) (is9 : Bool) (K : Env → W) : RP c14 10 [(0, .slice script0p script0n script0c), (3, str p3), (5, .slice l5p l5n l5c), (6, .int .i64 k6), (7, .pointer (some c7)), (8, .int .i64 i8), (9, .bool is9)] K =
    (K [(0, .slice script0p script0n script0c), (3, str p3), (5, .slice l5p l5n l5c), (6, .int .i64 k6), (7, .pointer (some c7)), (8, .int .i64 i8), (9, .bool is9), (10, .slice l5p l5n l5c)]) := by kernel_rfl
@[go_sem] theorem c14_r11 (script0p : Option Addr) (script0n script0c : Nat) (p3 : List UInt8) (l5p : Option Addr) (l5n l5c : Nat) (k6 : Int) (c7 : Addr) (i8 : Int) (is9 : Bool) (next10p : Option Addr) (next10n next10c : Nat) (K : Env → W) : RP c14 11 [(0, .slice script0p script0n script0c), (3, str p3), (5, .slice l5p l5n l5c), (6, .int .i64 k6), (7, .pointer (some c7)), (8, .int .i64 i8), (9, .bool is9), (10, .slice next10p next10n next10c)] K =
    (K [(0, .slice script0p script0n script0c), (3, str p3), (5, .slice l5p l5n l5c), (6, .int .i64 k6), (7, .pointer (some c7)), (8, .int .i64 i8), (9, .bool is9), (10, .slice next10p next10n next10c)]) := by kernel_rfl
@[go_sem] theorem c14_r12 (script0p : Option Addr) (script0n script0c : Nat) (p3 : List UInt8) (l5p : Option Addr) (l5n l5c : Nat) (k6 : Int) (c7 : Addr) (i8 : Int) (is9 : Bool) (next10p : Option Addr) (next10n next10c : Nat) (K : Env → W) : RP c14 12 [(0, .slice script0p script0n script0c), (3, str p3), (5, .slice l5p l5n l5c), (6, .int .i64 k6), (7, .pointer (some c7)), (8, .int .i64 i8), (9, .bool is9), (10, .slice next10p next10n next10c)] K =
    (rq (0 ≤ k6 ∧ k6 < (script0n : Int)) (nn script0p fun y1_ => (ld eI ((Addr.add y1_ ((k6).toNat * 3))) fun (y2_ : Int) => (K [(0, .slice script0p script0n script0c), (3, str p3), (5, .slice l5p l5n l5c), (6, .int .i64 k6), (7, .pointer (some c7)), (8, .int .i64 i8), (9, .bool is9), (10, .slice next10p next10n next10c), (46, .int .i64 y2_)])))) := by kernel_rfl
@[go_sem] theorem c14_r13 (script0p : Option Addr) (script0n script0c : Nat) (p3 : List UInt8) (l5p : Option Addr) (l5n l5c : Nat) (k6 : Int) (c7 : Addr) (i8 : Int) (is9 : Bool) (next10p : Option Addr) (next10n next10c : Nat) (K : Env → W) : RP c14 13 [(0, .slice script0p script0n script0c), (3, str p3), (5, .slice l5p l5n l5c), (6, .int .i64 k6), (7, .pointer (some c7)), (8, .int .i64 i8), (9, .bool is9), (10, .slice next10p next10n next10c)] K =
    (ldn e_api_Cell 2 c7 fun (y1_ : api_Cell) => (cal (eT2 eS eI) Try.prog 67 #[str p3, v_api_Cell y1_] fun (y2_ : ((List UInt8) × Int)) => (K [(0, .slice script0p script0n script0c), (3, str p3), (5, .slice l5p l5n l5c), (6, .int .i64 k6), (7, .pointer (some c7)), (8, .int .i64 i8), (9, .bool is9), (10, .slice next10p next10n next10c), (11, str y2_.1), (12, .int .i64 y2_.2)]))) := by kernel_rfl
@[go_sem] theorem c14_r14 (script0p : Option Addr) (script0n script0c : Nat) (p3 : List UInt8) (l5p : Option Addr) (l5n l5c : Nat) (k6 : Int) (c7 : Addr) (i8 : Int) (is9 : Bool) (next10p : Option Addr) (next10n next10c : Nat) (q11 : List UInt8) (f12 : Int) (K : Env → W) : RP c14 14 [(0, .slice script0p script0n script0c), (3, str p3), (5, .slice l5p l5n l5c), (6, .int .i64 k6), (7, .pointer (some c7)), (8, .int .i64 i8), (9, .bool is9), (10, .slice next10p next10n next10c), (11, str q11), (12, .int .i64 f12)] K =
    (cnd is9 (ldn e_api_Cell 2 c7 fun (y1_ : api_Cell) => (cal eI Try.prog 65 #[v_api_Cell y1_] fun (y2_ : Int) => (cnd ((y2_ == (0 : Int))) (ldn e_api_Cell 2 c7 fun (y3_ : api_Cell) => (cal eI Try.prog 41 #[v_api_Cell y3_] fun (y4_ : Int) => (cal eSl Try.prog 57 #[.slice l5p l5n l5c, .int .i64 i8] fun (y5_ : (Option Addr × Nat × Nat)) => (cal eI Try.prog 51 #[.slice y5_.1 y5_.2.1 y5_.2.2] fun (y6_ : Int) => (K [(0, .slice script0p script0n script0c), (3, str p3), (5, .slice l5p l5n l5c), (6, .int .i64 k6), (7, .pointer (some c7)), (8, .int .i64 i8), (10, .slice next10p next10n next10c), (11, str q11), (12, .int .i64 f12), (67, .bool ((decide (y4_ ≤ y6_))))]))))) (K [(0, .slice script0p script0n script0c), (3, str p3), (5, .slice l5p l5n l5c), (6, .int .i64 k6), (7, .pointer (some c7)), (8, .int .i64 i8), (10, .slice next10p next10n next10c), (11, str q11), (12, .int .i64 f12), (67, .bool false)])))) (K [(0, .slice script0p script0n script0c), (3, str p3), (5, .slice l5p l5n l5c), (6, .int .i64 k6), (7, .pointer (some c7)), (8, .int .i64 i8), (10, .slice next10p next10n next10c), (11, str q11), (12, .int .i64 f12), (67, .bool false)])) := by kernel_rfl
@[go_sem] theorem c14_r15 (script0p : Option Addr) (script0n script0c : Nat) (p3 : List UInt8) (l5p : Option Addr) (l5n l5c : Nat) (k6 : Int) (c7 : Addr) (i8 : Int) (q11 : List UInt8) (f12 : Int) (K : Env → W) : RP c14 15 [(0, .slice script0p script0n script0c), (3, str p3), (5, .slice l5p l5n l5c), (6, .int .i64 k6), (7, .pointer (some c7)), (8, .int .i64 i8), (11, str q11), (12, .int .i64 f12)] K =
    (ph fun S0 => (ldnq S0 e_api_Cell 2 c7 fun (y1_ : api_Cell) => (cal eSl Try.prog 57 #[.slice l5p l5n l5c, .int .i64 i8] fun (y2_ : (Option Addr × Nat × Nat)) => (kpn S0 fun S1 => (cal eSl Try.prog 66 #[.slice y2_.1 y2_.2.1 y2_.2.2, .int .i64 i8, v_api_Cell y1_] fun (y3_ : (Option Addr × Nat × Nat)) => (K [(0, .slice script0p script0n script0c), (3, str p3), (6, .int .i64 k6), (10, .slice y3_.1 y3_.2.1 y3_.2.2), (11, str q11), (12, .int .i64 f12)])))))) := by kernel_rfl
@[go_sem] theorem c14_r16 (script0p : Option Addr) (script0n script0c : Nat) (p3 : List UInt8) (l5p : Option Addr) (l5n l5c : Nat) (k6 : Int) (c7 : Addr) (i8 : Int) (is9 : Bool) (next10p : Option Addr) (next10n next10c : Nat) (t46 : Int) (K : Env → W) : RP c14 16 [(0, .slice script0p script0n script0c), (3, str p3), (5, .slice l5p l5n l5c), (6, .int .i64 k6), (7, .pointer (some c7)), (8, .int .i64 i8), (9, .bool is9), (10, .slice next10p next10n next10c), (46, .int .i64 t46)] K =
    (K [(0, .slice script0p script0n script0c), (3, str p3), (5, .slice l5p l5n l5c), (6, .int .i64 k6), (7, .pointer (some c7)), (8, .int .i64 i8), (9, .bool is9), (10, .slice next10p next10n next10c), (46, .int .i64 t46), (74, .bool ((t46 == (0 : Int))))]) := by kernel_rfl
@[go_sem] theorem c14_r17 (script0p : Option Addr) (script0n script0c : Nat) (p3 : List UInt8) (l5p : Option Addr) (l5n l5c : Nat) (k6 : Int) (c7 : Addr) (i8 : Int) (is9 : Bool) (next10p : Option Addr) (next10n next10c : Nat) (K : Env → W) : RP c14 17 [(0, .slice script0p script0n script0c), (3, str p3), (5, .slice l5p l5n l5c), (6, .int .i64 k6), (7, .pointer (some c7)), (8, .int .i64 i8), (9, .bool is9), (10, .slice next10p next10n next10c)] K =
    (ldn e_api_Cell 2 c7 fun (y1_ : api_Cell) => (cal (eT2 eS eI) Try.prog 64 #[str p3, v_api_Cell y1_] fun (y2_ : ((List UInt8) × Int)) => (K [(0, .slice script0p script0n script0c), (3, str p3), (5, .slice l5p l5n l5c), (6, .int .i64 k6), (7, .pointer (some c7)), (8, .int .i64 i8), (9, .bool is9), (10, .slice next10p next10n next10c), (11, str y2_.1), (12, .int .i64 y2_.2)]))) := by kernel_rfl
@[go_sem] theorem c14_r18 (script0p : Option Addr) (script0n script0c : Nat) (p3 : List UInt8) (l5p : Option Addr) (l5n l5c : Nat) (k6 : Int) (c7 : Addr) (i8 : Int) (is9 : Bool) (next10p : Option Addr) (next10n next10c : Nat) (q11 : List UInt8) (f12 : Int) (K : Env → W) : RP c14 18 [(0, .slice script0p script0n script0c), (3, str p3), (5, .slice l5p l5n l5c), (6, .int .i64 k6), (7, .pointer (some c7)), (8, .int .i64 i8), (9, .bool is9), (10, .slice next10p next10n next10c), (11, str q11), (12, .int .i64 f12)] K =
    (cnd ((!is9)) (ldn e_api_Cell 2 c7 fun (y1_ : api_Cell) => (cal eI Try.prog 65 #[v_api_Cell y1_] fun (y2_ : Int) => (cnd ((y2_ == (0 : Int))) (ldn e_api_Cell 2 c7 fun (y3_ : api_Cell) => (cal eI Try.prog 41 #[v_api_Cell y3_] fun (y4_ : Int) => (cal eI Try.prog 51 #[.slice l5p l5n l5c] fun (y5_ : Int) => (K [(0, .slice script0p script0n script0c), (3, str p3), (5, .slice l5p l5n l5c), (6, .int .i64 k6), (7, .pointer (some c7)), (8, .int .i64 i8), (10, .slice next10p next10n next10c), (11, str q11), (12, .int .i64 f12), (95, .bool ((decide (y4_ ≤ y5_))))])))) (K [(0, .slice script0p script0n script0c), (3, str p3), (5, .slice l5p l5n l5c), (6, .int .i64 k6), (7, .pointer (some c7)), (8, .int .i64 i8), (10, .slice next10p next10n next10c), (11, str q11), (12, .int .i64 f12), (95, .bool false)])))) (K [(0, .slice script0p script0n script0c), (3, str p3), (5, .slice l5p l5n l5c), (6, .int .i64 k6), (7, .pointer (some c7)), (8, .int .i64 i8), (10, .slice next10p next10n next10c), (11, str q11), (12, .int .i64 f12), (95, .bool false)])) := by kernel_rfl
@[go_sem] theorem c14_r19 (script0p : Option Addr) (script0n script0c : Nat) (p3 : List UInt8) (l5p : Option Addr) (l5n l5c : Nat) (k6 : Int) (c7 : Addr) (i8 : Int) (q11 : List UInt8) (f12 : Int) (K : Env → W) : RP c14 19 [(0, .slice script0p script0n script0c), (3, str p3), (5, .slice l5p l5n l5c), (6, .int .i64 k6), (7, .pointer (some c7)), (8, .int .i64 i8), (11, str q11), (12, .int .i64 f12)] K =
    (ldn e_api_Cell 2 c7 fun (y1_ : api_Cell) => (cal eSl Try.prog 66 #[.slice l5p l5n l5c, .int .i64 i8, v_api_Cell y1_] fun (y2_ : (Option Addr × Nat × Nat)) => (K [(0, .slice script0p script0n script0c), (3, str p3), (6, .int .i64 k6), (10, .slice y2_.1 y2_.2.1 y2_.2.2), (11, str q11), (12, .int .i64 f12)]))) := by kernel_rfl
@[go_sem] theorem c14_r20 (script0p : Option Addr) (script0n script0c : Nat) (p3 : List UInt8) (l5p : Option Addr) (l5n l5c : Nat) (k6 : Int) (c7 : Addr) (i8 : Int) (is9 : Bool) (next10p : Option Addr) (next10n next10c : Nat) (t46 : Int) (K : Env → W) : RP c14 20 [(0, .slice script0p script0n script0c), (3, str p3), (5, .slice l5p l5n l5c), (6, .int .i64 k6), (7, .pointer (some c7)), (8, .int .i64 i8), (9, .bool is9), (10, .slice next10p next10n next10c), (46, .int .i64 t46)] K =
    (K [(0, .slice script0p script0n script0c), (3, str p3), (5, .slice l5p l5n l5c), (6, .int .i64 k6), (7, .pointer (some c7)), (8, .int .i64 i8), (9, .bool is9), (10, .slice next10p next10n next10c), (100, .bool ((t46 == (1 : Int))))]) := by kernel_rfl
@[go_sem] theorem c14_r21 (script0p : Option Addr) (script0n script0c : Nat) (p3 : List UInt8) (l5p : Option Addr) (l5n l5c : Nat) (k6 : Int) (c7 : Addr) (i8 : Int) (is9 : Bool) (next10p : Option Addr) (next10n next10c : Nat) (K : Env → W) : RP c14 21 [(0, .slice script0p script0n script0c), (3, str p3), (5, .slice l5p l5n l5c), (6, .int .i64 k6), (7, .pointer (some c7)), (8, .int .i64 i8), (9, .bool is9), (10, .slice next10p next10n next10c)] K =
    (ld eS c7 fun (y1_ : List UInt8) => (cal (eT2 eS eI) Try.prog 52 #[str p3, str y1_] fun (y2_ : ((List UInt8) × Int)) => (K [(0, .slice script0p script0n script0c), (3, str p3), (5, .slice l5p l5n l5c), (6, .int .i64 k6), (8, .int .i64 i8), (9, .bool is9), (10, .slice next10p next10n next10c), (11, str y2_.1), (12, .int .i64 y2_.2)]))) := by kernel_rfl
@[go_sem] theorem c14_r22 (script0p : Option Addr) (script0n script0c : Nat) (p3 : List UInt8) (l5p : Option Addr) (l5n l5c : Nat) (k6 : Int) (i8 : Int) (is9 : Bool) (next10p : Option Addr) (next10n next10c : Nat) (q11 : List UInt8) (f12 : Int) (K : Env → W) : RP c14 22 [(0, .slice script0p script0n script0c), (3, str p3), (5, .slice l5p l5n l5c), (6, .int .i64 k6), (8, .int .i64 i8), (9, .bool is9), (10, .slice next10p next10n next10c), (11, str q11), (12, .int .i64 f12)] K =
    (K [(0, .slice script0p script0n script0c), (3, str p3), (5, .slice l5p l5n l5c), (6, .int .i64 k6), (8, .int .i64 i8), (10, .slice next10p next10n next10c), (11, str q11), (12, .int .i64 f12), (109, .bool is9)]) := by kernel_rfl
@[go_sem] theorem c14_r23 (script0p : Option Addr) (script0n script0c : Nat) (p3 : List UInt8) (l5p : Option Addr) (l5n l5c : Nat) (k6 : Int) (i8 : Int) (q11 : List UInt8) (f12 : Int) (K : Env → W) : RP c14 23 [(0, .slice script0p script0n script0c), (3, str p3), (5, .slice l5p l5n l5c), (6, .int .i64 k6), (8, .int .i64 i8), (11, str q11), (12, .int .i64 f12)] K =
    (cal eSl Try.prog 57 #[.slice l5p l5n l5c, .int .i64 i8] fun (y1_ : (Option Addr × Nat × Nat)) => (K [(0, .slice script0p script0n script0c), (3, str p3), (6, .int .i64 k6), (10, .slice y1_.1 y1_.2.1 y1_.2.2), (11, str q11), (12, .int .i64 f12)])) := by kernel_rfl
@[go_sem] theorem c14_r24 (script0p : Option Addr) (script0n script0c : Nat) (p3 : List UInt8) (k6 : Int) (next10p : Option Addr) (next10n next10c : Nat) (q11 : List UInt8) (f12 : Int) (K : Env → W) : RP c14 24 [(0, .slice script0p script0n script0c), (3, str p3), (6, .int .i64 k6), (10, .slice next10p next10n next10c), (11, str q11), (12, .int .i64 f12)] K =
    (K [(0, .slice script0p script0n script0c), (3, str p3), (6, .int .i64 k6), (10, .slice next10p next10n next10c), (11, str q11), (114, .bool ((f12 == (0 : Int))))]) := by kernel_rfl
@[go_sem] theorem c14_r25 (script0p : Option Addr) (script0n script0c : Nat) (k6 : Int) (next10p : Option Addr) (next10n next10c : Nat) (q11 : List UInt8) (K : Env → W) : RP c14 25 [(0, .slice script0p script0n script0c), (6, .int .i64 k6), (10, .slice next10p next10n next10c), (11, str q11)] K =
    (K [(0, .slice script0p script0n script0c), (3, str q11), (6, .int .i64 k6), (10, .slice next10p next10n next10c)]) := by kernel_rfl
@[go_sem] theorem c14_r26 (script0p : Option Addr) (script0n script0c : Nat) (p3 : List UInt8) (k6 : Int) (next10p : Option Addr) (next10n next10c : Nat) (K : Env → W) : RP c14 26 [(0, .slice script0p script0n script0c), (3, str p3), (6, .int .i64 k6), (10, .slice next10p next10n next10c)] K =
    (cal eSl Try.prog 56 #[str p3] fun (y1_ : (Option Addr × Nat × Nat)) => (cal eB Try.prog 55 #[.slice y1_.1 y1_.2.1 y1_.2.2, .slice next10p next10n next10c] fun (y2_ : Bool) => (cnd ((!y2_)) (K [(0, .slice script0p script0n script0c), (3, str p3), (6, .int .i64 k6), (10, .slice next10p next10n next10c), (127, .bool true)]) (cal eI Try.prog 63 #[str p3] fun (y3_ : Int) => (cal eI Try.prog 51 #[.slice next10p next10n next10c] fun (y4_ : Int) => (K [(0, .slice script0p script0n script0c), (3, str p3), (6, .int .i64 k6), (10, .slice next10p next10n next10c), (127, .bool ((y3_ != y4_)))])))))) := by kernel_rfl
@[go_sem] theorem c14_r27 (K : Env → W) : RP c14 27 [] K =
    (K [(2, .bool false)]) := by kernel_rfl
@[go_sem] theorem c14_r28 (script0p : Option Addr) (script0n script0c : Nat) (p3 : List UInt8) (k6 : Int) (next10p : Option Addr) (next10n next10c : Nat) (K : Env → W) : RP c14 28 [(0, .slice script0p script0n script0c), (3, str p3), (6, .int .i64 k6), (10, .slice next10p next10n next10c)] K =
    (K [(0, .slice script0p script0n script0c), (3, str p3), (5, .slice next10p next10n next10c), (6, .int .i64 k6)]) := by kernel_rfl
@[go_sem] theorem c14_r29 (K : Env → W) : RP c14 29 [] K =
    (cal eB Try.prog 42 #[] fun (y1_ : Bool) => (K [(2, .bool y1_)])) := by kernel_rfl
@[go_sem] theorem c14_o : c14.lo 1000000 = [2] := rfl
@[go_sem] theorem c14_e (t2 : Bool) (k : Value → W) : RTp c14 [(2, .bool t2)] k = (k (.bool t2)) := by kernel_rfl
theorem c14_ok : (c14.P.follows .mixedOrders && okc c14 c14.body) = true := by kernel_rfl
theorem c14_fn {e : Enc} {args : Array Value} {G : e.α → W} {L : List HP} {ρ : Env} (hρ : envA 0 args.toList = ρ) (hs : Nat.ble args.size 130 = true) (h : E L (D c14 (.seq (.reg 0) (.seq (.reg 1) (.seq (.reg 2) (.seq (.seq (.reg 3) (.cond (.tmp 18) (.seq (.reg 4) (.ret)) (.skip))) (.seq (.seq (.reg 5) (.block 0 (.loop (.seq (.seq (.reg 6) (.cond (.tmp 26) (.skip) (.exit 0))) (.seq (.block 1 (.seq (.reg 8) (.seq (.reg 9) (.seq (.reg 10) (.seq (.reg 11) (.seq (.seq (.reg 12) (.block 2 (.seq (.reg 16) (.cond (.tmp 74) (.seq (.reg 17) (.seq (.reg 18) (.cond (.tmp 95) (.reg 19) (.skip)))) (.seq (.reg 20) (.cond (.tmp 100) (.seq (.reg 21) (.seq (.reg 22) (.cond (.tmp 109) (.reg 23) (.skip)))) (.seq (.reg 13) (.seq (.reg 14) (.cond (.tmp 67) (.reg 15) (.skip)))))))))) (.seq (.seq (.reg 24) (.cond (.tmp 114) (.reg 25) (.skip))) (.seq (.seq (.reg 26) (.cond (.tmp 127) (.seq (.reg 27) (.ret)) (.skip))) (.reg 28))))))))) (.reg 7)))))) (.seq (.reg 29) (.ret))))))) (fnQ c14 e G) ρ)) : E L (cal e Try.prog 14 args G) :=
  d_fn (c := c14) Try.func14 (by kernel_rfl) (by kernel_rfl) (by kernel_rfl) c14_ok (by kernel_rfl) (by kernel_rfl) hρ hs h
-- loop (first region 6): live slots 0:script0 3:p3 5:l5 6:k6, of which it writes [3, 5, 6]
/-! gharry.page.Need -/
noncomputable def c40 : Cfg := { P := Try.prog, n := 12, T := TT, body := (Try.f40.body).getD .skip, res := Try.f40.results.toList, li := lk [] [(0, [0]), (1, [1])], lo := lk [] [(0, [1]), (1, [2]), (1000000, [2])], ord := lk (false, []) [] }
@[go_sem] theorem c40_i0 : c40.li 0 = [0] := rfl
@[go_sem] theorem c40_i1 : c40.li 1 = [1] := rfl
@[go_sem] theorem c40_r0 (c0 : api_Cell) (K : Env → W) : RP c40 0 [(0, v_api_Cell c0)] K =
    (nwc #[str c0.Key, str c0.Val] 55 fun y1_ => (K [(1, .pointer (some y1_))])) := by kernel_rfl
@[go_sem] theorem c40_r1 (c1 : Addr) (K : Env → W) : RP c40 1 [(1, .pointer (some c1))] K =
    (ld eS c1 fun (y1_ : List UInt8) => (ld eS ((c1.add 1)) fun (y2_ : List UInt8) => (K [(2, .int .i64 ((IntKind.wrap .i64 ((IntKind.wrap .i64 ((IntKind.wrap .i64 ((2 : Int) + ((y1_).length : Int))) + ((y2_).length : Int))) + (1 : Int)))))]))) := by kernel_rfl
@[go_sem] theorem c40_o : c40.lo 1000000 = [2] := rfl
@[go_sem] theorem c40_e (t2 : Int) (k : Value → W) : RTp c40 [(2, .int .i64 t2)] k = (k (.int .i64 t2)) := by kernel_rfl
theorem c40_ok : (c40.P.follows .mixedOrders && okc c40 c40.body) = true := by kernel_rfl
theorem c40_fn {e : Enc} {args : Array Value} {G : e.α → W} {L : List HP} {ρ : Env} (hρ : envA 0 args.toList = ρ) (hs : Nat.ble args.size 12 = true) (h : E L (D c40 (.seq (.reg 0) (.seq (.reg 1) (.ret))) (fnQ c40 e G) ρ)) : E L (cal e Try.prog 40 args G) :=
  d_fn (c := c40) Try.func40 (by kernel_rfl) (by kernel_rfl) (by kernel_rfl) c40_ok (by kernel_rfl) (by kernel_rfl) hρ hs h
/-! gharry.gharrylaw05.need -/
noncomputable def c41 : Cfg := { P := Try.prog, n := 11, T := TT, body := (Try.f41.body).getD .skip, res := Try.f41.results.toList, li := lk [] [(0, [0]), (1, [1])], lo := lk [] [(0, [1]), (1, [2]), (1000000, [2])], ord := lk (false, []) [] }
@[go_sem] theorem c41_i0 : c41.li 0 = [0] := rfl
@[go_sem] theorem c41_i1 : c41.li 1 = [1] := rfl
@[go_sem] theorem c41_r0 (c0 : api_Cell) (K : Env → W) : RP c41 0 [(0, v_api_Cell c0)] K =
    (nwc #[str c0.Key, str c0.Val] 55 fun y1_ => (K [(1, .pointer (some y1_))])) := by kernel_rfl
@[go_sem] theorem c41_r1 (c1 : Addr) (K : Env → W) : RP c41 1 [(1, .pointer (some c1))] K =
    (ld eS c1 fun (y1_ : List UInt8) => (ld eS ((c1.add 1)) fun (y2_ : List UInt8) => (K [(2, .int .i64 ((IntKind.wrap .i64 ((IntKind.wrap .i64 ((3 : Int) + ((y1_).length : Int))) + ((y2_).length : Int)))))]))) := by kernel_rfl
@[go_sem] theorem c41_o : c41.lo 1000000 = [2] := rfl
@[go_sem] theorem c41_e (t2 : Int) (k : Value → W) : RTp c41 [(2, .int .i64 t2)] k = (k (.int .i64 t2)) := by kernel_rfl
theorem c41_ok : (c41.P.follows .mixedOrders && okc c41 c41.body) = true := by kernel_rfl
theorem c41_fn {e : Enc} {args : Array Value} {G : e.α → W} {L : List HP} {ρ : Env} (hρ : envA 0 args.toList = ρ) (hs : Nat.ble args.size 11 = true) (h : E L (D c41 (.seq (.reg 0) (.seq (.reg 1) (.ret))) (fnQ c41 e G) ρ)) : E L (cal e Try.prog 41 args G) :=
  d_fn (c := c41) Try.func41 (by kernel_rfl) (by kernel_rfl) (by kernel_rfl) c41_ok (by kernel_rfl) (by kernel_rfl) hρ hs h
/-! gharry.gharrylaw05.awake -/
noncomputable def c42 : Cfg := { P := Try.prog, n := 26, T := TT, body := (Try.f42.body).getD .skip, res := Try.f42.results.toList, li := lk [] [(0, []), (1, []), (2, [1, 2])], lo := lk [] [(0, []), (1, [1, 2]), (2, [0]), (1000000, [0])], ord := lk (false, []) [] }
@[go_sem] theorem c42_i0 : c42.li 0 = [] := rfl
@[go_sem] theorem c42_i1 : c42.li 1 = [] := rfl
@[go_sem] theorem c42_i2 : c42.li 2 = [1, 2] := rfl
@[go_sem] theorem c42_r0 (K : Env → W) : RP c42 0 [] K =
    (K []) := by kernel_rfl
@[go_sem] theorem c42_r1 (K : Env → W) : RP c42 1 [] K =
    (nwc #[str (((⟨([97] : List UInt8), ([98] : List UInt8)⟩ : api_Cell)).Key), str (((⟨([97] : List UInt8), ([98] : List UInt8)⟩ : api_Cell)).Val)] 55 fun y1_ => (cal (eT2 eS eI) Try.prog 44 #[.int .i64 ((1 : Int)), .int .i64 ((0 : Int)), .slice ((some y1_)) 1 1] fun (y2_ : ((List UInt8) × Int)) => (K [(1, str y2_.1), (2, .int .i64 y2_.2)]))) := by kernel_rfl
@[go_sem] theorem c42_r2 (p1 : List UInt8) (e2 : Int) (K : Env → W) : RP c42 2 [(1, str p1), (2, .int .i64 e2)] K =
    (cnd ((e2 == (0 : Int))) (cnd ((((p1).length : Int) == (224 : Int))) (rq (0 ≤ (0 : Int) ∧ 0 ≤ (8 : Int) ∧ (8 : Int) ≤ ((p1).length : Int)) (cnd (((ss p1 0 ((8 : Int))) == ([1, 0, 1, 8, 1, 1, 97, 98] : List UInt8))) (rq (0 ≤ (223 : Int) ∧ (223 : Int) < ((p1).length : Int)) (K [(0, .bool (((bt p1 223 : Int) == (4 : Int))))])) (K [(0, .bool false)]))) (K [(0, .bool false)])) (K [(0, .bool false)])) := by kernel_rfl
@[go_sem] theorem c42_o : c42.lo 1000000 = [0] := rfl
@[go_sem] theorem c42_e (t0 : Bool) (k : Value → W) : RTp c42 [(0, .bool t0)] k = (k (.bool t0)) := by kernel_rfl
theorem c42_ok : (c42.P.follows .mixedOrders && okc c42 c42.body) = true := by kernel_rfl
theorem c42_fn {e : Enc} {args : Array Value} {G : e.α → W} {L : List HP} {ρ : Env} (hρ : envA 0 args.toList = ρ) (hs : Nat.ble args.size 26 = true) (h : E L (D c42 (.seq (.reg 0) (.seq (.reg 1) (.seq (.reg 2) (.ret)))) (fnQ c42 e G) ρ)) : E L (cal e Try.prog 42 args G) :=
  d_fn (c := c42) Try.func42 (by kernel_rfl) (by kernel_rfl) (by kernel_rfl) c42_ok (by kernel_rfl) (by kernel_rfl) hρ hs h
/-! gharry.gharrylaw05.few -/
noncomputable def c43 : Cfg := { P := Try.prog, n := 9, T := TT, body := (Try.f43.body).getD .skip, res := Try.f43.results.toList, li := lk [] [(0, [0]), (1, [0]), (2, [0]), (3, [0])], lo := lk [] [(0, [0]), (1, [0, 5]), (2, [2]), (3, [2]), (1000000, [2])], ord := lk (false, []) [] }
@[go_sem] theorem c43_i0 : c43.li 0 = [0] := rfl
@[go_sem] theorem c43_i1 : c43.li 1 = [0] := rfl
@[go_sem] theorem c43_i2 : c43.li 2 = [0] := rfl
@[go_sem] theorem c43_i3 : c43.li 3 = [0] := rfl
@[go_sem] theorem c43_r0 (l0p : Option Addr) (l0n l0c : Nat) (K : Env → W) : RP c43 0 [(0, .slice l0p l0n l0c)] K =
    (K [(0, .slice l0p l0n l0c)]) := by kernel_rfl
@[go_sem] theorem c43_r1 (l0p : Option Addr) (l0n l0c : Nat) (K : Env → W) : RP c43 1 [(0, .slice l0p l0n l0c)] K =
    (K [(0, .slice l0p l0n l0c), (5, .bool ((decide ((90 : Int) < (l0n : Int)))))]) := by kernel_rfl
@[go_sem] theorem c43_r2 (l0p : Option Addr) (l0n l0c : Nat) (K : Env → W) : RP c43 2 [(0, .slice l0p l0n l0c)] K =
    (rq (0 ≤ (0 : Int) ∧ 0 ≤ (90 : Int) ∧ (90 : Int) ≤ (l0c : Int)) (K [(2, .slice ((slp l0p 0 (l0c : Int) 2)) ((((90 : Int)).toNat - (0 : Int).toNat)) ((((l0c : Int)).toNat - (0 : Int).toNat)))])) := by kernel_rfl
@[go_sem] theorem c43_r3 (l0p : Option Addr) (l0n l0c : Nat) (K : Env → W) : RP c43 3 [(0, .slice l0p l0n l0c)] K =
    (K [(2, .slice l0p l0n l0c)]) := by kernel_rfl
@[go_sem] theorem c43_o : c43.lo 1000000 = [2] := rfl
@[go_sem] theorem c43_e (t2p : Option Addr) (t2n t2c : Nat) (k : Value → W) : RTp c43 [(2, .slice t2p t2n t2c)] k = (k (.slice t2p t2n t2c)) := by kernel_rfl
theorem c43_ok : (c43.P.follows .mixedOrders && okc c43 c43.body) = true := by kernel_rfl
theorem c43_fn {e : Enc} {args : Array Value} {G : e.α → W} {L : List HP} {ρ : Env} (hρ : envA 0 args.toList = ρ) (hs : Nat.ble args.size 9 = true) (h : E L (D c43 (.seq (.reg 0) (.seq (.seq (.reg 1) (.cond (.tmp 5) (.seq (.reg 2) (.ret)) (.skip))) (.seq (.reg 3) (.ret)))) (fnQ c43 e G) ρ)) : E L (cal e Try.prog 43 args G) :=
  d_fn (c := c43) Try.func43 (by kernel_rfl) (by kernel_rfl) (by kernel_rfl) c43_ok (by kernel_rfl) (by kernel_rfl) hρ hs h
/-! gharry.page.Make -/
noncomputable def c44 : Cfg := { P := Try.prog, n := 69, T := TT, body := (Try.f44.body).getD .skip, res := Try.f44.results.toList, li := lk [] [(0, [0, 1, 2]), (1, [0, 1, 2]), (2, [0, 2, 8, 9]), (3, [9]), (4, [0, 2, 8]), (5, [0, 2, 10]), (6, [0, 2, 10, 29, 30, 31]), (7, [0, 2, 10, 29, 30, 31]), (8, [0, 2, 10, 12, 13, 29, 30, 31]), (9, [0, 2, 10, 12, 13, 14, 29, 30, 31]), (10, [14]), (11, [0, 2, 10, 12, 13, 29, 30, 31]), (12, []), (13, [0, 2, 10, 12, 13, 29, 30, 31]), (14, []), (15, [0, 2, 10, 29, 30, 31]), (16, [10])], lo := lk [] [(0, [0, 1, 2]), (1, [0, 2, 8, 9]), (2, [0, 2, 8, 9, 22]), (3, [6, 7]), (4, [0, 2, 10]), (5, [0, 2, 10, 29, 30, 31]), (6, [0, 2, 10, 29, 30, 31, 32]), (7, [0, 2, 10, 12, 13, 29, 30, 31]), (8, [0, 2, 10, 12, 13, 14, 29, 30, 31]), (9, [0, 2, 10, 12, 13, 14, 29, 30, 31, 38]), (10, [6, 7]), (11, [0, 2, 10, 12, 13, 29, 30, 31, 42]), (12, [6, 7]), (13, [0, 2, 10, 29, 30, 31, 60]), (14, [6, 7]), (15, [0, 2, 10, 29, 30, 31]), (16, [6, 7]), (1000000, [6, 7])], ord := lk (false, []) [(11, (true, [(0, 1), (1, 1), (2, 1), (3, 1), (4, 1), (5, 1), (6, 1), (7, 1), (8, 1), (9, 1), (10, 1), (11, 0), (12, 1), (13, 0), (14, 1), (15, 1), (16, 1), (17, 1)]))] }
@[go_sem] theorem c44_i0 : c44.li 0 = [0, 1, 2] := rfl
@[go_sem] theorem c44_i1 : c44.li 1 = [0, 1, 2] := rfl
@[go_sem] theorem c44_i2 : c44.li 2 = [0, 2, 8, 9] := rfl
@[go_sem] theorem c44_i3 : c44.li 3 = [9] := rfl
@[go_sem] theorem c44_i4 : c44.li 4 = [0, 2, 8] := rfl
@[go_sem] theorem c44_i5 : c44.li 5 = [0, 2, 10] := rfl
@[go_sem] theorem c44_i6 : c44.li 6 = [0, 2, 10, 29, 30, 31] := rfl
@[go_sem] theorem c44_i7 : c44.li 7 = [0, 2, 10, 29, 30, 31] := rfl
@[go_sem] theorem c44_i8 : c44.li 8 = [0, 2, 10, 12, 13, 29, 30, 31] := rfl
@[go_sem] theorem c44_i9 : c44.li 9 = [0, 2, 10, 12, 13, 14, 29, 30, 31] := rfl
@[go_sem] theorem c44_i10 : c44.li 10 = [14] := rfl
@[go_sem] theorem c44_i11 : c44.li 11 = [0, 2, 10, 12, 13, 29, 30, 31] := rfl
@[go_sem] theorem c44_i12 : c44.li 12 = [] := rfl
@[go_sem] theorem c44_i13 : c44.li 13 = [0, 2, 10, 12, 13, 29, 30, 31] := rfl
@[go_sem] theorem c44_i14 : c44.li 14 = [] := rfl
@[go_sem] theorem c44_i15 : c44.li 15 = [0, 2, 10, 29, 30, 31] := rfl
@[go_sem] theorem c44_i16 : c44.li 16 = [10] := rfl
@[go_sem] theorem c44_r0 (kind0 : Int) (level1 : Int) (l2p : Option Addr) (l2n l2c : Nat) (K : Env → W) : RP c44 0 [(0, .int .i64 kind0), (1, .int .i64 level1), (2, .slice l2p l2n l2c)] K =
    (K [(0, .int .i64 kind0), (1, .int .i64 level1), (2, .slice l2p l2n l2c)]) := by kernel_rfl
@[go_sem] theorem c44_r1 (kind0 : Int) (level1 : Int) (l2p : Option Addr) (l2n l2c : Nat) (K : Env → W) : RP c44 1 [(0, .int .i64 kind0), (1, .int .i64 level1), (2, .slice l2p l2n l2c)] K =
    (cal (eT2 eS eI) Try.prog 45 #[.int .i64 kind0, .int .i64 level1] fun (y1_ : ((List UInt8) × Int)) => (K [(0, .int .i64 kind0), (2, .slice l2p l2n l2c), (8, str y1_.1), (9, .int .i64 y1_.2)])) := by kernel_rfl
@[go_sem] theorem c44_r2 (kind0 : Int) (l2p : Option Addr) (l2n l2c : Nat) (p8 : List UInt8) (e9 : Int) (K : Env → W) : RP c44 2 [(0, .int .i64 kind0), (2, .slice l2p l2n l2c), (8, str p8), (9, .int .i64 e9)] K =
    (K [(0, .int .i64 kind0), (2, .slice l2p l2n l2c), (8, str p8), (9, .int .i64 e9), (22, .bool ((e9 != (0 : Int))))]) := by kernel_rfl
@[go_sem] theorem c44_r3 (e9 : Int) (K : Env → W) : RP c44 3 [(9, .int .i64 e9)] K =
    (K [(6, str (([] : List UInt8))), (7, .int .i64 e9)]) := by kernel_rfl
@[go_sem] theorem c44_r4 (kind0 : Int) (l2p : Option Addr) (l2n l2c : Nat) (p8 : List UInt8) (K : Env → W) : RP c44 4 [(0, .int .i64 kind0), (2, .slice l2p l2n l2c), (8, str p8)] K =
    (cal (eT2 eP eB) Try.prog 75 #[str p8] fun (y1_ : ((Option Addr) × Bool)) => (K [(0, .int .i64 kind0), (2, .slice l2p l2n l2c), (10, .pointer y1_.1)])) := by kernel_rfl
@[go_sem] theorem c44_r5 (kind0 : Int) (l2p : Option Addr) (l2n l2c : Nat) (m10 : Option Addr) (K : Env → W) : RP c44 5 [(0, .int .i64 kind0), (2, .slice l2p l2n l2c), (10, .pointer m10)] K =
    (K [(0, .int .i64 kind0), (2, .slice l2p l2n l2c), (10, .pointer m10), (29, .slice l2p l2n l2c), (30, .int .i64 ((l2n : Int))), (31, .int .i64 ((0 : Int)))]) := by kernel_rfl
@[go_sem] theorem c44_r6 (kind0 : Int) (l2p : Option Addr) (l2n l2c : Nat) (m10 : Option Addr) (t29p : Option Addr) (t29n t29c : Nat) (t30 : Int) (t31 : Int) (K : Env → W) : RP c44 6 [(0, .int .i64 kind0), (2, .slice l2p l2n l2c), (10, .pointer m10), (29, .slice t29p t29n t29c), (30, .int .i64 t30), (31, .int .i64 t31)] K =
    (K [(0, .int .i64 kind0), (2, .slice l2p l2n l2c), (10, .pointer m10), (29, .slice t29p t29n t29c), (30, .int .i64 t30), (31, .int .i64 t31), (32, .bool ((decide (t31 < t30))))]) := by kernel_rfl
@[go_sem] theorem c44_r7 (kind0 : Int) (l2p : Option Addr) (l2n l2c : Nat) (m10 : Option Addr) (t29p : Option Addr) (t29n t29c : Nat) (t30 : Int) (t31 : Int) (K : Env → W) : RP c44 7 [(0, .int .i64 kind0), (2, .slice l2p l2n l2c), (10, .pointer m10), (29, .slice t29p t29n t29c), (30, .int .i64 t30), (31, .int .i64 t31)] K =
    (rq (0 ≤ t31 ∧ t31 < (t29n : Int)) (nn t29p fun y1_ => (ldn e_api_Cell 2 ((Addr.add y1_ ((t31).toNat * 2))) fun (y2_ : api_Cell) => (nwc #[str (([] : List UInt8)), str (([] : List UInt8))] 55 fun y3_ => (stl [str y2_.Key, str y2_.Val] y3_ 0 (K [(0, .int .i64 kind0), (2, .slice l2p l2n l2c), (10, .pointer m10), (12, .int .i64 t31), (13, .pointer (some y3_)), (29, .slice t29p t29n t29c), (30, .int .i64 t30), (31, .int .i64 t31)])))))) := by kernel_rfl
@[go_sem] theorem c44_r8 (kind0 : Int) (l2p : Option Addr) (l2n l2c : Nat) (m10 : Option Addr) (i12 : Int) (c13 : Addr) (t29p : Option Addr) (t29n t29c : Nat) (t30 : Int) (t31 : Int) (K : Env → W) : RP c44 8 [(0, .int .i64 kind0), (2, .slice l2p l2n l2c), (10, .pointer m10), (12, .int .i64 i12), (13, .pointer (some c13)), (29, .slice t29p t29n t29c), (30, .int .i64 t30), (31, .int .i64 t31)] K =
    (ldn e_api_Cell 2 c13 fun (y1_ : api_Cell) => (cal eI Try.prog 76 #[v_api_Cell y1_] fun (y2_ : Int) => (K [(0, .int .i64 kind0), (2, .slice l2p l2n l2c), (10, .pointer m10), (12, .int .i64 i12), (13, .pointer (some c13)), (14, .int .i64 y2_), (29, .slice t29p t29n t29c), (30, .int .i64 t30), (31, .int .i64 t31)]))) := by kernel_rfl
@[go_sem] theorem c44_r9 (kind0 : Int) (l2p : Option Addr) (l2n l2c : Nat) (m10 : Option Addr) (i12 : Int) (c13 : Addr) (e14 : Int) (t29p : Option Addr) (t29n t29c : Nat) (t30 : Int) (t31 : Int) (K : Env → W) : RP c44 9 [(0, .int .i64 kind0), (2, .slice l2p l2n l2c), (10, .pointer m10), (12, .int .i64 i12), (13, .pointer (some c13)), (14, .int .i64 e14), (29, .slice t29p t29n t29c), (30, .int .i64 t30), (31, .int .i64 t31)] K =
    (K [(0, .int .i64 kind0), (2, .slice l2p l2n l2c), (10, .pointer m10), (12, .int .i64 i12), (13, .pointer (some c13)), (14, .int .i64 e14), (29, .slice t29p t29n t29c), (30, .int .i64 t30), (31, .int .i64 t31), (38, .bool ((e14 != (0 : Int))))]) := by kernel_rfl
@[go_sem] theorem c44_r10 (e14 : Int) (K : Env → W) : RP c44 10 [(14, .int .i64 e14)] K =
    (K [(6, str (([] : List UInt8))), (7, .int .i64 e14)]) := by kernel_rfl
@[go_sem] theorem c44_r11 (kind0 : Int) (l2p : Option Addr) (l2n l2c : Nat) (m10 : Option Addr) (i12 : Int) (c13 : Addr) (t29p : Option Addr) (t29n t29c : Nat) (t30 : Int) (t31 : Int) (K : Env → W) : RP c44 11 [(0, .int .i64 kind0), (2, .slice l2p l2n l2c), (10, .pointer m10), (12, .int .i64 i12), (13, .pointer (some c13)), (29, .slice t29p t29n t29c), (30, .int .i64 t30), (31, .int .i64 t31)] K =
    (ph fun S0 => (cnd ((kind0 == (0 : Int))) (K [(0, .int .i64 kind0), (2, .slice l2p l2n l2c), (10, .pointer m10), (12, .int .i64 i12), (13, .pointer (some c13)), (29, .slice t29p t29n t29c), (30, .int .i64 t30), (31, .int .i64 t31), (42, .bool true)]) (cnd ((decide ((0 : Int) < i12))) (rq (0 ≤ (IntKind.wrap .i64 (i12 - (1 : Int))) ∧ (IntKind.wrap .i64 (i12 - (1 : Int))) < (l2n : Int)) (nn l2p fun y1_ => (ldq S0 eS ((Addr.add y1_ (((IntKind.wrap .i64 (i12 - (1 : Int)))).toNat * 2))) fun (y2_ : List UInt8) => (ldq S0 eS c13 fun (y3_ : List UInt8) => (K [(0, .int .i64 kind0), (2, .slice l2p l2n l2c), (10, .pointer m10), (12, .int .i64 i12), (13, .pointer (some c13)), (29, .slice t29p t29n t29c), (30, .int .i64 t30), (31, .int .i64 t31), (42, .bool ((!(Op.bytesLess y2_ y3_))))]))))) (K [(0, .int .i64 kind0), (2, .slice l2p l2n l2c), (10, .pointer m10), (12, .int .i64 i12), (13, .pointer (some c13)), (29, .slice t29p t29n t29c), (30, .int .i64 t30), (31, .int .i64 t31), (42, .bool false)])))) := by kernel_rfl
@[go_sem] theorem c44_r12 (K : Env → W) : RP c44 12 [] K =
    (K [(6, str (([] : List UInt8))), (7, .int .i64 ((4 : Int)))]) := by kernel_rfl
@[go_sem] theorem c44_r13 (kind0 : Int) (l2p : Option Addr) (l2n l2c : Nat) (m10 : Option Addr) (i12 : Int) (c13 : Addr) (t29p : Option Addr) (t29n t29c : Nat) (t30 : Int) (t31 : Int) (K : Env → W) : RP c44 13 [(0, .int .i64 kind0), (2, .slice l2p l2n l2c), (10, .pointer m10), (12, .int .i64 i12), (13, .pointer (some c13)), (29, .slice t29p t29n t29c), (30, .int .i64 t30), (31, .int .i64 t31)] K =
    (ldn e_api_Cell 2 c13 fun (y1_ : api_Cell) => (cal eB Try.prog 77 #[.pointer m10, .int .i64 i12, v_api_Cell y1_] fun (y2_ : Bool) => (K [(0, .int .i64 kind0), (2, .slice l2p l2n l2c), (10, .pointer m10), (29, .slice t29p t29n t29c), (30, .int .i64 t30), (31, .int .i64 t31), (60, .bool ((!y2_)))]))) := by kernel_rfl
@[go_sem] theorem c44_r14 (K : Env → W) : RP c44 14 [] K =
    (K [(6, str (([] : List UInt8))), (7, .int .i64 ((7 : Int)))]) := by kernel_rfl
@[go_sem] theorem c44_r15 (kind0 : Int) (l2p : Option Addr) (l2n l2c : Nat) (m10 : Option Addr) (t29p : Option Addr) (t29n t29c : Nat) (t30 : Int) (t31 : Int) (K : Env → W) : RP c44 15 [(0, .int .i64 kind0), (2, .slice l2p l2n l2c), (10, .pointer m10), (29, .slice t29p t29n t29c), (30, .int .i64 t30), (31, .int .i64 t31)] K =
    (K [(0, .int .i64 kind0), (2, .slice l2p l2n l2c), (10, .pointer m10), (29, .slice t29p t29n t29c), (30, .int .i64 t30), (31, .int .i64 ((IntKind.wrap .i64 (t31 + (1 : Int)))))]) := by kernel_rfl
@[go_sem] theorem c44_r16 (m10 : Option Addr) (K : Env → W) : RP c44 16 [(10, .pointer m10)] K =
    (cal eS Try.prog 78 #[.pointer m10] fun (y1_ : List UInt8) => (K [(6, str y1_), (7, .int .i64 ((0 : Int)))])) := by kernel_rfl
@[go_sem] theorem c44_o : c44.lo 1000000 = [6, 7] := rfl
@[go_sem] theorem c44_e (t6 : List UInt8) (t7 : Int) (k : Value → W) : RTp c44 [(6, str t6), (7, .int .i64 t7)] k = (k (.tuple #[str t6, .int .i64 t7])) := by kernel_rfl
theorem c44_ok : (c44.P.follows .mixedOrders && okc c44 c44.body) = true := by kernel_rfl
theorem c44_fn {e : Enc} {args : Array Value} {G : e.α → W} {L : List HP} {ρ : Env} (hρ : envA 0 args.toList = ρ) (hs : Nat.ble args.size 69 = true) (h : E L (D c44 (.seq (.reg 0) (.seq (.reg 1) (.seq (.seq (.reg 2) (.cond (.tmp 22) (.seq (.reg 3) (.ret)) (.skip))) (.seq (.reg 4) (.seq (.seq (.reg 5) (.block 0 (.loop (.seq (.reg 6) (.seq (.cond (.tmp 32) (.skip) (.exit 0)) (.seq (.block 1 (.seq (.reg 7) (.seq (.reg 8) (.block 2 (.seq (.reg 9) (.cond (.tmp 38) (.seq (.reg 10) (.ret)) (.seq (.reg 11) (.cond (.tmp 42) (.seq (.reg 12) (.ret)) (.seq (.reg 13) (.cond (.tmp 60) (.seq (.reg 14) (.ret)) (.skip))))))))))) (.reg 15))))))) (.seq (.reg 16) (.ret))))))) (fnQ c44 e G) ρ)) : E L (cal e Try.prog 44 args G) :=
  d_fn (c := c44) Try.func44 (by kernel_rfl) (by kernel_rfl) (by kernel_rfl) c44_ok (by kernel_rfl) (by kernel_rfl) hρ hs h
-- loop (first region 6): live slots 0:kind0 2:l2 10:m10 29:t29 30:t30 31:t31, of which it writes [31]
/-! gharry.page.New -/
noncomputable def c45 : Cfg := { P := Try.prog, n := 32, T := TT, body := (Try.f45.body).getD .skip, res := Try.f45.results.toList, li := lk [] [(0, [0, 1]), (1, [0, 1]), (2, []), (3, [0, 1])], lo := lk [] [(0, [0, 1]), (1, [0, 1, 27]), (2, [4, 5]), (3, [4, 5]), (1000000, [4, 5])], ord := lk (false, []) [] }
@[go_sem] theorem c45_i0 : c45.li 0 = [0, 1] := rfl
@[go_sem] theorem c45_i1 : c45.li 1 = [0, 1] := rfl
@[go_sem] theorem c45_i2 : c45.li 2 = [] := rfl
@[go_sem] theorem c45_i3 : c45.li 3 = [0, 1] := rfl
@[go_sem] theorem c45_r0 (kind0 : Int) (level1 : Int) (K : Env → W) : RP c45 0 [(0, .int .i64 kind0), (1, .int .i64 level1)] K =
    (K [(0, .int .i64 kind0), (1, .int .i64 level1)]) := by kernel_rfl
@[go_sem] theorem c45_r1 (kind0 : Int) (level1 : Int) (K : Env → W) : RP c45 1 [(0, .int .i64 kind0), (1, .int .i64 level1)] K =
    (cnd ((decide (kind0 < (0 : Int)))) (K [(0, .int .i64 kind0), (1, .int .i64 level1), (27, .bool true)]) (cnd ((decide ((2 : Int) < kind0))) (K [(0, .int .i64 kind0), (1, .int .i64 level1), (27, .bool true)]) (cnd ((decide (level1 < (0 : Int)))) (K [(0, .int .i64 kind0), (1, .int .i64 level1), (27, .bool true)]) (cnd ((decide ((255 : Int) < level1))) (K [(0, .int .i64 kind0), (1, .int .i64 level1), (27, .bool true)]) (cnd ((kind0 != (2 : Int))) (K [(0, .int .i64 kind0), (1, .int .i64 level1), (27, .bool ((level1 != (0 : Int))))]) (K [(0, .int .i64 kind0), (1, .int .i64 level1), (27, .bool false)])))))) := by kernel_rfl
@[go_sem] theorem c45_r2 (K : Env → W) : RP c45 2 [] K =
    (K [(4, str (([] : List UInt8))), (5, .int .i64 ((1 : Int)))]) := by kernel_rfl
@[go_sem] theorem c45_r3 (kind0 : Int) (level1 : Int) (K : Env → W) : RP c45 3 [(0, .int .i64 kind0), (1, .int .i64 level1)] K =
    (cal eP Try.prog 79 #[.int .i64 kind0, .int .i64 level1] fun (y1_ : Option Addr) => (cal eS Try.prog 78 #[.pointer y1_] fun (y2_ : List UInt8) => (K [(4, str y2_), (5, .int .i64 ((0 : Int)))]))) := by kernel_rfl
@[go_sem] theorem c45_o : c45.lo 1000000 = [4, 5] := rfl
@[go_sem] theorem c45_e (t4 : List UInt8) (t5 : Int) (k : Value → W) : RTp c45 [(4, str t4), (5, .int .i64 t5)] k = (k (.tuple #[str t4, .int .i64 t5])) := by kernel_rfl
theorem c45_ok : (c45.P.follows .mixedOrders && okc c45 c45.body) = true := by kernel_rfl
theorem c45_fn {e : Enc} {args : Array Value} {G : e.α → W} {L : List HP} {ρ : Env} (hρ : envA 0 args.toList = ρ) (hs : Nat.ble args.size 32 = true) (h : E L (D c45 (.seq (.reg 0) (.seq (.seq (.reg 1) (.cond (.tmp 27) (.seq (.reg 2) (.ret)) (.skip))) (.seq (.reg 3) (.ret)))) (fnQ c45 e G) ρ)) : E L (cal e Try.prog 45 args G) :=
  d_fn (c := c45) Try.func45 (by kernel_rfl) (by kernel_rfl) (by kernel_rfl) c45_ok (by kernel_rfl) (by kernel_rfl) hρ hs h
/-! gharry.gharrylaw05.why -/
noncomputable def c46 : Cfg := { P := Try.prog, n := 82, T := TT, body := (Try.f46.body).getD .skip, res := Try.f46.results.toList, li := lk [] [(0, [0, 1, 2]), (1, [0, 1, 2]), (2, []), (3, [0, 2]), (4, [0, 2, 7]), (5, [0, 2, 7, 8]), (6, [0, 2, 7, 8]), (7, [0, 2, 7, 8]), (8, [2, 8]), (9, [0, 2, 7, 8]), (10, []), (11, [0, 2, 7, 8]), (12, []), (13, [0, 2, 7, 8]), (14, [])], lo := lk [] [(0, [0, 1, 2]), (1, [0, 2, 30]), (2, [6]), (3, [0, 2, 7]), (4, [0, 2, 7, 8]), (5, [0, 2, 7, 8, 34]), (6, [0, 2, 7, 8]), (7, [0, 2, 7, 8, 42]), (8, [6]), (9, [0, 2, 7, 8, 67]), (10, [6]), (11, [0, 2, 7, 8, 74]), (12, [6]), (13, [0, 2, 7, 8]), (14, [6]), (1000000, [6])], ord := lk (false, []) [(9, (true, [(0, 1), (1, 1), (2, 1), (3, 1), (4, 1), (5, 1), (6, 1), (7, 1), (8, 1), (9, 1), (10, 1), (11, 0), (12, 1), (13, 1), (14, 1), (15, 1), (16, 0), (17, 1), (18, 1), (19, 1)]))] }
@[go_sem] theorem c46_i0 : c46.li 0 = [0, 1, 2] := rfl
@[go_sem] theorem c46_i1 : c46.li 1 = [0, 1, 2] := rfl
@[go_sem] theorem c46_i2 : c46.li 2 = [] := rfl
@[go_sem] theorem c46_i3 : c46.li 3 = [0, 2] := rfl
@[go_sem] theorem c46_i4 : c46.li 4 = [0, 2, 7] := rfl
@[go_sem] theorem c46_i5 : c46.li 5 = [0, 2, 7, 8] := rfl
@[go_sem] theorem c46_i6 : c46.li 6 = [0, 2, 7, 8] := rfl
@[go_sem] theorem c46_i7 : c46.li 7 = [0, 2, 7, 8] := rfl
@[go_sem] theorem c46_i8 : c46.li 8 = [2, 8] := rfl
@[go_sem] theorem c46_i9 : c46.li 9 = [0, 2, 7, 8] := rfl
@[go_sem] theorem c46_i10 : c46.li 10 = [] := rfl
@[go_sem] theorem c46_i11 : c46.li 11 = [0, 2, 7, 8] := rfl
@[go_sem] theorem c46_i12 : c46.li 12 = [] := rfl
@[go_sem] theorem c46_i13 : c46.li 13 = [0, 2, 7, 8] := rfl
@[go_sem] theorem c46_i14 : c46.li 14 = [] := rfl
@[go_sem] theorem c46_r0 (kind0 : Int) (level1 : Int) (l2p : Option Addr) (l2n l2c : Nat) (K : Env → W) : RP c46 0 [(0, .int .i64 kind0), (1, .int .i64 level1), (2, .slice l2p l2n l2c)] K =
    (K [(0, .int .i64 kind0), (1, .int .i64 level1), (2, .slice l2p l2n l2c)]) := by kernel_rfl
@[go_sem] theorem c46_r1 (kind0 : Int) (level1 : Int) (l2p : Option Addr) (l2n l2c : Nat) (K : Env → W) : RP c46 1 [(0, .int .i64 kind0), (1, .int .i64 level1), (2, .slice l2p l2n l2c)] K =
    (cnd ((decide (kind0 < (0 : Int)))) (K [(0, .int .i64 kind0), (2, .slice l2p l2n l2c), (30, .bool true)]) (cnd ((decide ((2 : Int) < kind0))) (K [(0, .int .i64 kind0), (2, .slice l2p l2n l2c), (30, .bool true)]) (cnd ((decide (level1 < (0 : Int)))) (K [(0, .int .i64 kind0), (2, .slice l2p l2n l2c), (30, .bool true)]) (cnd ((decide ((255 : Int) < level1))) (K [(0, .int .i64 kind0), (2, .slice l2p l2n l2c), (30, .bool true)]) (cnd ((kind0 != (2 : Int))) (K [(0, .int .i64 kind0), (2, .slice l2p l2n l2c), (30, .bool ((level1 != (0 : Int))))]) (K [(0, .int .i64 kind0), (2, .slice l2p l2n l2c), (30, .bool false)])))))) := by kernel_rfl
@[go_sem] theorem c46_r2 (K : Env → W) : RP c46 2 [] K =
    (K [(6, .int .i64 ((1 : Int)))]) := by kernel_rfl
@[go_sem] theorem c46_r3 (kind0 : Int) (l2p : Option Addr) (l2n l2c : Nat) (K : Env → W) : RP c46 3 [(0, .int .i64 kind0), (2, .slice l2p l2n l2c)] K =
    (K [(0, .int .i64 kind0), (2, .slice l2p l2n l2c), (7, .int .i64 ((220 : Int)))]) := by kernel_rfl
@[go_sem] theorem c46_r4 (kind0 : Int) (l2p : Option Addr) (l2n l2c : Nat) (left7 : Int) (K : Env → W) : RP c46 4 [(0, .int .i64 kind0), (2, .slice l2p l2n l2c), (7, .int .i64 left7)] K =
    (K [(0, .int .i64 kind0), (2, .slice l2p l2n l2c), (7, .int .i64 left7), (8, .int .i64 ((0 : Int)))]) := by kernel_rfl
@[go_sem] theorem c46_r5 (kind0 : Int) (l2p : Option Addr) (l2n l2c : Nat) (left7 : Int) (i8 : Int) (K : Env → W) : RP c46 5 [(0, .int .i64 kind0), (2, .slice l2p l2n l2c), (7, .int .i64 left7), (8, .int .i64 i8)] K =
    (K [(0, .int .i64 kind0), (2, .slice l2p l2n l2c), (7, .int .i64 left7), (8, .int .i64 i8), (34, .bool ((decide (i8 < (l2n : Int)))))]) := by kernel_rfl
@[go_sem] theorem c46_r6 (kind0 : Int) (l2p : Option Addr) (l2n l2c : Nat) (left7 : Int) (i8 : Int) (K : Env → W) : RP c46 6 [(0, .int .i64 kind0), (2, .slice l2p l2n l2c), (7, .int .i64 left7), (8, .int .i64 i8)] K =
    (K [(0, .int .i64 kind0), (2, .slice l2p l2n l2c), (7, .int .i64 left7), (8, .int .i64 ((IntKind.wrap .i64 (i8 + (1 : Int)))))]) := by kernel_rfl
@[go_sem] theorem c46_r7 (kind0 : Int) (l2p : Option Addr) (l2n l2c : Nat) (left7 : Int) (i8 : Int) (K : Env → W) : RP c46 7 [(0, .int .i64 kind0), (2, .slice l2p l2n l2c), (7, .int .i64 left7), (8, .int .i64 i8)] K =
    (rq (0 ≤ i8 ∧ i8 < (l2n : Int)) (nn l2p fun y1_ => (ldn e_api_Cell 2 ((Addr.add y1_ ((i8).toNat * 2))) fun (y2_ : api_Cell) => (cal eI Try.prog 65 #[v_api_Cell y2_] fun (y3_ : Int) => (K [(0, .int .i64 kind0), (2, .slice l2p l2n l2c), (7, .int .i64 left7), (8, .int .i64 i8), (42, .bool ((y3_ != (0 : Int))))]))))) := by kernel_rfl
@[go_sem] theorem c46_r8 (l2p : Option Addr) (l2n l2c : Nat) (i8 : Int) (K : Env → W) : RP c46 8 [(2, .slice l2p l2n l2c), (8, .int .i64 i8)] K =
    (rq (0 ≤ i8 ∧ i8 < (l2n : Int)) (nn l2p fun y1_ => (ldn e_api_Cell 2 ((Addr.add y1_ ((i8).toNat * 2))) fun (y2_ : api_Cell) => (cal eI Try.prog 65 #[v_api_Cell y2_] fun (y3_ : Int) => (K [(6, .int .i64 y3_)]))))) := by kernel_rfl
@[go_sem] theorem c46_r9 (kind0 : Int) (l2p : Option Addr) (l2n l2c : Nat) (left7 : Int) (i8 : Int) (K : Env → W) : RP c46 9 [(0, .int .i64 kind0), (2, .slice l2p l2n l2c), (7, .int .i64 left7), (8, .int .i64 i8)] K =
    (ph fun S0 => (cnd ((kind0 == (0 : Int))) (K [(0, .int .i64 kind0), (2, .slice l2p l2n l2c), (7, .int .i64 left7), (8, .int .i64 i8), (67, .bool true)]) (cnd ((decide ((0 : Int) < i8))) (rq (0 ≤ (IntKind.wrap .i64 (i8 - (1 : Int))) ∧ (IntKind.wrap .i64 (i8 - (1 : Int))) < (l2n : Int)) (nn l2p fun y1_ => (ldq S0 eS ((Addr.add y1_ (((IntKind.wrap .i64 (i8 - (1 : Int)))).toNat * 2))) fun (y2_ : List UInt8) => (rq (0 ≤ i8 ∧ i8 < (l2n : Int)) (nn l2p fun y3_ => (ldq S0 eS ((Addr.add y3_ ((i8).toNat * 2))) fun (y4_ : List UInt8) => (K [(0, .int .i64 kind0), (2, .slice l2p l2n l2c), (7, .int .i64 left7), (8, .int .i64 i8), (67, .bool ((!(Op.bytesLess y2_ y4_))))]))))))) (K [(0, .int .i64 kind0), (2, .slice l2p l2n l2c), (7, .int .i64 left7), (8, .int .i64 i8), (67, .bool false)])))) := by kernel_rfl
@[go_sem] theorem c46_r10 (K : Env → W) : RP c46 10 [] K =
    (K [(6, .int .i64 ((4 : Int)))]) := by kernel_rfl
@[go_sem] theorem c46_r11 (kind0 : Int) (l2p : Option Addr) (l2n l2c : Nat) (left7 : Int) (i8 : Int) (K : Env → W) : RP c46 11 [(0, .int .i64 kind0), (2, .slice l2p l2n l2c), (7, .int .i64 left7), (8, .int .i64 i8)] K =
    (rq (0 ≤ i8 ∧ i8 < (l2n : Int)) (nn l2p fun y1_ => (ldn e_api_Cell 2 ((Addr.add y1_ ((i8).toNat * 2))) fun (y2_ : api_Cell) => (cal eI Try.prog 41 #[v_api_Cell y2_] fun (y3_ : Int) => (K [(0, .int .i64 kind0), (2, .slice l2p l2n l2c), (7, .int .i64 left7), (8, .int .i64 i8), (74, .bool ((decide (left7 < y3_))))]))))) := by kernel_rfl
@[go_sem] theorem c46_r12 (K : Env → W) : RP c46 12 [] K =
    (K [(6, .int .i64 ((7 : Int)))]) := by kernel_rfl
@[go_sem] theorem c46_r13 (kind0 : Int) (l2p : Option Addr) (l2n l2c : Nat) (left7 : Int) (i8 : Int) (K : Env → W) : RP c46 13 [(0, .int .i64 kind0), (2, .slice l2p l2n l2c), (7, .int .i64 left7), (8, .int .i64 i8)] K =
    (rq (0 ≤ i8 ∧ i8 < (l2n : Int)) (nn l2p fun y1_ => (ldn e_api_Cell 2 ((Addr.add y1_ ((i8).toNat * 2))) fun (y2_ : api_Cell) => (cal eI Try.prog 41 #[v_api_Cell y2_] fun (y3_ : Int) => (K [(0, .int .i64 kind0), (2, .slice l2p l2n l2c), (7, .int .i64 ((IntKind.wrap .i64 (left7 - y3_)))), (8, .int .i64 i8)]))))) := by kernel_rfl
@[go_sem] theorem c46_r14 (K : Env → W) : RP c46 14 [] K =
    (K [(6, .int .i64 ((0 : Int)))]) := by kernel_rfl
@[go_sem] theorem c46_o : c46.lo 1000000 = [6] := rfl
@[go_sem] theorem c46_e (t6 : Int) (k : Value → W) : RTp c46 [(6, .int .i64 t6)] k = (k (.int .i64 t6)) := by kernel_rfl
theorem c46_ok : (c46.P.follows .mixedOrders && okc c46 c46.body) = true := by kernel_rfl
theorem c46_fn {e : Enc} {args : Array Value} {G : e.α → W} {L : List HP} {ρ : Env} (hρ : envA 0 args.toList = ρ) (hs : Nat.ble args.size 82 = true) (h : E L (D c46 (.seq (.reg 0) (.seq (.seq (.reg 1) (.cond (.tmp 30) (.seq (.reg 2) (.ret)) (.skip))) (.seq (.reg 3) (.seq (.seq (.reg 4) (.block 0 (.loop (.seq (.seq (.reg 5) (.cond (.tmp 34) (.skip) (.exit 0))) (.seq (.block 1 (.seq (.seq (.reg 7) (.cond (.tmp 42) (.seq (.reg 8) (.ret)) (.skip))) (.seq (.seq (.reg 9) (.cond (.tmp 67) (.seq (.reg 10) (.ret)) (.skip))) (.seq (.seq (.reg 11) (.cond (.tmp 74) (.seq (.reg 12) (.ret)) (.skip))) (.reg 13))))) (.reg 6)))))) (.seq (.reg 14) (.ret)))))) (fnQ c46 e G) ρ)) : E L (cal e Try.prog 46 args G) :=
  d_fn (c := c46) Try.func46 (by kernel_rfl) (by kernel_rfl) (by kernel_rfl) c46_ok (by kernel_rfl) (by kernel_rfl) hρ hs h
-- loop (first region 5): live slots 0:kind0 2:l2 7:left7 8:i8, of which it writes [7, 8]
/-! gharry.gharrylaw05.packed -/
noncomputable def c47 : Cfg := { P := Try.prog, n := 81, T := TT, body := (Try.f47.body).getD .skip, res := Try.f47.results.toList, li := lk [] [(0, [0, 1, 2]), (1, [0, 1, 2]), (2, [0, 1, 2, 7]), (3, [0, 1, 2, 7, 8]), (4, [0, 1, 2, 7, 8, 9]), (5, [0, 1, 2, 7, 8, 9]), (6, [0, 1, 2, 7, 8, 9]), (7, [0, 1, 2, 7, 8, 9]), (8, [0, 1, 2, 7, 8]), (9, [7, 8, 10])], lo := lk [] [(0, [0, 1, 2]), (1, [0, 1, 2, 7]), (2, [0, 1, 2, 7, 8]), (3, [0, 1, 2, 7, 8, 9]), (4, [0, 1, 2, 7, 8, 9, 14]), (5, [0, 1, 2, 7, 8, 9]), (6, [0, 1, 2, 7, 8, 9]), (7, [0, 1, 2, 7, 8, 9]), (8, [7, 8, 10]), (9, [6]), (1000000, [6])], ord := lk (false, []) [(7, (true, [(0, 1), (1, 1), (2, 1), (3, 1), (4, 1), (5, 0), (6, 1), (7, 1), (8, 1), (9, 1), (10, 1), (11, 1), (12, 0), (13, 1), (14, 1), (18, 1), (19, 1), (20, 1), (21, 1), (22, 0), (24, 1), (25, 1), (26, 1), (27, 1), (28, 0), (15, 2), (16, 0), (17, 1), (23, 1), (29, 1), (30, 1)]))] }
@[go_sem] theorem c47_i0 : c47.li 0 = [0, 1, 2] := rfl
@[go_sem] theorem c47_i1 : c47.li 1 = [0, 1, 2] := rfl
@[go_sem] theorem c47_i2 : c47.li 2 = [0, 1, 2, 7] := rfl
@[go_sem] theorem c47_i3 : c47.li 3 = [0, 1, 2, 7, 8] := rfl
@[go_sem] theorem c47_i4 : c47.li 4 = [0, 1, 2, 7, 8, 9] := rfl
@[go_sem] theorem c47_i5 : c47.li 5 = [0, 1, 2, 7, 8, 9] := rfl
@[go_sem] theorem c47_i6 : c47.li 6 = [0, 1, 2, 7, 8, 9] := rfl
@[go_sem] theorem c47_i7 : c47.li 7 = [0, 1, 2, 7, 8, 9] := rfl
@[go_sem] theorem c47_i8 : c47.li 8 = [0, 1, 2, 7, 8] := rfl
@[go_sem] theorem c47_i9 : c47.li 9 = [7, 8, 10] := rfl
@[go_sem] theorem c47_r0 (kind0 : Int) (level1 : Int) (l2p : Option Addr) (l2n l2c : Nat) (K : Env → W) : RP c47 0 [(0, .int .i64 kind0), (1, .int .i64 level1), (2, .slice l2p l2n l2c)] K =
    (K [(0, .int .i64 kind0), (1, .int .i64 level1), (2, .slice l2p l2n l2c)]) := by kernel_rfl
@[go_sem] theorem c47_r1 (kind0 : Int) (level1 : Int) (l2p : Option Addr) (l2n l2c : Nat) (K : Env → W) : RP c47 1 [(0, .int .i64 kind0), (1, .int .i64 level1), (2, .slice l2p l2n l2c)] K =
    (K [(0, .int .i64 kind0), (1, .int .i64 level1), (2, .slice l2p l2n l2c), (7, str (([] : List UInt8)))]) := by kernel_rfl
@[go_sem] theorem c47_r2 (kind0 : Int) (level1 : Int) (l2p : Option Addr) (l2n l2c : Nat) (heap7 : List UInt8) (K : Env → W) : RP c47 2 [(0, .int .i64 kind0), (1, .int .i64 level1), (2, .slice l2p l2n l2c), (7, str heap7)] K =
    (K [(0, .int .i64 kind0), (1, .int .i64 level1), (2, .slice l2p l2n l2c), (7, str heap7), (8, str (([] : List UInt8)))]) := by kernel_rfl
@[go_sem] theorem c47_r3 (kind0 : Int) (level1 : Int) (l2p : Option Addr) (l2n l2c : Nat) (heap7 : List UInt8) (slots8 : List UInt8) (K : Env → W) : RP c47 3 [(0, .int .i64 kind0), (1, .int .i64 level1), (2, .slice l2p l2n l2c), (7, str heap7), (8, str slots8)] K =
    (K [(0, .int .i64 kind0), (1, .int .i64 level1), (2, .slice l2p l2n l2c), (7, str heap7), (8, str slots8), (9, .int .i64 ((0 : Int)))]) := by kernel_rfl
@[go_sem] theorem c47_r4 (kind0 : Int) (level1 : Int) (l2p : Option Addr) (l2n l2c : Nat) (heap7 : List UInt8) (slots8 : List UInt8) (i9 : Int) (K : Env → W) : RP c47 4 [(0, .int .i64 kind0), (1, .int .i64 level1), (2, .slice l2p l2n l2c), (7, str heap7), (8, str slots8), (9, .int .i64 i9)] K =
    (K [(0, .int .i64 kind0), (1, .int .i64 level1), (2, .slice l2p l2n l2c), (7, str heap7), (8, str slots8), (9, .int .i64 i9), (14, .bool ((decide (i9 < (l2n : Int)))))]) := by kernel_rfl
@[go_sem] theorem c47_r5 (kind0 : Int) (level1 : Int) (l2p : Option Addr) (l2n l2c : Nat) (heap7 : List UInt8) (slots8 : List UInt8) (i9 : Int) (K : Env → W) : RP c47 5 [(0, .int .i64 kind0), (1, .int .i64 level1), (2, .slice l2p l2n l2c), (7, str heap7), (8, str slots8), (9, .int .i64 i9)] K =
    (K [(0, .int .i64 kind0), (1, .int .i64 level1), (2, .slice l2p l2n l2c), (7, str heap7), (8, str slots8), (9, .int .i64 ((IntKind.wrap .i64 (i9 + (1 : Int)))))]) := by kernel_rfl
@[go_sem] theorem c47_r6 (kind0 : Int) (level1 : Int) (l2p : Option Addr) (l2n l2c : Nat) (heap7 : List UInt8) (slots8 : List UInt8) (i9 : Int) (K : Env → W) : RP c47 6 [(0, .int .i64 kind0), (1, .int .i64 level1), (2, .slice l2p l2n l2c), (7, str heap7), (8, str slots8), (9, .int .i64 i9)] K =
    (nwc #[.int .u8 ((IntKind.wrap .u8 ((IntKind.wrap .i64 ((4 : Int) + ((heap7).length : Int))))))] 5 fun y1_ => (val eS Try.prog (oConv 103 9 (.slice ((some y1_)) 1 1)) fun (y2_ : List UInt8) => (rq (((y2_).length : Int) + ((slots8).length : Int) ≤ 9223372036854775807) (K [(0, .int .i64 kind0), (1, .int .i64 level1), (2, .slice l2p l2n l2c), (7, str heap7), (8, str ((y2_ ++ slots8))), (9, .int .i64 i9)])))) := by kernel_rfl
@[go_sem] theorem c47_r7 (kind0 : Int) (level1 : Int) (l2p : Option Addr) (l2n l2c : Nat) (heap7 : List UInt8) (slots8 : List UInt8) (i9 : Int) (K : Env → W) : RP c47 7 [(0, .int .i64 kind0), (1, .int .i64 level1), (2, .slice l2p l2n l2c), (7, str heap7), (8, str slots8), (9, .int .i64 i9)] K =
    (ph fun S0 => (rq (0 ≤ i9 ∧ i9 < (l2n : Int)) (nn l2p fun y1_ => (ldq S0 eS ((Addr.add y1_ ((i9).toNat * 2))) fun (y2_ : List UInt8) => (rq (0 ≤ i9 ∧ i9 < (l2n : Int)) (nn l2p fun y3_ => (ldq S0 eS ((((Addr.add y3_ ((i9).toNat * 2))).add 1)) fun (y4_ : List UInt8) => (rq (0 ≤ i9 ∧ i9 < (l2n : Int)) (nn l2p fun y5_ => (ldq S0 eS ((Addr.add y5_ ((i9).toNat * 2))) fun (y6_ : List UInt8) => (rq (0 ≤ i9 ∧ i9 < (l2n : Int)) (nn l2p fun y7_ => (ldq S0 eS ((((Addr.add y7_ ((i9).toNat * 2))).add 1)) fun (y8_ : List UInt8) => (nwc #[.int .u8 ((IntKind.wrap .u8 (((y2_).length : Int)))), .int .u8 ((IntKind.wrap .u8 (((y4_).length : Int))))] 5 fun y9_ => (kpn S0 fun S1 => (valq S1 eS Try.prog (oConv 103 9 (.slice ((some y9_)) 2 2)) fun (y10_ : List UInt8) => (rq (((heap7).length : Int) + ((y10_).length : Int) ≤ 9223372036854775807) (rq ((((heap7 ++ y10_)).length : Int) + ((y6_).length : Int) ≤ 9223372036854775807) (rq (((((heap7 ++ y10_) ++ y6_)).length : Int) + ((y8_).length : Int) ≤ 9223372036854775807) (K [(0, .int .i64 kind0), (1, .int .i64 level1), (2, .slice l2p l2n l2c), (7, str ((((heap7 ++ y10_) ++ y6_) ++ y8_))), (8, str slots8), (9, .int .i64 i9)])))))))))))))))))))) := by kernel_rfl
@[go_sem] theorem c47_r8 (kind0 : Int) (level1 : Int) (l2p : Option Addr) (l2n l2c : Nat) (heap7 : List UInt8) (slots8 : List UInt8) (K : Env → W) : RP c47 8 [(0, .int .i64 kind0), (1, .int .i64 level1), (2, .slice l2p l2n l2c), (7, str heap7), (8, str slots8)] K =
    (nwc #[.int .u8 ((IntKind.wrap .u8 kind0)), .int .u8 ((IntKind.wrap .u8 level1)), .int .u8 ((IntKind.wrap .u8 ((l2n : Int)))), .int .u8 ((IntKind.wrap .u8 ((IntKind.wrap .i64 ((4 : Int) + ((heap7).length : Int))))))] 5 fun y1_ => (val eS Try.prog (oConv 103 9 (.slice ((some y1_)) 4 4)) fun (y2_ : List UInt8) => (K [(7, str heap7), (8, str slots8), (10, str y2_)]))) := by kernel_rfl
@[go_sem] theorem c47_r9 (heap7 : List UInt8) (slots8 : List UInt8) (head10 : List UInt8) (K : Env → W) : RP c47 9 [(7, str heap7), (8, str slots8), (10, str head10)] K =
    (rq (((head10).length : Int) + ((heap7).length : Int) ≤ 9223372036854775807) (cal eS Try.prog 80 #[.int .i64 ((IntKind.wrap .i64 ((IntKind.wrap .i64 ((220 : Int) - ((heap7).length : Int))) - ((slots8).length : Int))))] fun (y1_ : List UInt8) => (rq ((((head10 ++ heap7)).length : Int) + ((y1_).length : Int) ≤ 9223372036854775807) (rq (((((head10 ++ heap7) ++ y1_)).length : Int) + ((slots8).length : Int) ≤ 9223372036854775807) (K [(6, str ((((head10 ++ heap7) ++ y1_) ++ slots8)))]))))) := by kernel_rfl
@[go_sem] theorem c47_o : c47.lo 1000000 = [6] := rfl
@[go_sem] theorem c47_e (t6 : List UInt8) (k : Value → W) : RTp c47 [(6, str t6)] k = (k (str t6)) := by kernel_rfl
theorem c47_ok : (c47.P.follows .mixedOrders && okc c47 c47.body) = true := by kernel_rfl
theorem c47_fn {e : Enc} {args : Array Value} {G : e.α → W} {L : List HP} {ρ : Env} (hρ : envA 0 args.toList = ρ) (hs : Nat.ble args.size 81 = true) (h : E L (D c47 (.seq (.reg 0) (.seq (.reg 1) (.seq (.reg 2) (.seq (.seq (.reg 3) (.block 0 (.loop (.seq (.seq (.reg 4) (.cond (.tmp 14) (.skip) (.exit 0))) (.seq (.block 1 (.seq (.reg 6) (.reg 7))) (.reg 5)))))) (.seq (.reg 8) (.seq (.reg 9) (.ret))))))) (fnQ c47 e G) ρ)) : E L (cal e Try.prog 47 args G) :=
  d_fn (c := c47) Try.func47 (by kernel_rfl) (by kernel_rfl) (by kernel_rfl) c47_ok (by kernel_rfl) (by kernel_rfl) hρ hs h
-- loop (first region 4): live slots 0:kind0 1:level1 2:l2 7:heap7 8:slots8 9:i9, of which it writes [7, 8, 9]
/-! gharry.page.Right -/
noncomputable def c48 : Cfg := { P := Try.prog, n := 11, T := TT, body := (Try.f48.body).getD .skip, res := Try.f48.results.toList, li := lk [] [(0, [0]), (1, [0]), (2, [4])], lo := lk [] [(0, [0]), (1, [4]), (2, [2]), (1000000, [2])], ord := lk (false, []) [] }
@[go_sem] theorem c48_i0 : c48.li 0 = [0] := rfl
@[go_sem] theorem c48_i1 : c48.li 1 = [0] := rfl
@[go_sem] theorem c48_i2 : c48.li 2 = [4] := rfl
@[go_sem] theorem c48_r0 (p0 : List UInt8) (K : Env → W) : RP c48 0 [(0, str p0)] K =
    (K [(0, str p0)]) := by kernel_rfl
@[go_sem] theorem c48_r1 (p0 : List UInt8) (K : Env → W) : RP c48 1 [(0, str p0)] K =
    (cal (eT2 eP eB) Try.prog 75 #[str p0] fun (y1_ : ((Option Addr) × Bool)) => (K [(4, .bool y1_.2)])) := by kernel_rfl
@[go_sem] theorem c48_r2 (ok4 : Bool) (K : Env → W) : RP c48 2 [(4, .bool ok4)] K =
    (K [(2, .bool ok4)]) := by kernel_rfl
@[go_sem] theorem c48_o : c48.lo 1000000 = [2] := rfl
@[go_sem] theorem c48_e (t2 : Bool) (k : Value → W) : RTp c48 [(2, .bool t2)] k = (k (.bool t2)) := by kernel_rfl
theorem c48_ok : (c48.P.follows .mixedOrders && okc c48 c48.body) = true := by kernel_rfl
theorem c48_fn {e : Enc} {args : Array Value} {G : e.α → W} {L : List HP} {ρ : Env} (hρ : envA 0 args.toList = ρ) (hs : Nat.ble args.size 11 = true) (h : E L (D c48 (.seq (.reg 0) (.seq (.reg 1) (.seq (.reg 2) (.ret)))) (fnQ c48 e G) ρ)) : E L (cal e Try.prog 48 args G) :=
  d_fn (c := c48) Try.func48 (by kernel_rfl) (by kernel_rfl) (by kernel_rfl) c48_ok (by kernel_rfl) (by kernel_rfl) hρ hs h
end Go.Sp
