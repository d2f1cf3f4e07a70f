/- What each region of the Go functions does. Written by my own generator. -/
import Derived.Test.YtpcfjoieinobpaaT
namespace Go.Sp
open Go
set_option maxRecDepth 100000
set_option linter.unusedVariables false
open Go.Proofs
/-! (*gharry.page.image).drop -/
noncomputable def c85 : Cfg := { P := Try.prog, n := 37, T := TT, body := (Try.f85.body).getD .skip, res := Try.f85.results.toList, li := lk [] [(0, [0, 1]), (1, [0, 1, 4]), (2, [0, 4, 5]), (3, [0, 4, 5]), (4, [0, 4, 5]), (5, [0, 4]), (6, [0, 4])], lo := lk [] [(0, [0, 1, 4]), (1, [0, 4, 5]), (2, [0, 4, 5, 12]), (3, [0, 4, 5]), (4, [0, 4, 5]), (5, [0, 4]), (6, []), (1000000, [])], ord := lk (false, []) [(4, (true, [(0, 1), (1, 1), (2, 1), (3, 1), (4, 1), (5, 1), (6, 1), (7, 1), (8, 0), (9, 1), (10, 1), (11, 4)]))] }
@[go_sem] theorem c85_i0 : c85.li 0 = [0, 1] := rfl
@[go_sem] theorem c85_i1 : c85.li 1 = [0, 1, 4] := rfl
@[go_sem] theorem c85_i2 : c85.li 2 = [0, 4, 5] := rfl
@[go_sem] theorem c85_i3 : c85.li 3 = [0, 4, 5] := rfl
@[go_sem] theorem c85_i4 : c85.li 4 = [0, 4, 5] := rfl
@[go_sem] theorem c85_i5 : c85.li 5 = [0, 4] := rfl
@[go_sem] theorem c85_i6 : c85.li 6 = [0, 4] := rfl
@[go_sem] theorem c85_r0 (m0 : Option Addr) (i1 : Int) (K : Env → W) : RP c85 0 [(0, .pointer m0), (1, .int .i64 i1)] K =
    (cal eI Try.prog 81 #[.pointer m0] fun (y1_ : Int) => (K [(0, .pointer m0), (1, .int .i64 i1), (4, .int .i64 y1_)])) := by kernel_rfl
@[go_sem] theorem c85_r1 (m0 : Option Addr) (i1 : Int) (n4 : Int) (K : Env → W) : RP c85 1 [(0, .pointer m0), (1, .int .i64 i1), (4, .int .i64 n4)] K =
    (K [(0, .pointer m0), (4, .int .i64 n4), (5, .int .i64 i1)]) := by kernel_rfl
@[go_sem] theorem c85_r2 (m0 : Option Addr) (n4 : Int) (k5 : Int) (K : Env → W) : RP c85 2 [(0, .pointer m0), (4, .int .i64 n4), (5, .int .i64 k5)] K =
    (K [(0, .pointer m0), (4, .int .i64 n4), (5, .int .i64 k5), (12, .bool ((decide (k5 < (IntKind.wrap .i64 (n4 - (1 : Int)))))))]) := by kernel_rfl
@[go_sem] theorem c85_r3 (m0 : Option Addr) (n4 : Int) (k5 : Int) (K : Env → W) : RP c85 3 [(0, .pointer m0), (4, .int .i64 n4), (5, .int .i64 k5)] K =
    (K [(0, .pointer m0), (4, .int .i64 n4), (5, .int .i64 ((IntKind.wrap .i64 (k5 + (1 : Int)))))]) := by kernel_rfl
@[go_sem] theorem c85_r4 (m0 : Option Addr) (n4 : Int) (k5 : Int) (K : Env → W) : RP c85 4 [(0, .pointer m0), (4, .int .i64 n4), (5, .int .i64 k5)] K =
    (ph fun S0 => (nn m0 fun y1_ => (rq (0 ≤ (IntKind.wrap .i64 ((222 : Int) - k5)) ∧ (IntKind.wrap .i64 ((222 : Int) - k5)) < ((224 : Nat) : Int)) (ldq S0 eU8 ((Addr.add y1_ (((IntKind.wrap .i64 ((222 : Int) - k5))).toNat * 1))) fun (y2_ : Int) => (nn m0 fun y3_ => (rq (0 ≤ (IntKind.wrap .i64 ((223 : Int) - k5)) ∧ (IntKind.wrap .i64 ((223 : Int) - k5)) < ((224 : Nat) : Int)) (st ((Addr.add y3_ (((IntKind.wrap .i64 ((223 : Int) - k5))).toNat * 1))) (.int .u8 y2_) (K [(0, .pointer m0), (4, .int .i64 n4), (5, .int .i64 k5)])))))))) := by kernel_rfl
@[go_sem] theorem c85_r5 (m0 : Option Addr) (n4 : Int) (K : Env → W) : RP c85 5 [(0, .pointer m0), (4, .int .i64 n4)] K =
    (nn m0 fun y1_ => (rq (0 ≤ (IntKind.wrap .i64 ((224 : Int) - n4)) ∧ (IntKind.wrap .i64 ((224 : Int) - n4)) < ((224 : Nat) : Int)) (st ((Addr.add y1_ (((IntKind.wrap .i64 ((224 : Int) - n4))).toNat * 1))) (.int .u8 ((0 : Int))) (K [(0, .pointer m0), (4, .int .i64 n4)])))) := by kernel_rfl
@[go_sem] theorem c85_r6 (m0 : Option Addr) (n4 : Int) (K : Env → W) : RP c85 6 [(0, .pointer m0), (4, .int .i64 n4)] K =
    (nn m0 fun y1_ => (rq (0 ≤ (2 : Int) ∧ (2 : Int) < ((224 : Nat) : Int)) (st ((Addr.add y1_ 2)) (.int .u8 ((IntKind.wrap .u8 ((IntKind.wrap .i64 (n4 - (1 : Int))))))) (K [])))) := by kernel_rfl
@[go_sem] theorem c85_o : c85.lo 1000000 = [] := rfl
@[go_sem] theorem c85_e (k : Value → W) : RTp c85 [] k = (k (.tuple #[])) := by kernel_rfl
theorem c85_ok : (c85.P.follows .mixedOrders && okc c85 c85.body) = true := by kernel_rfl
theorem c85_fn {e : Enc} {args : Array Value} {G : e.α → W} {L : List HP} {ρ : Env} (hρ : envA 0 args.toList = ρ) (hs : Nat.ble args.size 37 = true) (h : E L (D c85 (.seq (.reg 0) (.seq (.seq (.reg 1) (.block 0 (.loop (.seq (.seq (.reg 2) (.cond (.tmp 12) (.skip) (.exit 0))) (.seq (.block 1 (.reg 4)) (.reg 3)))))) (.seq (.reg 5) (.reg 6)))) (fnQ c85 e G) ρ)) : E L (cal e Try.prog 85 args G) :=
  d_fn (c := c85) Try.func85 (by kernel_rfl) (by kernel_rfl) (by kernel_rfl) c85_ok (by kernel_rfl) (by kernel_rfl) hρ hs h
-- loop (first region 2): live slots 0:m0 4:n4 5:k5, of which it writes [5]
/-! (*gharry.page.image).cell -/
noncomputable def c86 : Cfg := { P := Try.prog, n := 44, T := TT, body := (Try.f86.body).getD .skip, res := Try.f86.results.toList, li := lk [] [(0, [0, 1]), (1, [0, 1, 4]), (2, [0, 1, 4, 5, 6]), (3, [0, 4, 5, 6, 7])], lo := lk [] [(0, [0, 1, 4]), (1, [0, 1, 4, 5, 6]), (2, [0, 4, 5, 6, 7]), (3, [4]), (1000000, [4])], ord := lk (false, []) [(1, (true, [(0, 1), (1, 1), (2, 1), (3, 1), (4, 0), (5, 1), (6, 1), (7, 1), (8, 1), (9, 1), (10, 1), (11, 0), (12, 1), (13, 1), (14, 1)])), (3, (true, [(0, 1), (1, 1), (2, 1), (3, 1), (4, 1), (5, 1), (6, 1), (7, 0), (8, 1), (9, 1), (10, 1), (11, 1), (12, 1), (13, 1), (14, 1), (15, 1), (16, 1), (17, 1), (18, 1), (19, 0), (20, 1), (21, 4)]))] }
@[go_sem] theorem c86_i0 : c86.li 0 = [0, 1] := rfl
@[go_sem] theorem c86_i1 : c86.li 1 = [0, 1, 4] := rfl
@[go_sem] theorem c86_i2 : c86.li 2 = [0, 1, 4, 5, 6] := rfl
@[go_sem] theorem c86_i3 : c86.li 3 = [0, 4, 5, 6, 7] := rfl
@[go_sem] theorem c86_r0 (m0 : Option Addr) (at1 : Int) (K : Env → W) : RP c86 0 [(0, .pointer m0), (1, .int .i64 at1)] K =
    (nwc #[str (([] : List UInt8)), str (([] : List UInt8))] 55 fun y1_ => (K [(0, .pointer m0), (1, .int .i64 at1), (4, .pointer (some y1_))])) := by kernel_rfl
@[go_sem] theorem c86_r1 (m0 : Option Addr) (at1 : Int) (t4 : Addr) (K : Env → W) : RP c86 1 [(0, .pointer m0), (1, .int .i64 at1), (4, .pointer (some t4))] K =
    (ph fun S0 => (nn m0 fun y1_ => (rq (0 ≤ at1 ∧ at1 < ((224 : Nat) : Int)) (ldq S0 eU8 ((Addr.add y1_ ((at1).toNat * 1))) fun (y2_ : Int) => (nn m0 fun y3_ => (rq (0 ≤ (IntKind.wrap .i64 (at1 + (1 : Int))) ∧ (IntKind.wrap .i64 (at1 + (1 : Int))) < ((224 : Nat) : Int)) (ldq S0 eU8 ((Addr.add y3_ (((IntKind.wrap .i64 (at1 + (1 : Int)))).toNat * 1))) fun (y4_ : Int) => (K [(0, .pointer m0), (1, .int .i64 at1), (4, .pointer (some t4)), (5, .int .i64 ((IntKind.wrap .i64 y2_))), (6, .int .i64 ((IntKind.wrap .i64 y4_)))])))))))) := by kernel_rfl
@[go_sem] theorem c86_r2 (m0 : Option Addr) (at1 : Int) (t4 : Addr) (k5 : Int) (v6 : Int) (K : Env → W) : RP c86 2 [(0, .pointer m0), (1, .int .i64 at1), (4, .pointer (some t4)), (5, .int .i64 k5), (6, .int .i64 v6)] K =
    (K [(0, .pointer m0), (4, .pointer (some t4)), (5, .int .i64 k5), (6, .int .i64 v6), (7, .int .i64 ((IntKind.wrap .i64 (at1 + (2 : Int)))))]) := by kernel_rfl
@[go_sem] theorem c86_r3 (m0 : Option Addr) (t4 : Addr) (k5 : Int) (v6 : Int) (from7 : Int) (K : Env → W) : RP c86 3 [(0, .pointer m0), (4, .pointer (some t4)), (5, .int .i64 k5), (6, .int .i64 v6), (7, .int .i64 from7)] K =
    (ph fun S0 => (nn m0 fun y1_ => (rq (0 ≤ (from7 : Int) ∧ from7 ≤ (IntKind.wrap .i64 (from7 + k5)) ∧ (IntKind.wrap .i64 (from7 + k5)) ≤ ((224 : Nat) : Int)) (valq S0 eS Try.prog (oConv 103 9 (.slice ((slp (some y1_) from7 ((224 : Nat) : Int) 1)) ((((IntKind.wrap .i64 (from7 + k5))).toNat - (from7 : Int).toNat)) (((((224 : Nat) : Int)).toNat - (from7 : Int).toNat)))) fun (y2_ : List UInt8) => (nn m0 fun y3_ => (rq (0 ≤ ((IntKind.wrap .i64 (from7 + k5)) : Int) ∧ (IntKind.wrap .i64 (from7 + k5)) ≤ (IntKind.wrap .i64 ((IntKind.wrap .i64 (from7 + k5)) + v6)) ∧ (IntKind.wrap .i64 ((IntKind.wrap .i64 (from7 + k5)) + v6)) ≤ ((224 : Nat) : Int)) (valq S0 eS Try.prog (oConv 103 9 (.slice ((slp (some y3_) ((IntKind.wrap .i64 (from7 + k5))) ((224 : Nat) : Int) 1)) ((((IntKind.wrap .i64 ((IntKind.wrap .i64 (from7 + k5)) + v6))).toNat - ((IntKind.wrap .i64 (from7 + k5)) : Int).toNat)) (((((224 : Nat) : Int)).toNat - ((IntKind.wrap .i64 (from7 + k5)) : Int).toNat)))) fun (y4_ : List UInt8) => (stl [str (((⟨y2_, y4_⟩ : api_Cell)).Key), str (((⟨y2_, y4_⟩ : api_Cell)).Val)] t4 0 (K [(4, .pointer (some t4))]))))))))) := by kernel_rfl
@[go_sem] theorem c86_o : c86.lo 1000000 = [4] := rfl
@[go_sem] theorem c86_e (t4 : Addr) (k : Value → W) : RTp c86 [(4, .pointer (some t4))] k = (ldn e_api_Cell 2 t4 fun (y1_ : api_Cell) => (k (v_api_Cell y1_))) := by kernel_rfl
theorem c86_ok : (c86.P.follows .mixedOrders && okc c86 c86.body) = true := by kernel_rfl
theorem c86_fn {e : Enc} {args : Array Value} {G : e.α → W} {L : List HP} {ρ : Env} (hρ : envA 0 args.toList = ρ) (hs : Nat.ble args.size 44 = true) (h : E L (D c86 (.seq (.reg 0) (.seq (.reg 1) (.seq (.reg 2) (.seq (.reg 3) (.ret))))) (fnQ c86 e G) ρ)) : E L (cal e Try.prog 86 args G) :=
  d_fn (c := c86) Try.func86 (by kernel_rfl) (by kernel_rfl) (by kernel_rfl) c86_ok (by kernel_rfl) (by kernel_rfl) hρ hs h
/-! (*gharry.page.image).slot -/
noncomputable def c87 : Cfg := { P := Try.prog, n := 12, T := TT, body := (Try.f87.body).getD .skip, res := Try.f87.results.toList, li := lk [] [(0, [0, 1]), (1, [0, 1])], lo := lk [] [(0, [0, 1]), (1, [4]), (1000000, [4])], ord := lk (false, []) [] }
@[go_sem] theorem c87_i0 : c87.li 0 = [0, 1] := rfl
@[go_sem] theorem c87_i1 : c87.li 1 = [0, 1] := rfl
@[go_sem] theorem c87_r0 (m0 : Option Addr) (i1 : Int) (K : Env → W) : RP c87 0 [(0, .pointer m0), (1, .int .i64 i1)] K =
    (K [(0, .pointer m0), (1, .int .i64 i1)]) := by kernel_rfl
@[go_sem] theorem c87_r1 (m0 : Option Addr) (i1 : Int) (K : Env → W) : RP c87 1 [(0, .pointer m0), (1, .int .i64 i1)] K =
    (nn m0 fun y1_ => (rq (0 ≤ (IntKind.wrap .i64 ((223 : Int) - i1)) ∧ (IntKind.wrap .i64 ((223 : Int) - i1)) < ((224 : Nat) : Int)) (ld eU8 ((Addr.add y1_ (((IntKind.wrap .i64 ((223 : Int) - i1))).toNat * 1))) fun (y2_ : Int) => (K [(4, .int .i64 ((IntKind.wrap .i64 y2_)))])))) := by kernel_rfl
@[go_sem] theorem c87_o : c87.lo 1000000 = [4] := rfl
@[go_sem] theorem c87_e (t4 : Int) (k : Value → W) : RTp c87 [(4, .int .i64 t4)] k = (k (.int .i64 t4)) := by kernel_rfl
theorem c87_ok : (c87.P.follows .mixedOrders && okc c87 c87.body) = true := by kernel_rfl
theorem c87_fn {e : Enc} {args : Array Value} {G : e.α → W} {L : List HP} {ρ : Env} (hρ : envA 0 args.toList = ρ) (hs : Nat.ble args.size 12 = true) (h : E L (D c87 (.seq (.reg 0) (.seq (.reg 1) (.ret))) (fnQ c87 e G) ρ)) : E L (cal e Try.prog 87 args G) :=
  d_fn (c := c87) Try.func87 (by kernel_rfl) (by kernel_rfl) (by kernel_rfl) c87_ok (by kernel_rfl) (by kernel_rfl) hρ hs h
/-! (*gharry.page.image).room -/
noncomputable def c88 : Cfg := { P := Try.prog, n := 19, T := TT, body := (Try.f88.body).getD .skip, res := Try.f88.results.toList, li := lk [] [(0, [0]), (1, [0]), (2, [0, 3]), (3, [3, 7, 8, 9]), (4, [3, 7, 8, 9]), (5, [3, 5, 7, 8, 9]), (6, [3, 7, 8, 9]), (7, [3])], lo := lk [] [(0, [0]), (1, [0, 3]), (2, [3, 7, 8, 9]), (3, [3, 7, 8, 9, 10]), (4, [3, 5, 7, 8, 9]), (5, [3, 7, 8, 9]), (6, [3, 7, 8, 9]), (7, [2]), (1000000, [2])], ord := lk (false, []) [] }
@[go_sem] theorem c88_i0 : c88.li 0 = [0] := rfl
@[go_sem] theorem c88_i1 : c88.li 1 = [0] := rfl
@[go_sem] theorem c88_i2 : c88.li 2 = [0, 3] := rfl
@[go_sem] theorem c88_i3 : c88.li 3 = [3, 7, 8, 9] := rfl
@[go_sem] theorem c88_i4 : c88.li 4 = [3, 7, 8, 9] := rfl
@[go_sem] theorem c88_i5 : c88.li 5 = [3, 5, 7, 8, 9] := rfl
@[go_sem] theorem c88_i6 : c88.li 6 = [3, 7, 8, 9] := rfl
@[go_sem] theorem c88_i7 : c88.li 7 = [3] := rfl
@[go_sem] theorem c88_r0 (m0 : Option Addr) (K : Env → W) : RP c88 0 [(0, .pointer m0)] K =
    (K [(0, .pointer m0)]) := by kernel_rfl
@[go_sem] theorem c88_r1 (m0 : Option Addr) (K : Env → W) : RP c88 1 [(0, .pointer m0)] K =
    (K [(0, .pointer m0), (3, .int .i64 ((220 : Int)))]) := by kernel_rfl
@[go_sem] theorem c88_r2 (m0 : Option Addr) (left3 : Int) (K : Env → W) : RP c88 2 [(0, .pointer m0), (3, .int .i64 left3)] K =
    (cal eSl Try.prog 82 #[.pointer m0] fun (y1_ : (Option Addr × Nat × Nat)) => (K [(3, .int .i64 left3), (7, .slice y1_.1 y1_.2.1 y1_.2.2), (8, .int .i64 ((y1_.2.1 : Int))), (9, .int .i64 ((0 : Int)))])) := by kernel_rfl
@[go_sem] theorem c88_r3 (left3 : Int) (t7p : Option Addr) (t7n t7c : Nat) (t8 : Int) (t9 : Int) (K : Env → W) : RP c88 3 [(3, .int .i64 left3), (7, .slice t7p t7n t7c), (8, .int .i64 t8), (9, .int .i64 t9)] K =
    (K [(3, .int .i64 left3), (7, .slice t7p t7n t7c), (8, .int .i64 t8), (9, .int .i64 t9), (10, .bool ((decide (t9 < t8))))]) := by kernel_rfl
@[go_sem] theorem c88_r4 (left3 : Int) (t7p : Option Addr) (t7n t7c : Nat) (t8 : Int) (t9 : Int) (K : Env → W) : RP c88 4 [(3, .int .i64 left3), (7, .slice t7p t7n t7c), (8, .int .i64 t8), (9, .int .i64 t9)] K =
    (rq (0 ≤ t9 ∧ t9 < (t7n : Int)) (nn t7p fun y1_ => (ldn e_api_Cell 2 ((Addr.add y1_ ((t9).toNat * 2))) fun (y2_ : api_Cell) => (nwc #[str (([] : List UInt8)), str (([] : List UInt8))] 55 fun y3_ => (stl [str y2_.Key, str y2_.Val] y3_ 0 (K [(3, .int .i64 left3), (5, .pointer (some y3_)), (7, .slice t7p t7n t7c), (8, .int .i64 t8), (9, .int .i64 t9)])))))) := by kernel_rfl
@[go_sem] theorem c88_r5 (left3 : Int) (c5 : Addr) (t7p : Option Addr) (t7n t7c : Nat) (t8 : Int) (t9 : Int) (K : Env → W) : RP c88 5 [(3, .int .i64 left3), (5, .pointer (some c5)), (7, .slice t7p t7n t7c), (8, .int .i64 t8), (9, .int .i64 t9)] K =
    (ldn e_api_Cell 2 c5 fun (y1_ : api_Cell) => (cal eI Try.prog 40 #[v_api_Cell y1_] fun (y2_ : Int) => (K [(3, .int .i64 ((IntKind.wrap .i64 (left3 - y2_)))), (7, .slice t7p t7n t7c), (8, .int .i64 t8), (9, .int .i64 t9)]))) := by kernel_rfl
@[go_sem] theorem c88_r6 (left3 : Int) (t7p : Option Addr) (t7n t7c : Nat) (t8 : Int) (t9 : Int) (K : Env → W) : RP c88 6 [(3, .int .i64 left3), (7, .slice t7p t7n t7c), (8, .int .i64 t8), (9, .int .i64 t9)] K =
    (K [(3, .int .i64 left3), (7, .slice t7p t7n t7c), (8, .int .i64 t8), (9, .int .i64 ((IntKind.wrap .i64 (t9 + (1 : Int)))))]) := by kernel_rfl
@[go_sem] theorem c88_r7 (left3 : Int) (K : Env → W) : RP c88 7 [(3, .int .i64 left3)] K =
    (K [(2, .int .i64 left3)]) := by kernel_rfl
@[go_sem] theorem c88_o : c88.lo 1000000 = [2] := rfl
@[go_sem] theorem c88_e (t2 : Int) (k : Value → W) : RTp c88 [(2, .int .i64 t2)] k = (k (.int .i64 t2)) := by kernel_rfl
theorem c88_ok : (c88.P.follows .mixedOrders && okc c88 c88.body) = true := by kernel_rfl
theorem c88_fn {e : Enc} {args : Array Value} {G : e.α → W} {L : List HP} {ρ : Env} (hρ : envA 0 args.toList = ρ) (hs : Nat.ble args.size 19 = true) (h : E L (D c88 (.seq (.reg 0) (.seq (.reg 1) (.seq (.seq (.reg 2) (.block 0 (.loop (.seq (.reg 3) (.seq (.cond (.tmp 10) (.skip) (.exit 0)) (.seq (.block 1 (.seq (.reg 4) (.reg 5))) (.reg 6))))))) (.seq (.reg 7) (.ret))))) (fnQ c88 e G) ρ)) : E L (cal e Try.prog 88 args G) :=
  d_fn (c := c88) Try.func88 (by kernel_rfl) (by kernel_rfl) (by kernel_rfl) c88_ok (by kernel_rfl) (by kernel_rfl) hρ hs h
-- loop (first region 3): live slots 3:left3 7:t7 8:t8 9:t9, of which it writes [3, 9]
/-! (*gharry.page.image).fits -/
noncomputable def c90 : Cfg := { P := Try.prog, n := 114, T := TT, body := (Try.f90.body).getD .skip, res := Try.f90.results.toList, li := lk [] [(0, [0]), (1, [0]), (2, [0, 3]), (3, []), (4, [0, 3]), (5, [0, 3, 4, 5]), (6, [0, 4, 5, 48, 49]), (7, [0, 4, 5, 48, 49]), (8, [0, 4, 5, 6, 48, 49]), (9, [0, 4, 5, 6, 7, 48, 49]), (10, []), (11, [0, 4, 5, 6, 7, 48, 49]), (12, [0, 4, 5, 6, 7, 8, 9, 48, 49]), (13, []), (14, [0, 4, 5, 6, 7, 48, 49]), (15, [0, 4, 5, 6, 10, 48, 49]), (16, []), (17, [0, 5, 10, 48, 49]), (18, [0, 4, 5, 10, 48, 49]), (19, [0, 4, 5, 48, 49]), (20, [5])], lo := lk [] [(0, [0]), (1, [0, 3]), (2, [0, 3, 47]), (3, [2]), (4, [0, 3, 4, 5]), (5, [0, 4, 5, 48, 49]), (6, [0, 4, 5, 48, 49, 50]), (7, [0, 4, 5, 6, 48, 49]), (8, [0, 4, 5, 6, 7, 48, 49]), (9, [0, 4, 5, 6, 7, 48, 49, 63]), (10, [2]), (11, [0, 4, 5, 6, 7, 8, 9, 48, 49]), (12, [0, 4, 5, 6, 7, 48, 49, 93]), (13, [2]), (14, [0, 4, 5, 6, 10, 48, 49]), (15, [0, 5, 10, 48, 49, 104]), (16, [2]), (17, [0, 4, 5, 10, 48, 49]), (18, [0, 4, 5, 48, 49]), (19, [0, 4, 5, 48, 49]), (20, [2]), (1000000, [2])], ord := lk (false, []) [(11, (true, [(0, 1), (1, 1), (2, 1), (3, 1), (4, 0), (5, 1), (6, 1), (7, 1), (8, 1), (9, 1), (10, 1), (11, 0), (12, 1), (13, 1), (14, 1)]))] }
@[go_sem] theorem c90_i0 : c90.li 0 = [0] := rfl
@[go_sem] theorem c90_i1 : c90.li 1 = [0] := rfl
@[go_sem] theorem c90_i2 : c90.li 2 = [0, 3] := rfl
@[go_sem] theorem c90_i3 : c90.li 3 = [] := rfl
@[go_sem] theorem c90_i4 : c90.li 4 = [0, 3] := rfl
@[go_sem] theorem c90_i5 : c90.li 5 = [0, 3, 4, 5] := rfl
@[go_sem] theorem c90_i6 : c90.li 6 = [0, 4, 5, 48, 49] := rfl
@[go_sem] theorem c90_i7 : c90.li 7 = [0, 4, 5, 48, 49] := rfl
@[go_sem] theorem c90_i8 : c90.li 8 = [0, 4, 5, 6, 48, 49] := rfl
@[go_sem] theorem c90_i9 : c90.li 9 = [0, 4, 5, 6, 7, 48, 49] := rfl
@[go_sem] theorem c90_i10 : c90.li 10 = [] := rfl
@[go_sem] theorem c90_i11 : c90.li 11 = [0, 4, 5, 6, 7, 48, 49] := rfl
@[go_sem] theorem c90_i12 : c90.li 12 = [0, 4, 5, 6, 7, 8, 9, 48, 49] := rfl
@[go_sem] theorem c90_i13 : c90.li 13 = [] := rfl
@[go_sem] theorem c90_i14 : c90.li 14 = [0, 4, 5, 6, 7, 48, 49] := rfl
@[go_sem] theorem c90_i15 : c90.li 15 = [0, 4, 5, 6, 10, 48, 49] := rfl
@[go_sem] theorem c90_i16 : c90.li 16 = [] := rfl
@[go_sem] theorem c90_i17 : c90.li 17 = [0, 5, 10, 48, 49] := rfl
@[go_sem] theorem c90_i18 : c90.li 18 = [0, 4, 5, 10, 48, 49] := rfl
@[go_sem] theorem c90_i19 : c90.li 19 = [0, 4, 5, 48, 49] := rfl
@[go_sem] theorem c90_i20 : c90.li 20 = [5] := rfl
@[go_sem] theorem c90_r0 (m0 : Option Addr) (K : Env → W) : RP c90 0 [(0, .pointer m0)] K =
    (K [(0, .pointer m0)]) := by kernel_rfl
@[go_sem] theorem c90_r1 (m0 : Option Addr) (K : Env → W) : RP c90 1 [(0, .pointer m0)] K =
    (cal eI Try.prog 81 #[.pointer m0] fun (y1_ : Int) => (K [(0, .pointer m0), (3, .int .i64 y1_)])) := by kernel_rfl
@[go_sem] theorem c90_r2 (m0 : Option Addr) (n3 : Int) (K : Env → W) : RP c90 2 [(0, .pointer m0), (3, .int .i64 n3)] K =
    (cal eI Try.prog 91 #[.pointer m0] fun (y1_ : Int) => (cnd ((decide (y1_ < (4 : Int)))) (K [(0, .pointer m0), (3, .int .i64 n3), (47, .bool true)]) (cal eI Try.prog 91 #[.pointer m0] fun (y2_ : Int) => (cnd ((decide ((224 : Int) < (IntKind.wrap .i64 (y2_ + n3))))) (K [(0, .pointer m0), (3, .int .i64 n3), (47, .bool true)]) (nn m0 fun y3_ => (rq (0 ≤ (0 : Int) ∧ (0 : Int) < ((224 : Nat) : Int)) (ld eU8 ((Addr.add y3_ 0)) fun (y4_ : Int) => (cnd ((y4_ == (0 : Int))) (cnd ((decide ((0 : Int) < n3))) (K [(0, .pointer m0), (3, .int .i64 n3), (47, .bool true)]) (nn m0 fun y5_ => (rq (0 ≤ (0 : Int) ∧ (0 : Int) < ((224 : Nat) : Int)) (ld eU8 ((Addr.add y5_ 0)) fun (y6_ : Int) => (cnd ((y6_ != (2 : Int))) (nn m0 fun y7_ => (rq (0 ≤ (1 : Int) ∧ (1 : Int) < ((224 : Nat) : Int)) (ld eU8 ((Addr.add y7_ 1)) fun (y8_ : Int) => (K [(0, .pointer m0), (3, .int .i64 n3), (47, .bool ((y8_ != (0 : Int))))])))) (K [(0, .pointer m0), (3, .int .i64 n3), (47, .bool false)])))))) (nn m0 fun y9_ => (rq (0 ≤ (0 : Int) ∧ (0 : Int) < ((224 : Nat) : Int)) (ld eU8 ((Addr.add y9_ 0)) fun (y10_ : Int) => (cnd ((y10_ != (2 : Int))) (nn m0 fun y11_ => (rq (0 ≤ (1 : Int) ∧ (1 : Int) < ((224 : Nat) : Int)) (ld eU8 ((Addr.add y11_ 1)) fun (y12_ : Int) => (K [(0, .pointer m0), (3, .int .i64 n3), (47, .bool ((y12_ != (0 : Int))))])))) (K [(0, .pointer m0), (3, .int .i64 n3), (47, .bool false)]))))))))))))) := by kernel_rfl
@[go_sem] theorem c90_r3 (K : Env → W) : RP c90 3 [] K =
    (K [(2, .bool false)]) := by kernel_rfl
@[go_sem] theorem c90_r4 (m0 : Option Addr) (n3 : Int) (K : Env → W) : RP c90 4 [(0, .pointer m0), (3, .int .i64 n3)] K =
    (K [(0, .pointer m0), (3, .int .i64 n3), (4, str (([] : List UInt8))), (5, .int .i64 ((0 : Int)))]) := by kernel_rfl
@[go_sem] theorem c90_r5 (m0 : Option Addr) (n3 : Int) (last4 : List UInt8) (total5 : Int) (K : Env → W) : RP c90 5 [(0, .pointer m0), (3, .int .i64 n3), (4, str last4), (5, .int .i64 total5)] K =
    (K [(0, .pointer m0), (4, str last4), (5, .int .i64 total5), (48, .int .i64 n3), (49, .int .i64 ((0 : Int)))]) := by kernel_rfl
@[go_sem] theorem c90_r6 (m0 : Option Addr) (last4 : List UInt8) (total5 : Int) (t48 : Int) (t49 : Int) (K : Env → W) : RP c90 6 [(0, .pointer m0), (4, str last4), (5, .int .i64 total5), (48, .int .i64 t48), (49, .int .i64 t49)] K =
    (K [(0, .pointer m0), (4, str last4), (5, .int .i64 total5), (48, .int .i64 t48), (49, .int .i64 t49), (50, .bool ((decide (t49 < t48))))]) := by kernel_rfl
@[go_sem] theorem c90_r7 (m0 : Option Addr) (last4 : List UInt8) (total5 : Int) (t48 : Int) (t49 : Int) (K : Env → W) : RP c90 7 [(0, .pointer m0), (4, str last4), (5, .int .i64 total5), (48, .int .i64 t48), (49, .int .i64 t49)] K =
    (K [(0, .pointer m0), (4, str last4), (5, .int .i64 total5), (6, .int .i64 t49), (48, .int .i64 t48), (49, .int .i64 t49)]) := by kernel_rfl
@[go_sem] theorem c90_r8 (m0 : Option Addr) (last4 : List UInt8) (total5 : Int) (i6 : Int) (t48 : Int) (t49 : Int) (K : Env → W) : RP c90 8 [(0, .pointer m0), (4, str last4), (5, .int .i64 total5), (6, .int .i64 i6), (48, .int .i64 t48), (49, .int .i64 t49)] K =
    (cal eI Try.prog 87 #[.pointer m0, .int .i64 i6] fun (y1_ : Int) => (K [(0, .pointer m0), (4, str last4), (5, .int .i64 total5), (6, .int .i64 i6), (7, .int .i64 y1_), (48, .int .i64 t48), (49, .int .i64 t49)])) := by kernel_rfl
@[go_sem] theorem c90_r9 (m0 : Option Addr) (last4 : List UInt8) (total5 : Int) (i6 : Int) (at7 : Int) (t48 : Int) (t49 : Int) (K : Env → W) : RP c90 9 [(0, .pointer m0), (4, str last4), (5, .int .i64 total5), (6, .int .i64 i6), (7, .int .i64 at7), (48, .int .i64 t48), (49, .int .i64 t49)] K =
    (cnd ((decide (at7 < (4 : Int)))) (K [(0, .pointer m0), (4, str last4), (5, .int .i64 total5), (6, .int .i64 i6), (7, .int .i64 at7), (48, .int .i64 t48), (49, .int .i64 t49), (63, .bool true)]) (cal eI Try.prog 91 #[.pointer m0] fun (y1_ : Int) => (K [(0, .pointer m0), (4, str last4), (5, .int .i64 total5), (6, .int .i64 i6), (7, .int .i64 at7), (48, .int .i64 t48), (49, .int .i64 t49), (63, .bool ((decide (y1_ < (IntKind.wrap .i64 (at7 + (2 : Int)))))))]))) := by kernel_rfl
@[go_sem] theorem c90_r10 (K : Env → W) : RP c90 10 [] K =
    (K [(2, .bool false)]) := by kernel_rfl
@[go_sem] theorem c90_r11 (m0 : Option Addr) (last4 : List UInt8) (total5 : Int) (i6 : Int) (at7 : Int) (t48 : Int) (t49 : Int) (K : Env → W) : RP c90 11 [(0, .pointer m0), (4, str last4), (5, .int .i64 total5), (6, .int .i64 i6), (7, .int .i64 at7), (48, .int .i64 t48), (49, .int .i64 t49)] K =
    (ph fun S0 => (nn m0 fun y1_ => (rq (0 ≤ at7 ∧ at7 < ((224 : Nat) : Int)) (ldq S0 eU8 ((Addr.add y1_ ((at7).toNat * 1))) fun (y2_ : Int) => (nn m0 fun y3_ => (rq (0 ≤ (IntKind.wrap .i64 (at7 + (1 : Int))) ∧ (IntKind.wrap .i64 (at7 + (1 : Int))) < ((224 : Nat) : Int)) (ldq S0 eU8 ((Addr.add y3_ (((IntKind.wrap .i64 (at7 + (1 : Int)))).toNat * 1))) fun (y4_ : Int) => (K [(0, .pointer m0), (4, str last4), (5, .int .i64 total5), (6, .int .i64 i6), (7, .int .i64 at7), (8, .int .i64 ((IntKind.wrap .i64 y2_))), (9, .int .i64 ((IntKind.wrap .i64 y4_))), (48, .int .i64 t48), (49, .int .i64 t49)])))))))) := by kernel_rfl
@[go_sem] theorem c90_r12 (m0 : Option Addr) (last4 : List UInt8) (total5 : Int) (i6 : Int) (at7 : Int) (k8 : Int) (v9 : Int) (t48 : Int) (t49 : Int) (K : Env → W) : RP c90 12 [(0, .pointer m0), (4, str last4), (5, .int .i64 total5), (6, .int .i64 i6), (7, .int .i64 at7), (8, .int .i64 k8), (9, .int .i64 v9), (48, .int .i64 t48), (49, .int .i64 t49)] K =
    (cnd ((decide ((16 : Int) < k8))) (K [(0, .pointer m0), (4, str last4), (5, .int .i64 total5), (6, .int .i64 i6), (7, .int .i64 at7), (48, .int .i64 t48), (49, .int .i64 t49), (93, .bool true)]) (cnd ((decide ((32 : Int) < v9))) (K [(0, .pointer m0), (4, str last4), (5, .int .i64 total5), (6, .int .i64 i6), (7, .int .i64 at7), (48, .int .i64 t48), (49, .int .i64 t49), (93, .bool true)]) (cal eI Try.prog 91 #[.pointer m0] fun (y1_ : Int) => (K [(0, .pointer m0), (4, str last4), (5, .int .i64 total5), (6, .int .i64 i6), (7, .int .i64 at7), (48, .int .i64 t48), (49, .int .i64 t49), (93, .bool ((decide (y1_ < (IntKind.wrap .i64 ((IntKind.wrap .i64 ((IntKind.wrap .i64 (at7 + (2 : Int))) + k8)) + v9))))))])))) := by kernel_rfl
@[go_sem] theorem c90_r13 (K : Env → W) : RP c90 13 [] K =
    (K [(2, .bool false)]) := by kernel_rfl
@[go_sem] theorem c90_r14 (m0 : Option Addr) (last4 : List UInt8) (total5 : Int) (i6 : Int) (at7 : Int) (t48 : Int) (t49 : Int) (K : Env → W) : RP c90 14 [(0, .pointer m0), (4, str last4), (5, .int .i64 total5), (6, .int .i64 i6), (7, .int .i64 at7), (48, .int .i64 t48), (49, .int .i64 t49)] K =
    (cal e_api_Cell Try.prog 86 #[.pointer m0, .int .i64 at7] fun (y1_ : api_Cell) => (nwc #[str (([] : List UInt8)), str (([] : List UInt8))] 55 fun y2_ => (stl [str y1_.Key, str y1_.Val] y2_ 0 (K [(0, .pointer m0), (4, str last4), (5, .int .i64 total5), (6, .int .i64 i6), (10, .pointer (some y2_)), (48, .int .i64 t48), (49, .int .i64 t49)])))) := by kernel_rfl
@[go_sem] theorem c90_r15 (m0 : Option Addr) (last4 : List UInt8) (total5 : Int) (i6 : Int) (c10 : Addr) (t48 : Int) (t49 : Int) (K : Env → W) : RP c90 15 [(0, .pointer m0), (4, str last4), (5, .int .i64 total5), (6, .int .i64 i6), (10, .pointer (some c10)), (48, .int .i64 t48), (49, .int .i64 t49)] K =
    (cnd ((decide ((0 : Int) < i6))) (ld eS c10 fun (y1_ : List UInt8) => (K [(0, .pointer m0), (5, .int .i64 total5), (10, .pointer (some c10)), (48, .int .i64 t48), (49, .int .i64 t49), (104, .bool ((Op.bytesLess y1_ last4 || y1_ == last4)))])) (K [(0, .pointer m0), (5, .int .i64 total5), (10, .pointer (some c10)), (48, .int .i64 t48), (49, .int .i64 t49), (104, .bool false)])) := by kernel_rfl
@[go_sem] theorem c90_r16 (K : Env → W) : RP c90 16 [] K =
    (K [(2, .bool false)]) := by kernel_rfl
@[go_sem] theorem c90_r17 (m0 : Option Addr) (total5 : Int) (c10 : Addr) (t48 : Int) (t49 : Int) (K : Env → W) : RP c90 17 [(0, .pointer m0), (5, .int .i64 total5), (10, .pointer (some c10)), (48, .int .i64 t48), (49, .int .i64 t49)] K =
    (ld eS c10 fun (y1_ : List UInt8) => (K [(0, .pointer m0), (4, str y1_), (5, .int .i64 total5), (10, .pointer (some c10)), (48, .int .i64 t48), (49, .int .i64 t49)])) := by kernel_rfl
@[go_sem] theorem c90_r18 (m0 : Option Addr) (last4 : List UInt8) (total5 : Int) (c10 : Addr) (t48 : Int) (t49 : Int) (K : Env → W) : RP c90 18 [(0, .pointer m0), (4, str last4), (5, .int .i64 total5), (10, .pointer (some c10)), (48, .int .i64 t48), (49, .int .i64 t49)] K =
    (ldn e_api_Cell 2 c10 fun (y1_ : api_Cell) => (cal eI Try.prog 40 #[v_api_Cell y1_] fun (y2_ : Int) => (K [(0, .pointer m0), (4, str last4), (5, .int .i64 ((IntKind.wrap .i64 (total5 + y2_)))), (48, .int .i64 t48), (49, .int .i64 t49)]))) := by kernel_rfl
@[go_sem] theorem c90_r19 (m0 : Option Addr) (last4 : List UInt8) (total5 : Int) (t48 : Int) (t49 : Int) (K : Env → W) : RP c90 19 [(0, .pointer m0), (4, str last4), (5, .int .i64 total5), (48, .int .i64 t48), (49, .int .i64 t49)] K =
    (K [(0, .pointer m0), (4, str last4), (5, .int .i64 total5), (48, .int .i64 t48), (49, .int .i64 ((IntKind.wrap .i64 (t49 + (1 : Int)))))]) := by kernel_rfl
@[go_sem] theorem c90_r20 (total5 : Int) (K : Env → W) : RP c90 20 [(5, .int .i64 total5)] K =
    (K [(2, .bool ((decide (total5 ≤ (220 : Int)))))]) := by kernel_rfl
@[go_sem] theorem c90_o : c90.lo 1000000 = [2] := rfl
@[go_sem] theorem c90_e (t2 : Bool) (k : Value → W) : RTp c90 [(2, .bool t2)] k = (k (.bool t2)) := by kernel_rfl
theorem c90_ok : (c90.P.follows .mixedOrders && okc c90 c90.body) = true := by kernel_rfl
theorem c90_fn {e : Enc} {args : Array Value} {G : e.α → W} {L : List HP} {ρ : Env} (hρ : envA 0 args.toList = ρ) (hs : Nat.ble args.size 114 = true) (h : E L (D c90 (.seq (.reg 0) (.seq (.reg 1) (.seq (.seq (.reg 2) (.cond (.tmp 47) (.seq (.reg 3) (.ret)) (.skip))) (.seq (.reg 4) (.seq (.seq (.reg 5) (.block 0 (.loop (.seq (.reg 6) (.seq (.cond (.tmp 50) (.skip) (.exit 0)) (.seq (.block 1 (.seq (.reg 7) (.seq (.reg 8) (.seq (.seq (.reg 9) (.cond (.tmp 63) (.seq (.reg 10) (.ret)) (.skip))) (.seq (.reg 11) (.seq (.seq (.reg 12) (.cond (.tmp 93) (.seq (.reg 13) (.ret)) (.skip))) (.seq (.reg 14) (.seq (.seq (.reg 15) (.cond (.tmp 104) (.seq (.reg 16) (.ret)) (.skip))) (.seq (.reg 17) (.reg 18)))))))))) (.reg 19))))))) (.seq (.reg 20) (.ret))))))) (fnQ c90 e G) ρ)) : E L (cal e Try.prog 90 args G) :=
  d_fn (c := c90) Try.func90 (by kernel_rfl) (by kernel_rfl) (by kernel_rfl) c90_ok (by kernel_rfl) (by kernel_rfl) hρ hs h
-- loop (first region 6): live slots 0:m0 4:last4 5:total5 48:t48 49:t49, of which it writes [4, 5, 49]
/-! (*gharry.page.image).heap -/
noncomputable def c91 : Cfg := { P := Try.prog, n := 8, T := TT, body := (Try.f91.body).getD .skip, res := Try.f91.results.toList, li := lk [] [(0, [0]), (1, [0])], lo := lk [] [(0, [0]), (1, [2]), (1000000, [2])], ord := lk (false, []) [] }
@[go_sem] theorem c91_i0 : c91.li 0 = [0] := rfl
@[go_sem] theorem c91_i1 : c91.li 1 = [0] := rfl
@[go_sem] theorem c91_r0 (m0 : Option Addr) (K : Env → W) : RP c91 0 [(0, .pointer m0)] K =
    (K [(0, .pointer m0)]) := by kernel_rfl
@[go_sem] theorem c91_r1 (m0 : Option Addr) (K : Env → W) : RP c91 1 [(0, .pointer m0)] K =
    (nn m0 fun y1_ => (rq (0 ≤ (3 : Int) ∧ (3 : Int) < ((224 : Nat) : Int)) (ld eU8 ((Addr.add y1_ 3)) fun (y2_ : Int) => (K [(2, .int .i64 ((IntKind.wrap .i64 y2_)))])))) := by kernel_rfl
@[go_sem] theorem c91_o : c91.lo 1000000 = [2] := rfl
@[go_sem] theorem c91_e (t2 : Int) (k : Value → W) : RTp c91 [(2, .int .i64 t2)] k = (k (.int .i64 t2)) := by kernel_rfl
theorem c91_ok : (c91.P.follows .mixedOrders && okc c91 c91.body) = true := by kernel_rfl
theorem c91_fn {e : Enc} {args : Array Value} {G : e.α → W} {L : List HP} {ρ : Env} (hρ : envA 0 args.toList = ρ) (hs : Nat.ble args.size 8 = true) (h : E L (D c91 (.seq (.reg 0) (.seq (.reg 1) (.ret))) (fnQ c91 e G) ρ)) : E L (cal e Try.prog 91 args G) :=
  d_fn (c := c91) Try.func91 (by kernel_rfl) (by kernel_rfl) (by kernel_rfl) c91_ok (by kernel_rfl) (by kernel_rfl) hρ hs h
/-! (*gharry.page.image).pack -/
noncomputable def c92 : Cfg := { P := Try.prog, n := 34, T := TT, body := (Try.f92.body).getD .skip, res := Try.f92.results.toList, li := lk [] [(0, [0]), (1, [0, 2]), (2, [0, 2]), (3, [0, 22, 23, 24]), (4, [0, 22, 23, 24]), (5, [0, 3, 4, 22, 23, 24]), (6, [0, 22, 23, 24])], lo := lk [] [(0, [0, 2]), (1, [0, 2]), (2, [0, 22, 23, 24]), (3, [0, 22, 23, 24, 25]), (4, [0, 3, 4, 22, 23, 24]), (5, [0, 22, 23, 24]), (6, [0, 22, 23, 24]), (1000000, [])], ord := lk (false, []) [(1, (true, [(0, 1), (1, 1), (2, 1), (3, 1), (4, 0), (5, 1), (6, 1), (7, 1), (8, 1), (9, 0), (10, 1), (11, 3), (12, 1), (13, 0), (14, 1), (15, 4)]))] }
@[go_sem] theorem c92_i0 : c92.li 0 = [0] := rfl
@[go_sem] theorem c92_i1 : c92.li 1 = [0, 2] := rfl
@[go_sem] theorem c92_i2 : c92.li 2 = [0, 2] := rfl
@[go_sem] theorem c92_i3 : c92.li 3 = [0, 22, 23, 24] := rfl
@[go_sem] theorem c92_i4 : c92.li 4 = [0, 22, 23, 24] := rfl
@[go_sem] theorem c92_i5 : c92.li 5 = [0, 3, 4, 22, 23, 24] := rfl
@[go_sem] theorem c92_i6 : c92.li 6 = [0, 22, 23, 24] := rfl
@[go_sem] theorem c92_r0 (m0 : Option Addr) (K : Env → W) : RP c92 0 [(0, .pointer m0)] K =
    (cal eSl Try.prog 82 #[.pointer m0] fun (y1_ : (Option Addr × Nat × Nat)) => (K [(0, .pointer m0), (2, .slice y1_.1 y1_.2.1 y1_.2.2)])) := by kernel_rfl
@[go_sem] theorem c92_r1 (m0 : Option Addr) (l2p : Option Addr) (l2n l2c : Nat) (K : Env → W) : RP c92 1 [(0, .pointer m0), (2, .slice l2p l2n l2c)] K =
    (ph fun S0 => (nn m0 fun y1_ => (rq (0 ≤ (0 : Int) ∧ (0 : Int) < ((224 : Nat) : Int)) (ldq S0 eU8 ((Addr.add y1_ 0)) fun (y2_ : Int) => (nn m0 fun y3_ => (rq (0 ≤ (1 : Int) ∧ (1 : Int) < ((224 : Nat) : Int)) (ldq S0 eU8 ((Addr.add y3_ 1)) fun (y4_ : Int) => (cal eP Try.prog 79 #[.int .i64 ((IntKind.wrap .i64 y2_)), .int .i64 ((IntKind.wrap .i64 y4_))] fun (y5_ : Option Addr) => (ph fun S1 => (nn y5_ fun y6_ => (ldnq S1 (eA eU8) 224 y6_ fun (y7_ : List (Int)) => (nn m0 fun y8_ => (if (List.toArray ((y7_).map eU8.enc)).size = 224 then (stl ((y7_).map eU8.enc) y8_ 0 (K [(0, .pointer m0), (2, .slice l2p l2n l2c)])) else ff))))))))))))) := by kernel_rfl
@[go_sem] theorem c92_r2 (m0 : Option Addr) (l2p : Option Addr) (l2n l2c : Nat) (K : Env → W) : RP c92 2 [(0, .pointer m0), (2, .slice l2p l2n l2c)] K =
    (K [(0, .pointer m0), (22, .slice l2p l2n l2c), (23, .int .i64 ((l2n : Int))), (24, .int .i64 ((0 : Int)))]) := by kernel_rfl
@[go_sem] theorem c92_r3 (m0 : Option Addr) (t22p : Option Addr) (t22n t22c : Nat) (t23 : Int) (t24 : Int) (K : Env → W) : RP c92 3 [(0, .pointer m0), (22, .slice t22p t22n t22c), (23, .int .i64 t23), (24, .int .i64 t24)] K =
    (K [(0, .pointer m0), (22, .slice t22p t22n t22c), (23, .int .i64 t23), (24, .int .i64 t24), (25, .bool ((decide (t24 < t23))))]) := by kernel_rfl
@[go_sem] theorem c92_r4 (m0 : Option Addr) (t22p : Option Addr) (t22n t22c : Nat) (t23 : Int) (t24 : Int) (K : Env → W) : RP c92 4 [(0, .pointer m0), (22, .slice t22p t22n t22c), (23, .int .i64 t23), (24, .int .i64 t24)] K =
    (rq (0 ≤ t24 ∧ t24 < (t22n : Int)) (nn t22p fun y1_ => (ldn e_api_Cell 2 ((Addr.add y1_ ((t24).toNat * 2))) fun (y2_ : api_Cell) => (nwc #[str (([] : List UInt8)), str (([] : List UInt8))] 55 fun y3_ => (stl [str y2_.Key, str y2_.Val] y3_ 0 (K [(0, .pointer m0), (3, .int .i64 t24), (4, .pointer (some y3_)), (22, .slice t22p t22n t22c), (23, .int .i64 t23), (24, .int .i64 t24)])))))) := by kernel_rfl
@[go_sem] theorem c92_r5 (m0 : Option Addr) (i3 : Int) (c4 : Addr) (t22p : Option Addr) (t22n t22c : Nat) (t23 : Int) (t24 : Int) (K : Env → W) : RP c92 5 [(0, .pointer m0), (3, .int .i64 i3), (4, .pointer (some c4)), (22, .slice t22p t22n t22c), (23, .int .i64 t23), (24, .int .i64 t24)] K =
    (ldn e_api_Cell 2 c4 fun (y1_ : api_Cell) => (cal eN Try.prog 93 #[.pointer m0, .int .i64 i3, v_api_Cell y1_] fun (y2_ : Unit) => (K [(0, .pointer m0), (22, .slice t22p t22n t22c), (23, .int .i64 t23), (24, .int .i64 t24)]))) := by kernel_rfl
@[go_sem] theorem c92_r6 (m0 : Option Addr) (t22p : Option Addr) (t22n t22c : Nat) (t23 : Int) (t24 : Int) (K : Env → W) : RP c92 6 [(0, .pointer m0), (22, .slice t22p t22n t22c), (23, .int .i64 t23), (24, .int .i64 t24)] K =
    (K [(0, .pointer m0), (22, .slice t22p t22n t22c), (23, .int .i64 t23), (24, .int .i64 ((IntKind.wrap .i64 (t24 + (1 : Int)))))]) := by kernel_rfl
@[go_sem] theorem c92_o : c92.lo 1000000 = [] := rfl
@[go_sem] theorem c92_e (k : Value → W) : RTp c92 [] k = (k (.tuple #[])) := by kernel_rfl
theorem c92_ok : (c92.P.follows .mixedOrders && okc c92 c92.body) = true := by kernel_rfl
theorem c92_fn {e : Enc} {args : Array Value} {G : e.α → W} {L : List HP} {ρ : Env} (hρ : envA 0 args.toList = ρ) (hs : Nat.ble args.size 34 = true) (h : E L (D c92 (.seq (.reg 0) (.seq (.reg 1) (.seq (.reg 2) (.block 0 (.loop (.seq (.reg 3) (.seq (.cond (.tmp 25) (.skip) (.exit 0)) (.seq (.block 1 (.seq (.reg 4) (.reg 5))) (.reg 6))))))))) (fnQ c92 e G) ρ)) : E L (cal e Try.prog 92 args G) :=
  d_fn (c := c92) Try.func92 (by kernel_rfl) (by kernel_rfl) (by kernel_rfl) c92_ok (by kernel_rfl) (by kernel_rfl) hρ hs h
-- loop (first region 3): live slots 0:m0 22:t22 23:t23 24:t24, of which it writes [24]
/-! (*gharry.page.image).lay -/
noncomputable def c93 : Cfg := { P := Try.prog, n := 94, T := TT, body := (Try.f93.body).getD .skip, res := Try.f93.results.toList, li := lk [] [(0, [0, 1, 2]), (1, [0, 1, 5]), (2, [0, 1, 5, 6]), (3, [0, 1, 5, 6]), (4, [0, 1, 5, 6]), (5, [0, 1, 5, 6]), (6, [0, 1, 5, 6, 7]), (7, [0, 1, 5, 6, 7, 8]), (8, [0, 1, 5, 6, 7, 8]), (9, [0, 1, 5, 6, 7, 8]), (10, [0, 1, 5, 6, 7]), (11, [0, 5, 6, 7])], lo := lk [] [(0, [0, 1, 5]), (1, [0, 1, 5, 6]), (2, [0, 1, 5, 6]), (3, [0, 1, 5, 6]), (4, [0, 1, 5, 6]), (5, [0, 1, 5, 6, 7]), (6, [0, 1, 5, 6, 7, 8]), (7, [0, 1, 5, 6, 7, 8, 53]), (8, [0, 1, 5, 6, 7, 8]), (9, [0, 1, 5, 6, 7, 8]), (10, [0, 5, 6, 7]), (11, []), (1000000, [])], ord := lk (false, []) [(2, (true, [(0, 1), (1, 1), (2, 1), (3, 1), (4, 1), (5, 1), (6, 0), (7, 1), (8, 1), (9, 1), (10, 0), (11, 1), (12, 1), (13, 1), (14, 1), (16, 1), (15, 2), (17, 1), (18, 4)])), (3, (true, [(0, 1), (1, 1), (2, 1), (3, 1), (4, 1), (5, 1), (6, 0), (7, 4)])), (4, (true, [(0, 1), (1, 1), (2, 1), (3, 1), (4, 1), (5, 0), (6, 1), (7, 1), (8, 1), (9, 1), (10, 0), (11, 4)])), (9, (true, [(0, 1), (1, 1), (2, 1), (3, 1), (4, 1), (5, 1), (6, 1), (7, 1), (8, 0), (9, 1), (10, 1), (11, 4)])), (11, (true, [(0, 1), (1, 1), (2, 1), (3, 1), (4, 1), (5, 1), (6, 1), (7, 1), (8, 0), (9, 1), (10, 1), (11, 1), (12, 0), (13, 1), (14, 1), (15, 1), (16, 1), (17, 1), (19, 1), (18, 2), (20, 1), (21, 4)]))] }
@[go_sem] theorem c93_i0 : c93.li 0 = [0, 1, 2] := rfl
@[go_sem] theorem c93_i1 : c93.li 1 = [0, 1, 5] := rfl
@[go_sem] theorem c93_i2 : c93.li 2 = [0, 1, 5, 6] := rfl
@[go_sem] theorem c93_i3 : c93.li 3 = [0, 1, 5, 6] := rfl
@[go_sem] theorem c93_i4 : c93.li 4 = [0, 1, 5, 6] := rfl
@[go_sem] theorem c93_i5 : c93.li 5 = [0, 1, 5, 6] := rfl
@[go_sem] theorem c93_i6 : c93.li 6 = [0, 1, 5, 6, 7] := rfl
@[go_sem] theorem c93_i7 : c93.li 7 = [0, 1, 5, 6, 7, 8] := rfl
@[go_sem] theorem c93_i8 : c93.li 8 = [0, 1, 5, 6, 7, 8] := rfl
@[go_sem] theorem c93_i9 : c93.li 9 = [0, 1, 5, 6, 7, 8] := rfl
@[go_sem] theorem c93_i10 : c93.li 10 = [0, 1, 5, 6, 7] := rfl
@[go_sem] theorem c93_i11 : c93.li 11 = [0, 5, 6, 7] := rfl
@[go_sem] theorem c93_r0 (m0 : Option Addr) (i1 : Int) (c2 : api_Cell) (K : Env → W) : RP c93 0 [(0, .pointer m0), (1, .int .i64 i1), (2, v_api_Cell c2)] K =
    (nwc #[str c2.Key, str c2.Val] 55 fun y1_ => (K [(0, .pointer m0), (1, .int .i64 i1), (5, .pointer (some y1_))])) := by kernel_rfl
@[go_sem] theorem c93_r1 (m0 : Option Addr) (i1 : Int) (c5 : Addr) (K : Env → W) : RP c93 1 [(0, .pointer m0), (1, .int .i64 i1), (5, .pointer (some c5))] K =
    (cal eI Try.prog 91 #[.pointer m0] fun (y1_ : Int) => (K [(0, .pointer m0), (1, .int .i64 i1), (5, .pointer (some c5)), (6, .int .i64 y1_)])) := by kernel_rfl
@[go_sem] theorem c93_r2 (m0 : Option Addr) (i1 : Int) (c5 : Addr) (at6 : Int) (K : Env → W) : RP c93 2 [(0, .pointer m0), (1, .int .i64 i1), (5, .pointer (some c5)), (6, .int .i64 at6)] K =
    (ph fun S0 => (ldq S0 eS c5 fun (y1_ : List UInt8) => (ldq S0 eS ((c5.add 1)) fun (y2_ : List UInt8) => (nn m0 fun y3_ => (rq (0 ≤ at6 ∧ at6 < ((224 : Nat) : Int)) (nn m0 fun y4_ => (st ((Addr.add y3_ ((at6).toNat * 1))) (.int .u8 ((IntKind.wrap .u8 (((y1_).length : Int))))) (kpn S0 fun S1 => (rq (0 ≤ (IntKind.wrap .i64 (at6 + (1 : Int))) ∧ (IntKind.wrap .i64 (at6 + (1 : Int))) < ((224 : Nat) : Int)) (st ((Addr.add y4_ (((IntKind.wrap .i64 (at6 + (1 : Int)))).toNat * 1))) (.int .u8 ((IntKind.wrap .u8 (((y2_).length : Int))))) (K [(0, .pointer m0), (1, .int .i64 i1), (5, .pointer (some c5)), (6, .int .i64 at6)]))))))))))) := by kernel_rfl
@[go_sem] theorem c93_r3 (m0 : Option Addr) (i1 : Int) (c5 : Addr) (at6 : Int) (K : Env → W) : RP c93 3 [(0, .pointer m0), (1, .int .i64 i1), (5, .pointer (some c5)), (6, .int .i64 at6)] K =
    (ph fun S0 => (nn m0 fun y1_ => (rq (0 ≤ ((IntKind.wrap .i64 (at6 + (2 : Int))) : Int) ∧ (IntKind.wrap .i64 (at6 + (2 : Int))) ≤ ((224 : Nat) : Int) ∧ ((224 : Nat) : Int) ≤ ((224 : Nat) : Int)) (ldq S0 eS c5 fun (y2_ : List UInt8) => (val eI Try.prog (oB_copy #[103, 9] 3 #[.slice ((slp (some y1_) ((IntKind.wrap .i64 (at6 + (2 : Int)))) ((224 : Nat) : Int) 1)) (((((224 : Nat) : Int)).toNat - ((IntKind.wrap .i64 (at6 + (2 : Int))) : Int).toNat)) (((((224 : Nat) : Int)).toNat - ((IntKind.wrap .i64 (at6 + (2 : Int))) : Int).toNat)), str y2_]) fun (y3_ : Int) => (K [(0, .pointer m0), (1, .int .i64 i1), (5, .pointer (some c5)), (6, .int .i64 at6)])))))) := by kernel_rfl
@[go_sem] theorem c93_r4 (m0 : Option Addr) (i1 : Int) (c5 : Addr) (at6 : Int) (K : Env → W) : RP c93 4 [(0, .pointer m0), (1, .int .i64 i1), (5, .pointer (some c5)), (6, .int .i64 at6)] K =
    (ph fun S0 => (nn m0 fun y1_ => (ldq S0 eS c5 fun (y2_ : List UInt8) => (rq (0 ≤ ((IntKind.wrap .i64 ((IntKind.wrap .i64 (at6 + (2 : Int))) + ((y2_).length : Int))) : Int) ∧ (IntKind.wrap .i64 ((IntKind.wrap .i64 (at6 + (2 : Int))) + ((y2_).length : Int))) ≤ ((224 : Nat) : Int) ∧ ((224 : Nat) : Int) ≤ ((224 : Nat) : Int)) (ldq S0 eS ((c5.add 1)) fun (y3_ : List UInt8) => (val eI Try.prog (oB_copy #[103, 9] 3 #[.slice ((slp (some y1_) ((IntKind.wrap .i64 ((IntKind.wrap .i64 (at6 + (2 : Int))) + ((y2_).length : Int)))) ((224 : Nat) : Int) 1)) (((((224 : Nat) : Int)).toNat - ((IntKind.wrap .i64 ((IntKind.wrap .i64 (at6 + (2 : Int))) + ((y2_).length : Int))) : Int).toNat)) (((((224 : Nat) : Int)).toNat - ((IntKind.wrap .i64 ((IntKind.wrap .i64 (at6 + (2 : Int))) + ((y2_).length : Int))) : Int).toNat)), str y3_]) fun (y4_ : Int) => (K [(0, .pointer m0), (1, .int .i64 i1), (5, .pointer (some c5)), (6, .int .i64 at6)]))))))) := by kernel_rfl
@[go_sem] theorem c93_r5 (m0 : Option Addr) (i1 : Int) (c5 : Addr) (at6 : Int) (K : Env → W) : RP c93 5 [(0, .pointer m0), (1, .int .i64 i1), (5, .pointer (some c5)), (6, .int .i64 at6)] K =
    (cal eI Try.prog 81 #[.pointer m0] fun (y1_ : Int) => (K [(0, .pointer m0), (1, .int .i64 i1), (5, .pointer (some c5)), (6, .int .i64 at6), (7, .int .i64 y1_)])) := by kernel_rfl
@[go_sem] theorem c93_r6 (m0 : Option Addr) (i1 : Int) (c5 : Addr) (at6 : Int) (n7 : Int) (K : Env → W) : RP c93 6 [(0, .pointer m0), (1, .int .i64 i1), (5, .pointer (some c5)), (6, .int .i64 at6), (7, .int .i64 n7)] K =
    (K [(0, .pointer m0), (1, .int .i64 i1), (5, .pointer (some c5)), (6, .int .i64 at6), (7, .int .i64 n7), (8, .int .i64 n7)]) := by kernel_rfl
@[go_sem] theorem c93_r7 (m0 : Option Addr) (i1 : Int) (c5 : Addr) (at6 : Int) (n7 : Int) (k8 : Int) (K : Env → W) : RP c93 7 [(0, .pointer m0), (1, .int .i64 i1), (5, .pointer (some c5)), (6, .int .i64 at6), (7, .int .i64 n7), (8, .int .i64 k8)] K =
    (K [(0, .pointer m0), (1, .int .i64 i1), (5, .pointer (some c5)), (6, .int .i64 at6), (7, .int .i64 n7), (8, .int .i64 k8), (53, .bool ((decide (i1 < k8))))]) := by kernel_rfl
@[go_sem] theorem c93_r8 (m0 : Option Addr) (i1 : Int) (c5 : Addr) (at6 : Int) (n7 : Int) (k8 : Int) (K : Env → W) : RP c93 8 [(0, .pointer m0), (1, .int .i64 i1), (5, .pointer (some c5)), (6, .int .i64 at6), (7, .int .i64 n7), (8, .int .i64 k8)] K =
    (K [(0, .pointer m0), (1, .int .i64 i1), (5, .pointer (some c5)), (6, .int .i64 at6), (7, .int .i64 n7), (8, .int .i64 ((IntKind.wrap .i64 (k8 - (1 : Int)))))]) := by kernel_rfl
@[go_sem] theorem c93_r9 (m0 : Option Addr) (i1 : Int) (c5 : Addr) (at6 : Int) (n7 : Int) (k8 : Int) (K : Env → W) : RP c93 9 [(0, .pointer m0), (1, .int .i64 i1), (5, .pointer (some c5)), (6, .int .i64 at6), (7, .int .i64 n7), (8, .int .i64 k8)] K =
    (ph fun S0 => (nn m0 fun y1_ => (rq (0 ≤ (IntKind.wrap .i64 ((224 : Int) - k8)) ∧ (IntKind.wrap .i64 ((224 : Int) - k8)) < ((224 : Nat) : Int)) (ldq S0 eU8 ((Addr.add y1_ (((IntKind.wrap .i64 ((224 : Int) - k8))).toNat * 1))) fun (y2_ : Int) => (nn m0 fun y3_ => (rq (0 ≤ (IntKind.wrap .i64 ((223 : Int) - k8)) ∧ (IntKind.wrap .i64 ((223 : Int) - k8)) < ((224 : Nat) : Int)) (st ((Addr.add y3_ (((IntKind.wrap .i64 ((223 : Int) - k8))).toNat * 1))) (.int .u8 y2_) (K [(0, .pointer m0), (1, .int .i64 i1), (5, .pointer (some c5)), (6, .int .i64 at6), (7, .int .i64 n7), (8, .int .i64 k8)])))))))) := by kernel_rfl
@[go_sem] theorem c93_r10 (m0 : Option Addr) (i1 : Int) (c5 : Addr) (at6 : Int) (n7 : Int) (K : Env → W) : RP c93 10 [(0, .pointer m0), (1, .int .i64 i1), (5, .pointer (some c5)), (6, .int .i64 at6), (7, .int .i64 n7)] K =
    (nn m0 fun y1_ => (rq (0 ≤ (IntKind.wrap .i64 ((223 : Int) - i1)) ∧ (IntKind.wrap .i64 ((223 : Int) - i1)) < ((224 : Nat) : Int)) (st ((Addr.add y1_ (((IntKind.wrap .i64 ((223 : Int) - i1))).toNat * 1))) (.int .u8 ((IntKind.wrap .u8 at6))) (K [(0, .pointer m0), (5, .pointer (some c5)), (6, .int .i64 at6), (7, .int .i64 n7)])))) := by kernel_rfl
@[go_sem] theorem c93_r11 (m0 : Option Addr) (c5 : Addr) (at6 : Int) (n7 : Int) (K : Env → W) : RP c93 11 [(0, .pointer m0), (5, .pointer (some c5)), (6, .int .i64 at6), (7, .int .i64 n7)] K =
    (ph fun S0 => (ldq S0 eS c5 fun (y1_ : List UInt8) => (ldq S0 eS ((c5.add 1)) fun (y2_ : List UInt8) => (nn m0 fun y3_ => (rq (0 ≤ (2 : Int) ∧ (2 : Int) < ((224 : Nat) : Int)) (nn m0 fun y4_ => (st ((Addr.add y3_ 2)) (.int .u8 ((IntKind.wrap .u8 ((IntKind.wrap .i64 (n7 + (1 : Int))))))) (kpn S0 fun S1 => (rq (0 ≤ (3 : Int) ∧ (3 : Int) < ((224 : Nat) : Int)) (st ((Addr.add y4_ 3)) (.int .u8 ((IntKind.wrap .u8 ((IntKind.wrap .i64 ((IntKind.wrap .i64 ((IntKind.wrap .i64 (at6 + (2 : Int))) + ((y1_).length : Int))) + ((y2_).length : Int))))))) (K []))))))))))) := by kernel_rfl
@[go_sem] theorem c93_o : c93.lo 1000000 = [] := rfl
@[go_sem] theorem c93_e (k : Value → W) : RTp c93 [] k = (k (.tuple #[])) := by kernel_rfl
theorem c93_ok : (c93.P.follows .mixedOrders && okc c93 c93.body) = true := by kernel_rfl
theorem c93_fn {e : Enc} {args : Array Value} {G : e.α → W} {L : List HP} {ρ : Env} (hρ : envA 0 args.toList = ρ) (hs : Nat.ble args.size 94 = true) (h : E L (D c93 (.seq (.reg 0) (.seq (.reg 1) (.seq (.reg 2) (.seq (.reg 3) (.seq (.reg 4) (.seq (.reg 5) (.seq (.seq (.reg 6) (.block 0 (.loop (.seq (.seq (.reg 7) (.cond (.tmp 53) (.skip) (.exit 0))) (.seq (.block 1 (.reg 9)) (.reg 8)))))) (.seq (.reg 10) (.reg 11))))))))) (fnQ c93 e G) ρ)) : E L (cal e Try.prog 93 args G) :=
  d_fn (c := c93) Try.func93 (by kernel_rfl) (by kernel_rfl) (by kernel_rfl) c93_ok (by kernel_rfl) (by kernel_rfl) hρ hs h
-- loop (first region 7): live slots 0:m0 1:i1 5:c5 6:at6 7:n7 8:k8, of which it writes [8]
/-! slices.BinarySearchFunc[[]gharry.api.Cell,gharry.api.Cell,string] -/
noncomputable def c94 : Cfg := { P := Try.prog, n := 49, T := TT, body := (Try.f94.body).getD .skip, res := Try.f94.results.toList, li := lk [] [(0, [0, 1, 2]), (1, [0, 1, 2]), (2, [0, 1, 2, 8]), (3, [0, 1, 2, 8, 9, 10]), (4, [0, 1, 2, 8, 9, 10]), (5, [0, 1, 2, 8, 9, 10, 11]), (6, [0, 1, 2, 8, 10, 11]), (7, [0, 1, 2, 8, 9, 11]), (8, [0, 1, 2, 8, 9])], lo := lk [] [(0, [0, 1, 2]), (1, [0, 1, 2, 8]), (2, [0, 1, 2, 8, 9, 10]), (3, [0, 1, 2, 8, 9, 10, 17]), (4, [0, 1, 2, 8, 9, 10, 11]), (5, [0, 1, 2, 8, 9, 10, 11, 31]), (6, [0, 1, 2, 8, 9, 10]), (7, [0, 1, 2, 8, 9, 10]), (8, [6, 7]), (1000000, [6, 7])], ord := lk (false, []) [] }
@[go_sem] theorem c94_i0 : c94.li 0 = [0, 1, 2] := rfl
@[go_sem] theorem c94_i1 : c94.li 1 = [0, 1, 2] := rfl
@[go_sem] theorem c94_i2 : c94.li 2 = [0, 1, 2, 8] := rfl
@[go_sem] theorem c94_i3 : c94.li 3 = [0, 1, 2, 8, 9, 10] := rfl
@[go_sem] theorem c94_i4 : c94.li 4 = [0, 1, 2, 8, 9, 10] := rfl
@[go_sem] theorem c94_i5 : c94.li 5 = [0, 1, 2, 8, 9, 10, 11] := rfl
@[go_sem] theorem c94_i6 : c94.li 6 = [0, 1, 2, 8, 10, 11] := rfl
@[go_sem] theorem c94_i7 : c94.li 7 = [0, 1, 2, 8, 9, 11] := rfl
@[go_sem] theorem c94_i8 : c94.li 8 = [0, 1, 2, 8, 9] := rfl
@[go_sem] theorem c94_r0 (x0p : Option Addr) (x0n x0c : Nat) (target1 : List UInt8) (cmp2f : Nat) (cmp2c : Array Value) (K : Env → W) : RP c94 0 [(0, .slice x0p x0n x0c), (1, str target1), (2, .func (.func cmp2f) #[] cmp2c)] K =
    (K [(0, .slice x0p x0n x0c), (1, str target1), (2, .func (.func cmp2f) #[] cmp2c)]) := by kernel_rfl
@[go_sem] theorem c94_r1 (x0p : Option Addr) (x0n x0c : Nat) (target1 : List UInt8) (cmp2f : Nat) (cmp2c : Array Value) (K : Env → W) : RP c94 1 [(0, .slice x0p x0n x0c), (1, str target1), (2, .func (.func cmp2f) #[] cmp2c)] K =
    (K [(0, .slice x0p x0n x0c), (1, str target1), (2, .func (.func cmp2f) #[] cmp2c), (8, .int .i64 ((x0n : Int)))]) := by kernel_rfl
@[go_sem] theorem c94_r2 (x0p : Option Addr) (x0n x0c : Nat) (target1 : List UInt8) (cmp2f : Nat) (cmp2c : Array Value) (n8 : Int) (K : Env → W) : RP c94 2 [(0, .slice x0p x0n x0c), (1, str target1), (2, .func (.func cmp2f) #[] cmp2c), (8, .int .i64 n8)] K =
    (K [(0, .slice x0p x0n x0c), (1, str target1), (2, .func (.func cmp2f) #[] cmp2c), (8, .int .i64 n8), (9, .int .i64 ((0 : Int))), (10, .int .i64 n8)]) := by kernel_rfl
@[go_sem] theorem c94_r3 (x0p : Option Addr) (x0n x0c : Nat) (target1 : List UInt8) (cmp2f : Nat) (cmp2c : Array Value) (n8 : Int) (i9 : Int) (j10 : Int) (K : Env → W) : RP c94 3 [(0, .slice x0p x0n x0c), (1, str target1), (2, .func (.func cmp2f) #[] cmp2c), (8, .int .i64 n8), (9, .int .i64 i9), (10, .int .i64 j10)] K =
    (K [(0, .slice x0p x0n x0c), (1, str target1), (2, .func (.func cmp2f) #[] cmp2c), (8, .int .i64 n8), (9, .int .i64 i9), (10, .int .i64 j10), (17, .bool ((decide (i9 < j10))))]) := by kernel_rfl
@[go_sem] theorem c94_r4 (x0p : Option Addr) (x0n x0c : Nat) (target1 : List UInt8) (cmp2f : Nat) (cmp2c : Array Value) (n8 : Int) (i9 : Int) (j10 : Int) (K : Env → W) : RP c94 4 [(0, .slice x0p x0n x0c), (1, str target1), (2, .func (.func cmp2f) #[] cmp2c), (8, .int .i64 n8), (9, .int .i64 i9), (10, .int .i64 j10)] K =
    (rq (0 ≤ (1 : Int)) (K [(0, .slice x0p x0n x0c), (1, str target1), (2, .func (.func cmp2f) #[] cmp2c), (8, .int .i64 n8), (9, .int .i64 i9), (10, .int .i64 j10), (11, .int .i64 ((IntKind.wrap .i64 ((((IntKind.wrap .u64 ((IntKind.wrap .i64 (i9 + j10))))).fdiv (2 ^ (min ((1 : Int)).toNat 64)))))))])) := by kernel_rfl
@[go_sem] theorem c94_r5 (x0p : Option Addr) (x0n x0c : Nat) (target1 : List UInt8) (cmp2f : Nat) (cmp2c : Array Value) (n8 : Int) (i9 : Int) (j10 : Int) (h11 : Int) (K : Env → W) : RP c94 5 [(0, .slice x0p x0n x0c), (1, str target1), (2, .func (.func cmp2f) #[] cmp2c), (8, .int .i64 n8), (9, .int .i64 i9), (10, .int .i64 j10), (11, .int .i64 h11)] K =
    (rq (0 ≤ h11 ∧ h11 < (x0n : Int)) (nn x0p fun y1_ => (ldn e_api_Cell 2 ((Addr.add y1_ ((h11).toNat * 2))) fun (y2_ : api_Cell) => (ent Try.prog cmp2f (cal eI Try.prog cmp2f (#[v_api_Cell y2_, str target1] ++ cmp2c) fun (y3_ : Int) => (K [(0, .slice x0p x0n x0c), (1, str target1), (2, .func (.func cmp2f) #[] cmp2c), (8, .int .i64 n8), (9, .int .i64 i9), (10, .int .i64 j10), (11, .int .i64 h11), (31, .bool ((decide (y3_ < (0 : Int)))))])))))) := by kernel_rfl
@[go_sem] theorem c94_r6 (x0p : Option Addr) (x0n x0c : Nat) (target1 : List UInt8) (cmp2f : Nat) (cmp2c : Array Value) (n8 : Int) (j10 : Int) (h11 : Int) (K : Env → W) : RP c94 6 [(0, .slice x0p x0n x0c), (1, str target1), (2, .func (.func cmp2f) #[] cmp2c), (8, .int .i64 n8), (10, .int .i64 j10), (11, .int .i64 h11)] K =
    (K [(0, .slice x0p x0n x0c), (1, str target1), (2, .func (.func cmp2f) #[] cmp2c), (8, .int .i64 n8), (9, .int .i64 ((IntKind.wrap .i64 (h11 + (1 : Int))))), (10, .int .i64 j10)]) := by kernel_rfl
@[go_sem] theorem c94_r7 (x0p : Option Addr) (x0n x0c : Nat) (target1 : List UInt8) (cmp2f : Nat) (cmp2c : Array Value) (n8 : Int) (i9 : Int) (h11 : Int) (K : Env → W) : RP c94 7 [(0, .slice x0p x0n x0c), (1, str target1), (2, .func (.func cmp2f) #[] cmp2c), (8, .int .i64 n8), (9, .int .i64 i9), (11, .int .i64 h11)] K =
    (K [(0, .slice x0p x0n x0c), (1, str target1), (2, .func (.func cmp2f) #[] cmp2c), (8, .int .i64 n8), (9, .int .i64 i9), (10, .int .i64 h11)]) := by kernel_rfl
@[go_sem] theorem c94_r8 (x0p : Option Addr) (x0n x0c : Nat) (target1 : List UInt8) (cmp2f : Nat) (cmp2c : Array Value) (n8 : Int) (i9 : Int) (K : Env → W) : RP c94 8 [(0, .slice x0p x0n x0c), (1, str target1), (2, .func (.func cmp2f) #[] cmp2c), (8, .int .i64 n8), (9, .int .i64 i9)] K =
    (cnd ((decide (i9 < n8))) (rq (0 ≤ i9 ∧ i9 < (x0n : Int)) (nn x0p fun y1_ => (ldn e_api_Cell 2 ((Addr.add y1_ ((i9).toNat * 2))) fun (y2_ : api_Cell) => (ent Try.prog cmp2f (cal eI Try.prog cmp2f (#[v_api_Cell y2_, str target1] ++ cmp2c) fun (y3_ : Int) => (K [(6, .int .i64 i9), (7, .bool ((y3_ == (0 : Int))))])))))) (K [(6, .int .i64 i9), (7, .bool false)])) := by kernel_rfl
@[go_sem] theorem c94_o : c94.lo 1000000 = [6, 7] := rfl
@[go_sem] theorem c94_e (t6 : Int) (t7 : Bool) (k : Value → W) : RTp c94 [(6, .int .i64 t6), (7, .bool t7)] k = (k (.tuple #[.int .i64 t6, .bool t7])) := by kernel_rfl
theorem c94_ok : (c94.P.follows .mixedOrders && okc c94 c94.body) = true := by kernel_rfl
theorem c94_fn {e : Enc} {args : Array Value} {G : e.α → W} {L : List HP} {ρ : Env} (hρ : envA 0 args.toList = ρ) (hs : Nat.ble args.size 49 = true) (h : E L (D c94 (.seq (.reg 0) (.seq (.reg 1) (.seq (.reg 2) (.seq (.block 0 (.loop (.seq (.seq (.reg 3) (.cond (.tmp 17) (.skip) (.exit 0))) (.block 1 (.seq (.reg 4) (.seq (.reg 5) (.cond (.tmp 31) (.reg 6) (.reg 7)))))))) (.seq (.reg 8) (.ret)))))) (fnQ c94 e G) ρ)) : E L (cal e Try.prog 94 args G) :=
  d_fn (c := c94) Try.func94 (by kernel_rfl) (by kernel_rfl) (by kernel_rfl) c94_ok (by kernel_rfl) (by kernel_rfl) hρ hs h
-- loop (first region 3): live slots 0:x0 1:target1 2:cmp2 8:n8 9:i9 10:j10, of which it writes [9, 10]
/-! (*gharry.page.image).find$1 -/
noncomputable def c95 : Cfg := { P := Try.prog, n := 9, T := TT, body := (Try.f95.body).getD .skip, res := Try.f95.results.toList, li := lk [] [(0, [0, 1]), (1, [1, 2])], lo := lk [] [(0, [1, 2]), (1, [4]), (1000000, [4])], ord := lk (false, []) [] }
@[go_sem] theorem c95_i0 : c95.li 0 = [0, 1] := rfl
@[go_sem] theorem c95_i1 : c95.li 1 = [1, 2] := rfl
@[go_sem] theorem c95_r0 (c0 : api_Cell) (k1 : List UInt8) (K : Env → W) : RP c95 0 [(0, v_api_Cell c0), (1, str k1)] K =
    (nwc #[str c0.Key, str c0.Val] 55 fun y1_ => (K [(1, str k1), (2, .pointer (some y1_))])) := by kernel_rfl
@[go_sem] theorem c95_r1 (k1 : List UInt8) (c2 : Addr) (K : Env → W) : RP c95 1 [(1, str k1), (2, .pointer (some c2))] K =
    (ld eS c2 fun (y1_ : List UInt8) => (cal eI Try.prog 96 #[str y1_, str k1] fun (y2_ : Int) => (K [(4, .int .i64 y2_)]))) := by kernel_rfl
@[go_sem] theorem c95_o : c95.lo 1000000 = [4] := rfl
@[go_sem] theorem c95_e (t4 : Int) (k : Value → W) : RTp c95 [(4, .int .i64 t4)] k = (k (.int .i64 t4)) := by kernel_rfl
theorem c95_ok : (c95.P.follows .mixedOrders && okc c95 c95.body) = true := by kernel_rfl
theorem c95_fn {e : Enc} {args : Array Value} {G : e.α → W} {L : List HP} {ρ : Env} (hρ : envA 0 args.toList = ρ) (hs : Nat.ble args.size 9 = true) (h : E L (D c95 (.seq (.reg 0) (.seq (.reg 1) (.ret))) (fnQ c95 e G) ρ)) : E L (cal e Try.prog 95 args G) :=
  d_fn (c := c95) Try.func95 (by kernel_rfl) (by kernel_rfl) (by kernel_rfl) c95_ok (by kernel_rfl) (by kernel_rfl) hρ hs h
/-! strings.Compare -/
noncomputable def c96 : Cfg := { P := Try.prog, n := 8, T := TT, body := (Try.f96.body).getD .skip, res := Try.f96.results.toList, li := lk [] [(0, [0, 1]), (1, [0, 1])], lo := lk [] [(0, [0, 1]), (1, [4]), (1000000, [4])], ord := lk (false, []) [] }
@[go_sem] theorem c96_i0 : c96.li 0 = [0, 1] := rfl
@[go_sem] theorem c96_i1 : c96.li 1 = [0, 1] := rfl
@[go_sem] theorem c96_r0 (a0 : List UInt8) (b1 : List UInt8) (K : Env → W) : RP c96 0 [(0, str a0), (1, str b1)] K =
    (K [(0, str a0), (1, str b1)]) := by kernel_rfl
@[go_sem] theorem c96_r1 (a0 : List UInt8) (b1 : List UInt8) (K : Env → W) : RP c96 1 [(0, str a0), (1, str b1)] K =
    (cal eI Try.prog 97 #[str a0, str b1] fun (y1_ : Int) => (K [(4, .int .i64 y1_)])) := by kernel_rfl
@[go_sem] theorem c96_o : c96.lo 1000000 = [4] := rfl
@[go_sem] theorem c96_e (t4 : Int) (k : Value → W) : RTp c96 [(4, .int .i64 t4)] k = (k (.int .i64 t4)) := by kernel_rfl
theorem c96_ok : (c96.P.follows .mixedOrders && okc c96 c96.body) = true := by kernel_rfl
theorem c96_fn {e : Enc} {args : Array Value} {G : e.α → W} {L : List HP} {ρ : Env} (hρ : envA 0 args.toList = ρ) (hs : Nat.ble args.size 8 = true) (h : E L (D c96 (.seq (.reg 0) (.seq (.reg 1) (.ret))) (fnQ c96 e G) ρ)) : E L (cal e Try.prog 96 args G) :=
  d_fn (c := c96) Try.func96 (by kernel_rfl) (by kernel_rfl) (by kernel_rfl) c96_ok (by kernel_rfl) (by kernel_rfl) hρ hs h
/-! internal.bytealg.CompareString -/
noncomputable def c97 : Cfg := { P := Try.prog, n := 8, T := TT, body := (Try.f97.body).getD .skip, res := Try.f97.results.toList, li := lk [] [(0, [0, 1]), (1, [0, 1])], lo := lk [] [(0, [0, 1]), (1, [4]), (1000000, [4])], ord := lk (false, []) [] }
@[go_sem] theorem c97_i0 : c97.li 0 = [0, 1] := rfl
@[go_sem] theorem c97_i1 : c97.li 1 = [0, 1] := rfl
@[go_sem] theorem c97_r0 (a0 : List UInt8) (b1 : List UInt8) (K : Env → W) : RP c97 0 [(0, str a0), (1, str b1)] K =
    (K [(0, str a0), (1, str b1)]) := by kernel_rfl
@[go_sem] theorem c97_r1 (a0 : List UInt8) (b1 : List UInt8) (K : Env → W) : RP c97 1 [(0, str a0), (1, str b1)] K =
    (val eI Try.prog (oCmp #[str a0, str b1]) fun (y2_ : Int) => (K [(4, .int .i64 y2_)])) := by kernel_rfl
@[go_sem] theorem c97_o : c97.lo 1000000 = [4] := rfl
@[go_sem] theorem c97_e (t4 : Int) (k : Value → W) : RTp c97 [(4, .int .i64 t4)] k = (k (.int .i64 t4)) := by kernel_rfl
theorem c97_ok : (c97.P.follows .mixedOrders && okc c97 c97.body) = true := by kernel_rfl
theorem c97_fn {e : Enc} {args : Array Value} {G : e.α → W} {L : List HP} {ρ : Env} (hρ : envA 0 args.toList = ρ) (hs : Nat.ble args.size 8 = true) (h : E L (D c97 (.seq (.reg 0) (.seq (.reg 1) (.ret))) (fnQ c97 e G) ρ)) : E L (cal e Try.prog 97 args G) :=
  d_fn (c := c97) Try.func97 (by kernel_rfl) (by kernel_rfl) (by kernel_rfl) c97_ok (by kernel_rfl) (by kernel_rfl) hρ hs h
end Go.Sp
