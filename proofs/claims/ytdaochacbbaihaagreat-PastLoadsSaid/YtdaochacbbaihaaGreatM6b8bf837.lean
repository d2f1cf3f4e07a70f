/- Texts of a proof, one behind the other: Gk0 E1 E2 N2 Gj0 N3 Gm0 M1 Gr0 M2 K23 K24 M3 M4 M5. No condition. -/
import Derived.Test.YtdaochacbbaihaaGreatM0fe3bdfc
import Derived.OpenShut
namespace Go.Sp
open Go
set_option maxRecDepth 100000
set_option linter.unusedVariables false
open Go.Proofs
variable (K : Env → W) (k : Value → W) {e : Enc} {args : Array Value} {G : e.α → W} {L : List HP} {ρ : Env}
attribute [local instance] cI cB cP cA
noncomputable def c56 := cf Tryz.f56 6 [(0, [0]), (1, [0])] [(0, [0]), (1, [2]), (1000000, [2])] [] []
@[go_sem] theorem c56_i : c56.li 0 = [0] ∧ c56.li 1 = [0] := ⟨rfl, rfl⟩
@[go_sem] theorem c56_r0 (v0 : List UInt8) : RP c56 0 [(0, str v0)] K =
 (K [(0, str v0)]) := by kernel_rfl
@[go_sem] theorem c56_r1 (v0 : List UInt8) : RP c56 1 [(0, str v0)] K =
 (nwc #[str ((⟨v0, (0 : Int), (0 : Int)⟩ : pack_Reader).s), .int .i64 ((⟨v0, (0 : Int), (0 : Int)⟩ : pack_Reader).f_at), .int .i64 ((⟨v0, (0 : Int), (0 : Int)⟩ : pack_Reader).e)] 147 fun y1_ => (K [(2, y1_)])) := by kernel_rfl
@[go_sem] theorem c56_o : c56.lo 1000000 = [2] := rfl
@[go_sem] theorem c56_e (v2 : Option Addr) : RTp c56 [(2, v2)] k = (k (v2)) := by kernel_rfl
theorem c56_ok : (c56.P.follows .mixedOrders && okc c56 c56.body) = true := by kernel_rfl
theorem c56_fn (hρ : envA 0 args.toList = ρ) (hs : Nat.ble args.size 6 = true) (h : E L (D c56 (.seq (.reg 0) (.seq (.reg 1) (.ret))) (fnQ c56 e G) ρ)) : E L (cal e Tryz.prog 56 args G) :=
  d_fn (c := c56) Tryz.func56 (by kernel_rfl) (by kernel_rfl) (by kernel_rfl) c56_ok (by kernel_rfl) (by kernel_rfl) hρ hs h
noncomputable def c57 := cf Tryz.f57 37 [(0, [0, 1]), (1, [0, 1]), (2, [0, 1]), (3, [0, 1]), (4, [0, 1, 5]), (5, [5, 24, 25, 26]), (6, [5, 24, 25, 26]), (7, [5, 7, 24, 25, 26]), (8, [5, 24, 25, 26]), (9, [5])] [(0, [0, 1]), (1, [0, 1, 18]), (2, [0, 1]), (3, [0, 1, 5]), (4, [5, 24, 25, 26]), (5, [5, 24, 25, 26, 27]), (6, [5, 7, 24, 25, 26]), (7, [5, 24, 25, 26]), (8, [5, 24, 25, 26]), (9, [4]), (1000000, [4])] [] []
@[go_sem] theorem c57_i : c57.li 0 = [0, 1] ∧ c57.li 1 = [0, 1] ∧ c57.li 2 = [0, 1] ∧ c57.li 3 = [0, 1] ∧ c57.li 4 = [0, 1, 5] ∧ c57.li 5 = [5, 24, 25, 26] ∧ c57.li 6 = [5, 24, 25, 26] ∧ c57.li 7 = [5, 7, 24, 25, 26] ∧ c57.li 8 = [5, 24, 25, 26] ∧ c57.li 9 = [5] := ⟨rfl, rfl, rfl, rfl, rfl, rfl, rfl, rfl, rfl, rfl⟩
@[go_sem] theorem c57_r0 (v0 : Option Addr) (v1 : Int) : RP c57 0 [(0, v0), (1, v1)] K =
 (K [(0, v0), (1, v1)]) := by kernel_rfl
@[go_sem] theorem c57_r1 (v0 : Option Addr) (v1 : Int) : RP c57 1 [(0, v0), (1, v1)] K =
 (cal eB Tryz.prog 82 #[v0] fun (y1_ : Bool) => (cnd (!y1_) (cnd (decide (v1 < 1)) (K [(0, v0), (1, v1), (18, true)]) (K [(0, v0), (1, v1), (18, decide (6 < v1))])) (K [(0, v0), (1, v1), (18, false)]))) := by kernel_rfl
@[go_sem] theorem c57_r2 (v0 : Option Addr) (v1 : Int) : RP c57 2 [(0, v0), (1, v1)] K =
 (cal eN Tryz.prog 83 #[v0, .int .i64 1] fun (y1_ : Unit) => (K [(0, v0), (1, v1)])) := by kernel_rfl
@[go_sem] theorem c57_r3 (v0 : Option Addr) (v1 : Int) : RP c57 3 [(0, v0), (1, v1)] K =
 (K [(0, v0), (1, v1), (5, .int .i64 0)]) := by kernel_rfl
@[go_sem] theorem c57_r4 (v0 : Option Addr) (v1 v5 : Int) : RP c57 4 [(0, v0), (1, v1), (5, v5)] K =
 (cal eS Tryz.prog 59 #[v0, v1] fun (y1_ : List UInt8) => (val eSl Tryz.prog (oConv 9 108 (str y1_)) fun (y2_ : (Option Addr × Nat × Nat)) => (K [(5, v5), (24, .slice y2_.1 y2_.2.1 y2_.2.2), (25, .int .i64 (y2_.2.1 : Int)), (26, .int .i64 0)]))) := by kernel_rfl
@[go_sem] theorem c57_r5 (v5 : Int) (v24p : Option Addr) (v24n v24c : Nat) (v25 v26 : Int) : RP c57 5 [(5, v5), (24, .slice v24p v24n v24c), (25, v25), (26, v26)] K =
 (K [(5, v5), (24, .slice v24p v24n v24c), (25, v25), (26, v26), (27, decide (v26 < v25))]) := by kernel_rfl
@[go_sem] theorem c57_r6 (v5 : Int) (v24p : Option Addr) (v24n v24c : Nat) (v25 v26 : Int) : RP c57 6 [(5, v5), (24, .slice v24p v24n v24c), (25, v25), (26, v26)] K =
 (rq (0 ≤ v26 ∧ v26 < v24n) (nn v24p fun y1_ => (ld eU8 (Addr.add y1_ (v26.toNat * 1)) fun (y2_ : Int) => (K [(5, v5), (7, .int .u8 y2_), (24, .slice v24p v24n v24c), (25, v25), (26, v26)])))) := by kernel_rfl
@[go_sem] theorem c57_r7 (v5 v7 : Int) (v24p : Option Addr) (v24n v24c : Nat) (v25 v26 : Int) : RP c57 7 [(5, v5), (7, .int .u8 v7), (24, .slice v24p v24n v24c), (25, v25), (26, v26)] K =
 (rq (0 ≤ (8 : Int)) (K [(5, .int .i64 (bits .or .i64 (IntKind.wrap .i64 (v5 * 2 ^ (min (8 : Int).toNat 64))) (IntKind.wrap .i64 v7))), (24, .slice v24p v24n v24c), (25, v25), (26, v26)])) := by kernel_rfl
@[go_sem] theorem c57_r8 (v5 : Int) (v24p : Option Addr) (v24n v24c : Nat) (v25 v26 : Int) : RP c57 8 [(5, v5), (24, .slice v24p v24n v24c), (25, v25), (26, v26)] K =
 (K [(5, v5), (24, .slice v24p v24n v24c), (25, v25), (26, IntKind.wrap .i64 (v26 + 1))]) := by kernel_rfl
@[go_sem] theorem c57_r9 (v5 : Int) : RP c57 9 [(5, v5)] K =
 (K [(4, v5)]) := by kernel_rfl
@[go_sem] theorem c57_o : c57.lo 1000000 = [4] := rfl
@[go_sem] theorem c57_e (v4 : Int) : RTp c57 [(4, v4)] k = (k (v4)) := by kernel_rfl
theorem c57_ok : (c57.P.follows .mixedOrders && okc c57 c57.body) = true := by kernel_rfl
theorem c57_fn (hρ : envA 0 args.toList = ρ) (hs : Nat.ble args.size 37 = true) (h : E L (D c57 (.seq (.reg 0) (.seq (.seq (.reg 1) (.cond (.tmp 18) (.reg 2) (.skip))) (.seq (.reg 3) (.seq (.seq (.reg 4) (.block 0 (.loop (.seq (.reg 5) (.seq (.cond (.tmp 27) (.skip) (.exit 0)) (.seq (.block 1 (.seq (.reg 6) (.reg 7))) (.reg 8))))))) (.seq (.reg 9) (.ret)))))) (fnQ c57 e G) ρ)) : E L (cal e Tryz.prog 57 args G) :=
  d_fn (c := c57) Tryz.func57 (by kernel_rfl) (by kernel_rfl) (by kernel_rfl) c57_ok (by kernel_rfl) (by kernel_rfl) hρ hs h
noncomputable def c59 := cf Tryz.f59 51 [(0, [0, 1]), (1, [0, 1]), (2, []), (3, [0, 1]), (4, [0]), (5, []), (6, [0, 1]), (7, [0]), (8, []), (9, [0, 1]), (10, [0, 1])] [(0, [0, 1]), (1, [0, 1, 5]), (2, [4]), (3, [0, 1, 8]), (4, []), (5, [4]), (6, [0, 1, 13]), (7, []), (8, [4]), (9, [0, 1]), (10, [4]), (1000000, [4])] [(6, (true, [(0, 1), (1, 1), (2, 1), (3, 1), (4, 0), (5, 1), (6, 1), (7, 1), (8, 1), (9, 0), (10, 1), (11, 1), (12, 1)])), (10, (true, [(0, 1), (1, 1), (2, 1), (3, 0), (4, 1), (5, 1), (6, 1), (7, 0), (8, 1), (9, 1), (10, 1), (11, 1), (12, 1), (13, 0), (14, 1), (15, 1)]))] []
@[go_sem] theorem c59_i : c59.li 0 = [0, 1] ∧ c59.li 1 = [0, 1] ∧ c59.li 2 = [] ∧ c59.li 3 = [0, 1] ∧ c59.li 4 = [0] ∧ c59.li 5 = [] ∧ c59.li 6 = [0, 1] ∧ c59.li 7 = [0] ∧ c59.li 8 = [] ∧ c59.li 9 = [0, 1] ∧ c59.li 10 = [0, 1] := ⟨rfl, rfl, rfl, rfl, rfl, rfl, rfl, rfl, rfl, rfl, rfl⟩
@[go_sem] theorem c59_r0 (v0 : Option Addr) (v1 : Int) : RP c59 0 [(0, v0), (1, v1)] K =
 (K [(0, v0), (1, v1)]) := by kernel_rfl
@[go_sem] theorem c59_r1 (v0 : Option Addr) (v1 : Int) : RP c59 1 [(0, v0), (1, v1)] K =
 (cal eB Tryz.prog 82 #[v0] fun (y1_ : Bool) => (K [(0, v0), (1, v1), (5, y1_)])) := by kernel_rfl
@[go_sem] theorem c59_r2 : RP c59 2 [] K =
 (K [(4, str ([] : List UInt8))]) := by kernel_rfl
@[go_sem] theorem c59_r3 (v0 : Option Addr) (v1 : Int) : RP c59 3 [(0, v0), (1, v1)] K =
 (K [(0, v0), (1, v1), (8, decide (v1 < 0))]) := by kernel_rfl
@[go_sem] theorem c59_r4 (v0 : Option Addr) : RP c59 4 [(0, v0)] K =
 (cal eN Tryz.prog 83 #[v0, .int .i64 1] fun (y1_ : Unit) => (K [])) := by kernel_rfl
@[go_sem] theorem c59_r5 : RP c59 5 [] K =
 (K [(4, str ([] : List UInt8))]) := by kernel_rfl
@[go_sem] theorem c59_r6 (v0 : Option Addr) (v1 : Int) : RP c59 6 [(0, v0), (1, v1)] K =
 (ph fun S0 => (nn v0 fun y1_ => (ldq S0 eS y1_ fun (y2_ : List UInt8) => (nn v0 fun y3_ => (ldq S0 eI (y3_.add 1) fun (y4_ : Int) => (K [(0, v0), (1, v1), (13, decide ((IntKind.wrap .i64 ((y2_.length : Int) - y4_)) < v1))])))))) := by kernel_rfl
@[go_sem] theorem c59_r7 (v0 : Option Addr) : RP c59 7 [(0, v0)] K =
 (cal eN Tryz.prog 83 #[v0, .int .i64 2] fun (y1_ : Unit) => (K [])) := by kernel_rfl
@[go_sem] theorem c59_r8 : RP c59 8 [] K =
 (K [(4, str ([] : List UInt8))]) := by kernel_rfl
@[go_sem] theorem c59_r9 (v0 : Option Addr) (v1 : Int) : RP c59 9 [(0, v0), (1, v1)] K =
 (nn v0 fun y1_ => (ld eI (y1_.add 1) fun (y2_ : Int) => (nn v0 fun y3_ => (st (y3_.add 1) (IntKind.wrap .i64 (y2_ + v1)) (K [(0, v0), (1, v1)]))))) := by kernel_rfl
@[go_sem] theorem c59_r10 (v0 : Option Addr) (v1 : Int) : RP c59 10 [(0, v0), (1, v1)] K =
 (ph fun S0 => (nn v0 fun y1_ => (ldq S0 eS y1_ fun (y2_ : List UInt8) => (nn v0 fun y3_ => (ldq S0 eI (y3_.add 1) fun (y4_ : Int) => (nn v0 fun y5_ => (ldq S0 eI (y5_.add 1) fun (y6_ : Int) => (rq (0 ≤ ((IntKind.wrap .i64 (y4_ - v1)) : Int) ∧ (IntKind.wrap .i64 (y4_ - v1)) ≤ y6_ ∧ y6_ ≤ (y2_.length : Int)) (K [(4, str (ss y2_ (IntKind.wrap .i64 (y4_ - v1)) y6_))]))))))))) := by kernel_rfl
@[go_sem] theorem c59_o : c59.lo 1000000 = [4] := rfl
@[go_sem] theorem c59_e (v4 : List UInt8) : RTp c59 [(4, str v4)] k = (k (str v4)) := by kernel_rfl
theorem c59_ok : (c59.P.follows .mixedOrders && okc c59 c59.body) = true := by kernel_rfl
theorem c59_fn (hρ : envA 0 args.toList = ρ) (hs : Nat.ble args.size 51 = true) (h : E L (D c59 (.seq (.reg 0) (.seq (.block 0 (.seq (.reg 1) (.cond (.tmp 5) (.seq (.reg 2) (.ret)) (.seq (.reg 3) (.cond (.tmp 8) (.seq (.reg 4) (.seq (.reg 5) (.ret))) (.seq (.reg 6) (.cond (.tmp 13) (.seq (.reg 7) (.seq (.reg 8) (.ret))) (.skip)))))))) (.seq (.reg 9) (.seq (.reg 10) (.ret))))) (fnQ c59 e G) ρ)) : E L (cal e Tryz.prog 59 args G) :=
  d_fn (c := c59) Tryz.func59 (by kernel_rfl) (by kernel_rfl) (by kernel_rfl) c59_ok (by kernel_rfl) (by kernel_rfl) hρ hs h
noncomputable def c82 := cf Tryz.f82 12 [(0, [0]), (1, [0])] [(0, [0]), (1, [2]), (1000000, [2])] [] []
@[go_sem] theorem c82_i : c82.li 0 = [0] ∧ c82.li 1 = [0] := ⟨rfl, rfl⟩
@[go_sem] theorem c82_r0 (v0 : Option Addr) : RP c82 0 [(0, v0)] K =
 (K [(0, v0)]) := by kernel_rfl
@[go_sem] theorem c82_r1 (v0 : Option Addr) : RP c82 1 [(0, v0)] K =
 (cnd (v0.isNone) (K [(2, true)]) (nn v0 fun y1_ => (ld eI (y1_.add 2) fun (y2_ : Int) => (K [(2, .bool (y2_ != 0))])))) := by kernel_rfl
@[go_sem] theorem c82_o : c82.lo 1000000 = [2] := rfl
@[go_sem] theorem c82_e (v2 : Bool) : RTp c82 [(2, v2)] k = (k (v2)) := by kernel_rfl
theorem c82_ok : (c82.P.follows .mixedOrders && okc c82 c82.body) = true := by kernel_rfl
theorem c82_fn (hρ : envA 0 args.toList = ρ) (hs : Nat.ble args.size 12 = true) (h : E L (D c82 (.seq (.reg 0) (.seq (.reg 1) (.ret))) (fnQ c82 e G) ρ)) : E L (cal e Tryz.prog 82 args G) :=
  d_fn (c := c82) Tryz.func82 (by kernel_rfl) (by kernel_rfl) (by kernel_rfl) c82_ok (by kernel_rfl) (by kernel_rfl) hρ hs h
noncomputable def c83 := cf Tryz.f83 13 [(0, [0, 1]), (1, [0, 1])] [(0, [0, 1, 8]), (1, []), (1000000, [])] [] []
@[go_sem] theorem c83_i : c83.li 0 = [0, 1] ∧ c83.li 1 = [0, 1] := ⟨rfl, rfl⟩
@[go_sem] theorem c83_r0 (v0 : Option Addr) (v1 : Int) : RP c83 0 [(0, v0), (1, v1)] K =
 (nn v0 fun y1_ => (ld eI (y1_.add 2) fun (y2_ : Int) => (K [(0, v0), (1, v1), (8, .bool (y2_ == 0))]))) := by kernel_rfl
@[go_sem] theorem c83_r1 (v0 : Option Addr) (v1 : Int) : RP c83 1 [(0, v0), (1, v1)] K =
 (nn v0 fun y1_ => (st (y1_.add 2) (v1) (K []))) := by kernel_rfl
@[go_sem] theorem c83_o : c83.lo 1000000 = [] := rfl
@[go_sem] theorem c83_e : RTp c83 [] k = (k (.tuple #[])) := by kernel_rfl
theorem c83_ok : (c83.P.follows .mixedOrders && okc c83 c83.body) = true := by kernel_rfl
theorem c83_fn (hρ : envA 0 args.toList = ρ) (hs : Nat.ble args.size 13 = true) (h : E L (D c83 (.seq (.reg 0) (.cond (.tmp 8) (.reg 1) (.skip))) (fnQ c83 e G) ρ)) : E L (cal e Tryz.prog 83 args G) :=
  d_fn (c := c83) Tryz.func83 (by kernel_rfl) (by kernel_rfl) (by kernel_rfl) c83_ok (by kernel_rfl) (by kernel_rfl) hρ hs h
noncomputable def c101 := cf Tryz.f101 9 [(0, [0]), (1, [0]), (2, []), (3, [0])] [(0, [0]), (1, [0, 4]), (2, [2]), (3, [2]), (1000000, [2])] [] []
@[go_sem] theorem c101_i : c101.li 0 = [0] ∧ c101.li 1 = [0] ∧ c101.li 2 = [] ∧ c101.li 3 = [0] := ⟨rfl, rfl, rfl, rfl⟩
@[go_sem] theorem c101_r0 (v0 : Option Addr) : RP c101 0 [(0, v0)] K =
 (K [(0, v0)]) := by kernel_rfl
@[go_sem] theorem c101_r1 (v0 : Option Addr) : RP c101 1 [(0, v0)] K =
 (K [(0, v0), (4, .bool (v0.isNone))]) := by kernel_rfl
@[go_sem] theorem c101_r2 : RP c101 2 [] K =
 (K [(2, .int .i64 11)]) := by kernel_rfl
@[go_sem] theorem c101_r3 (v0 : Option Addr) : RP c101 3 [(0, v0)] K =
 (nn v0 fun y1_ => (ld eI (y1_.add 2) fun (y2_ : Int) => (K [(2, y2_)]))) := by kernel_rfl
@[go_sem] theorem c101_o : c101.lo 1000000 = [2] := rfl
@[go_sem] theorem c101_e (v2 : Int) : RTp c101 [(2, v2)] k = (k (v2)) := by kernel_rfl
theorem c101_ok : (c101.P.follows .mixedOrders && okc c101 c101.body) = true := by kernel_rfl
theorem c101_fn (hρ : envA 0 args.toList = ρ) (hs : Nat.ble args.size 9 = true) (h : E L (D c101 (.seq (.reg 0) (.seq (.seq (.reg 1) (.cond (.tmp 4) (.seq (.reg 2) (.ret)) (.skip))) (.seq (.reg 3) (.ret)))) (fnQ c101 e G) ρ)) : E L (cal e Tryz.prog 101 args G) :=
  d_fn (c := c101) Tryz.func101 (by kernel_rfl) (by kernel_rfl) (by kernel_rfl) c101_ok (by kernel_rfl) (by kernel_rfl) hρ hs h
noncomputable def c105 := cf Tryz.f105 10 [(0, [0]), (1, [0]), (2, [0]), (3, [0])] [(0, [0]), (1, [0, 5]), (2, [0]), (3, [2]), (1000000, [2])] [] []
@[go_sem] theorem c105_i : c105.li 0 = [0] ∧ c105.li 1 = [0] ∧ c105.li 2 = [0] ∧ c105.li 3 = [0] := ⟨rfl, rfl, rfl, rfl⟩
@[go_sem] theorem c105_r0 (v0 : Option Addr) : RP c105 0 [(0, v0)] K =
 (K [(0, v0)]) := by kernel_rfl
@[go_sem] theorem c105_r1 (v0 : Option Addr) : RP c105 1 [(0, v0)] K =
 (cal eI Tryz.prog 130 #[v0] fun (y1_ : Int) => (K [(0, v0), (5, decide (0 < y1_))])) := by kernel_rfl
@[go_sem] theorem c105_r2 (v0 : Option Addr) : RP c105 2 [(0, v0)] K =
 (cal eN Tryz.prog 83 #[v0, .int .i64 4] fun (y1_ : Unit) => (K [(0, v0)])) := by kernel_rfl
@[go_sem] theorem c105_r3 (v0 : Option Addr) : RP c105 3 [(0, v0)] K =
 (cal eI Tryz.prog 101 #[v0] fun (y1_ : Int) => (K [(2, y1_)])) := by kernel_rfl
@[go_sem] theorem c105_o : c105.lo 1000000 = [2] := rfl
@[go_sem] theorem c105_e (v2 : Int) : RTp c105 [(2, v2)] k = (k (v2)) := by kernel_rfl
theorem c105_ok : (c105.P.follows .mixedOrders && okc c105 c105.body) = true := by kernel_rfl
theorem c105_fn (hρ : envA 0 args.toList = ρ) (hs : Nat.ble args.size 10 = true) (h : E L (D c105 (.seq (.reg 0) (.seq (.seq (.reg 1) (.cond (.tmp 5) (.reg 2) (.skip))) (.seq (.reg 3) (.ret)))) (fnQ c105 e G) ρ)) : E L (cal e Tryz.prog 105 args G) :=
  d_fn (c := c105) Tryz.func105 (by kernel_rfl) (by kernel_rfl) (by kernel_rfl) c105_ok (by kernel_rfl) (by kernel_rfl) hρ hs h
noncomputable def c129 := cf Tryz.f129 21 [(0, [0, 1]), (1, [0, 1]), (2, [0, 1, 5]), (3, [0, 5]), (4, [0, 5])] [(0, [0, 1]), (1, [0, 1, 5]), (2, [0, 5, 15]), (3, [0, 5]), (4, [4]), (1000000, [4])] [] []
@[go_sem] theorem c129_i : c129.li 0 = [0, 1] ∧ c129.li 1 = [0, 1] ∧ c129.li 2 = [0, 1, 5] ∧ c129.li 3 = [0, 5] ∧ c129.li 4 = [0, 5] := ⟨rfl, rfl, rfl, rfl, rfl⟩
@[go_sem] theorem c129_r0 (v0 : Option Addr) (v1 : Int) : RP c129 0 [(0, v0), (1, v1)] K =
 (K [(0, v0), (1, v1)]) := by kernel_rfl
@[go_sem] theorem c129_r1 (v0 : Option Addr) (v1 : Int) : RP c129 1 [(0, v0), (1, v1)] K =
 (cal eI Tryz.prog 57 #[v0, .int .i64 2] fun (y1_ : Int) => (K [(0, v0), (1, v1), (5, y1_)])) := by kernel_rfl
@[go_sem] theorem c129_r2 (v0 : Option Addr) (v1 v5 : Int) : RP c129 2 [(0, v0), (1, v1), (5, v5)] K =
 (cal eB Tryz.prog 82 #[v0] fun (y1_ : Bool) => (cnd (!y1_) (K [(0, v0), (5, v5), (15, decide (v1 < v5))]) (K [(0, v0), (5, v5), (15, false)]))) := by kernel_rfl
@[go_sem] theorem c129_r3 (v0 : Option Addr) (v5 : Int) : RP c129 3 [(0, v0), (5, v5)] K =
 (cal eN Tryz.prog 83 #[v0, .int .i64 3] fun (y1_ : Unit) => (K [(0, v0), (5, v5)])) := by kernel_rfl
@[go_sem] theorem c129_r4 (v0 : Option Addr) (v5 : Int) : RP c129 4 [(0, v0), (5, v5)] K =
 (cal eS Tryz.prog 59 #[v0, v5] fun (y1_ : List UInt8) => (K [(4, str y1_)])) := by kernel_rfl
@[go_sem] theorem c129_o : c129.lo 1000000 = [4] := rfl
@[go_sem] theorem c129_e (v4 : List UInt8) : RTp c129 [(4, str v4)] k = (k (str v4)) := by kernel_rfl
theorem c129_ok : (c129.P.follows .mixedOrders && okc c129 c129.body) = true := by kernel_rfl
theorem c129_fn (hρ : envA 0 args.toList = ρ) (hs : Nat.ble args.size 21 = true) (h : E L (D c129 (.seq (.reg 0) (.seq (.reg 1) (.seq (.seq (.reg 2) (.cond (.tmp 15) (.reg 3) (.skip))) (.seq (.reg 4) (.ret))))) (fnQ c129 e G) ρ)) : E L (cal e Tryz.prog 129 args G) :=
  d_fn (c := c129) Tryz.func129 (by kernel_rfl) (by kernel_rfl) (by kernel_rfl) c129_ok (by kernel_rfl) (by kernel_rfl) hρ hs h
noncomputable def c130 := cf Tryz.f130 15 [(0, [0]), (1, [0]), (2, []), (3, [0])] [(0, [0]), (1, [0, 4]), (2, [2]), (3, [2]), (1000000, [2])] [(3, (true, [(0, 1), (1, 1), (2, 1), (3, 0), (4, 1), (5, 1), (6, 1), (7, 1), (8, 0), (9, 1), (10, 1)]))] []
@[go_sem] theorem c130_i : c130.li 0 = [0] ∧ c130.li 1 = [0] ∧ c130.li 2 = [] ∧ c130.li 3 = [0] := ⟨rfl, rfl, rfl, rfl⟩
@[go_sem] theorem c130_r0 (v0 : Option Addr) : RP c130 0 [(0, v0)] K =
 (K [(0, v0)]) := by kernel_rfl
@[go_sem] theorem c130_r1 (v0 : Option Addr) : RP c130 1 [(0, v0)] K =
 (cal eB Tryz.prog 82 #[v0] fun (y1_ : Bool) => (K [(0, v0), (4, y1_)])) := by kernel_rfl
@[go_sem] theorem c130_r2 : RP c130 2 [] K =
 (K [(2, .int .i64 0)]) := by kernel_rfl
@[go_sem] theorem c130_r3 (v0 : Option Addr) : RP c130 3 [(0, v0)] K =
 (ph fun S0 => (nn v0 fun y1_ => (ldq S0 eS y1_ fun (y2_ : List UInt8) => (nn v0 fun y3_ => (ldq S0 eI (y3_.add 1) fun (y4_ : Int) => (K [(2, IntKind.wrap .i64 ((y2_.length : Int) - y4_))])))))) := by kernel_rfl
@[go_sem] theorem c130_o : c130.lo 1000000 = [2] := rfl
@[go_sem] theorem c130_e (v2 : Int) : RTp c130 [(2, v2)] k = (k (v2)) := by kernel_rfl
theorem c130_ok : (c130.P.follows .mixedOrders && okc c130 c130.body) = true := by kernel_rfl
theorem c130_fn (hρ : envA 0 args.toList = ρ) (hs : Nat.ble args.size 15 = true) (h : E L (D c130 (.seq (.reg 0) (.seq (.seq (.reg 1) (.cond (.tmp 4) (.seq (.reg 2) (.ret)) (.skip))) (.seq (.reg 3) (.ret)))) (fnQ c130 e G) ρ)) : E L (cal e Tryz.prog 130 args G) :=
  d_fn (c := c130) Tryz.func130 (by kernel_rfl) (by kernel_rfl) (by kernel_rfl) c130_ok (by kernel_rfl) (by kernel_rfl) hρ hs h
end Go.Sp
namespace Go.Sp
open Go Go.Proofs
set_option linter.unusedSimpArgs false
set_option linter.unusedVariables false
set_option maxRecDepth 10000
structure Rd where
  b : Nat
  s : List UInt8
  a : Nat
  e : Int
abbrev rdl (R : Rd) : List HP := [ar R.b 147 [str R.s, .int .i64 (R.a : Int), .int .i64 R.e]]
def Rd.fail (R : Rd) (x : Int) : Rd := if R.e = 0 then { R with e := x } else R
def Rd.raw (R : Rd) (n : Int) : List UInt8 × Rd :=
  if R.e = 0 then (if n < 0 then ([], { R with e := 1 }) else if (R.s.length : Int) - R.a < n then ([], { R with e := 2 }) else ((R.s.drop R.a).take n.toNat, { R with a := R.a + n.toNat })) else ([], R)
theorem f72 (s : List UInt8) : Fn eP Tryz.prog 56 #[str s] [] fun y X => ∃ b, y = some ⟨b, 0, none⟩ ∧ X = rdl ⟨b, s, 0, 0⟩ := fun L => by
  refine c56_fn rfl rfl ?_
  repeat' (first | (with_reducible first | refine d_seq fun K hK => ?_ | (refine hK _ _ ?_; clear hK K) | (refine SG.p ?_; try intro b) | refine SP.p ?_) | refine i_c ?_ ?_ <;> intro hc <;> try simp only [push_cast, seval] at hc | refine i_x ?_ | clear hK K)
  exact i_done (some ⟨b, 0, none⟩) (rdl ⟨b, s, 0, 0⟩) rfl ⟨b, rfl, rfl⟩
theorem f88 (R : Rd) : Fp eB Tryz.prog 82 #[.pointer (some ⟨R.b, 0, none⟩)] (rdl R) (R.e != 0) := fun L => by
  refine c82_fn rfl rfl ?_
  repeat' (first | (with_reducible first | refine d_seq fun K hK => ?_ | (refine hK _ _ ?_; clear hK K) | (refine SG.p ?_; try intro b) | refine SP.p ?_) | refine i_c ?_ ?_ <;> intro hc <;> try simp only [push_cast, seval] at hc | refine i_x ?_ | clear hK K)
  (with_reducible first | apply i_ret0 | apply i_ret2 | apply i_ret3 | apply i_ret); exact rfl
  rfl
theorem f74 (R : Rd) : Fp eI Tryz.prog 101 #[.pointer (some ⟨R.b, 0, none⟩)] (rdl R) R.e := fun L => by
  refine c101_fn rfl rfl ?_
  repeat' (first | (with_reducible first | refine d_seq fun K hK => ?_ | (refine hK _ _ ?_; clear hK K) | (refine SG.p ?_; try intro b) | refine SP.p ?_) | refine i_c ?_ ?_ <;> intro hc <;> try simp only [push_cast, seval] at hc | refine i_x ?_ | clear hK K)
  (with_reducible first | apply i_ret0 | apply i_ret2 | apply i_ret3 | apply i_ret); exact rfl
  rfl
theorem f89 (R : Rd) (x : Int) : Fq eN Tryz.prog 83 #[.pointer (some ⟨R.b, 0, none⟩), .int .i64 x] (rdl R) (rdl (R.fail x)) () := by
  by_cases h : R.e = 0
  all_goals
    unfold Rd.fail
    simp only [h, if_true, if_false]
    intro L
    refine c83_fn rfl rfl ?_
    repeat' (first | (with_reducible first | refine d_seq fun K hK => ?_ | (refine hK _ _ ?_; clear hK K) | (refine SG.p ?_; try intro b) | refine SP.p ?_) | refine i_c ?_ ?_ <;> intro hc <;> try simp only [push_cast, seval] at hc | refine i_x ?_ | clear hK K)
    all_goals first | contradiction | ((with_reducible first | apply i_ret0 | apply i_ret2 | apply i_ret3 | apply i_ret); exact rfl; rfl) | (with_reducible first | apply i_ret0 | apply i_ret2 | apply i_ret3 | apply i_ret); exact rfl
theorem ss_n (s : List UInt8) (a m : Nat) : ss s (a : Int) ((a + m : Nat) : Int) = (s.drop a).take m := by
  unfold ss
  simp only [Int.toNat_natCast]
  rw [List.drop_take]
  congr 1; omega
theorem f90 (R : Rd) (n : Int) (hl : R.s.length ≤ 4611686018427387904) (ha : R.a ≤ R.s.length) : Fq eS Tryz.prog 59 #[.pointer (some ⟨R.b, 0, none⟩), .int .i64 n] (rdl R) (rdl (R.raw n).2) (R.raw n).1 := by
  obtain ⟨b, s, a, e⟩ := R
  dsimp only at hl ha
  unfold Rd.raw
  by_cases h : e = 0
  · subst h
    by_cases h1 : n < 0
    · simp only [h1, if_true]
      intro L
      refine c59_fn rfl rfl ?_
      repeat' (first | (with_reducible first | refine d_seq fun K hK => ?_ | (refine hK _ _ ?_; clear hK K) | (refine SG.p ?_; try intro b)) | refine i_c ?_ ?_ <;> intro hc <;> try simp only [push_cast, seval] at hc | refine i_x ?_ | clear hK K)
      refine i_clp (f88 ⟨b, s, a, 0⟩) ?_
      repeat' (first | (with_reducible first | refine d_seq fun K hK => ?_ | (refine hK _ _ ?_; clear hK K) | (refine SG.p ?_; try intro b)) | refine i_c ?_ ?_ <;> intro hc <;> try simp only [push_cast, seval] at hc | refine i_x ?_ | clear hK K)
      all_goals try (first | contradiction | (exfalso; omega))
      refine i_clq (f89 ⟨b, s, a, 0⟩ 1) ?_
      unfold Rd.fail
      simp only [if_true]
      repeat' (first | (with_reducible first | refine d_seq fun K hK => ?_ | (refine hK _ _ ?_; clear hK K) | (refine SG.p ?_; try intro b) | refine SP.p ?_) | refine i_c ?_ ?_ <;> intro hc <;> try simp only [push_cast, seval] at hc | refine i_x ?_ | clear hK K)
      (with_reducible first | apply i_ret0 | apply i_ret2 | apply i_ret3 | apply i_ret); exact rfl
      rfl
    · by_cases h2 : (s.length : Int) - a < n
      all_goals
        simp only [h1, h2, if_true, if_false]
        intro L
        refine c59_fn rfl rfl ?_
        repeat' (first | (with_reducible first | refine d_seq fun K hK => ?_ | (refine hK _ _ ?_; clear hK K) | (refine SG.p ?_; try intro b)) | refine i_c ?_ ?_ <;> intro hc <;> try simp only [push_cast, seval] at hc | refine i_x ?_ | clear hK K)
        refine i_clp (f88 ⟨b, s, a, 0⟩) ?_
        repeat' (first | (with_reducible first | refine d_seq fun K hK => ?_ | (refine hK _ _ ?_; clear hK K) | (refine SG.p ?_; try intro b)) | refine i_c ?_ ?_ <;> intro hc <;> try simp only [push_cast, seval] at hc | refine i_x ?_ | clear hK K)
        all_goals try (first | contradiction | (exfalso; omega))
        repeat' ((fail_if_success with_reducible refine (id : E _ (D _ (.seq (.seq _ _) _) _ _) → E _ (D _ (.seq (.seq _ _) _) _ _)) ?_); first | (with_reducible first | refine d_seq fun K hK => ?_ | (refine hK _ _ ?_; clear hK K) | (refine SG.p ?_; try intro b) | refine SP.p ?_) | refine i_c ?_ ?_ <;> intro hc <;> try simp only [push_cast, seval] at hc | refine i_x ?_ | clear hK K)
        all_goals try (rw [w64 (by omega) (by omega)] at hc; exfalso; omega)
      · refine i_clq (f89 ⟨b, s, a, 0⟩ 2) ?_
        unfold Rd.fail
        simp only [if_true]
        repeat' (first | (with_reducible first | refine d_seq fun K hK => ?_ | (refine hK _ _ ?_; clear hK K) | (refine SG.p ?_; try intro b) | refine SP.p ?_) | refine i_c ?_ ?_ <;> intro hc <;> try simp only [push_cast, seval] at hc | refine i_x ?_ | clear hK K)
        (with_reducible first | apply i_ret0 | apply i_ret2 | apply i_ret3 | apply i_ret); exact rfl
        rfl
      · have e1 : IntKind.wrap .i64 ((a : Int) + n) = ((a + n.toNat : Nat) : Int) := by rw [w64 (by omega) (by omega)]; omega
        have e2 : IntKind.wrap .i64 (((a + n.toNat : Nat) : Int) - n) = (a : Int) := by rw [w64 (by omega) (by omega)]; omega
        repeat' (first | (simp only [e1, e2]) | first | (with_reducible first | refine d_seq fun K hK => ?_ | (refine hK _ _ ?_; clear hK K) | (refine SG.p ?_; try intro b) | refine SP.p ?_) | refine i_c ?_ ?_ <;> intro hc <;> try simp only [push_cast, seval] at hc | refine i_x ?_ | clear hK K)
        (with_reducible first | apply i_ret0 | apply i_ret2 | apply i_ret3 | apply i_ret); exact rfl
        exact ss_n _ _ _
  · simp only [h, if_false]
    intro L
    refine c59_fn rfl rfl ?_
    repeat' (first | (with_reducible first | refine d_seq fun K hK => ?_ | (refine hK _ _ ?_; clear hK K) | (refine SG.p ?_; try intro b)) | refine i_c ?_ ?_ <;> intro hc <;> try simp only [push_cast, seval] at hc | refine i_x ?_ | clear hK K)
    refine i_clp (f88 ⟨b, s, a, e⟩) ?_
    repeat' (first | (with_reducible first | refine d_seq fun K hK => ?_ | (refine hK _ _ ?_; clear hK K) | (refine SG.p ?_; try intro b)) | refine i_c ?_ ?_ <;> intro hc <;> try simp only [push_cast, seval] at hc | refine i_x ?_ | clear hK K)
    all_goals first | contradiction | ((with_reducible first | apply i_ret0 | apply i_ret2 | apply i_ret3 | apply i_ret); exact rfl; rfl)
theorem Rd.raw_len (R : Rd) (n : Int) : ((R.raw n).1.length : Int) ≤ max n 0 := by
  unfold Rd.raw
  split
  · split
    · simp; omega
    · split
      · simp; omega
      · simp only [List.length_take, List.length_drop]; omega
  · simp; omega
theorem be_take {t : List UInt8} {i : Nat} (h : i < t.length) : be (t.take (i + 1)) = be (t.take i) * 256 + bt t i := by
  rw [List.take_succ_eq_append_getElem h, be_snoc]
  simp [bt, h]
theorem num_bits {t : List UInt8} {i : Nat} (h : i < t.length) (h6 : t.length ≤ 6) : bits .or .i64 (IntKind.wrap .i64 ((be (t.take i) : Int) * 2 ^ min 8 64)) (bt t i : Int) = (be (t.take (i + 1)) : Int) := by
  have h1 := be_lt (t.take i)
  have h2 : 256 ^ (t.take i).length ≤ 256 ^ 5 := Nat.pow_le_pow_right (by decide) (by simp; omega)
  have h3 : (256 : Nat) ^ 5 = 1099511627776 := by decide
  have h4 := bt_lt t i
  rw [show (2 : Int) ^ min 8 64 = 256 from rfl, w64 (by omega) (by omega), or_b (by omega) (by omega) (by omega) (by omega), be_take h]
  omega
theorem f75 (R : Rd) (w : Int) (h1 : 1 ≤ w) (h6 : w ≤ 6) (hl : R.s.length ≤ 4611686018427387904) (ha : R.a ≤ R.s.length) : Fq eI Tryz.prog 57 #[.pointer (some ⟨R.b, 0, none⟩), .int .i64 w] (rdl R) (rdl (R.raw w).2) (be (R.raw w).1 : Int) := fun L => by
  have hlen := R.raw_len w
  refine c57_fn rfl rfl ?_
  repeat' (first | (with_reducible first | refine d_seq fun K hK => ?_ | (refine hK _ _ ?_; clear hK K) | (refine SG.p ?_; try intro b)) | refine i_c ?_ ?_ <;> intro hc <;> try simp only [push_cast, seval] at hc | refine i_x ?_ | clear hK K)
  refine i_clp (f88 R) ?_
  repeat' (first | (with_reducible first | refine d_seq fun K hK => ?_ | (refine hK _ _ ?_; clear hK K) | (refine SG.p ?_; try intro b)) | refine i_c ?_ ?_ <;> intro hc <;> try simp only [push_cast, seval] at hc | refine i_x ?_ | clear hK K)
  all_goals try (first | contradiction | (exfalso; omega))
  all_goals
    refine i_clq (f90 R w hl ha) ?_
    generalize R.raw w = T at *
    obtain ⟨t, R'⟩ := T
    dsimp only at hlen ⊢
    refine r_cvs (by kernel_rfl) fun tb tc => ?_
    repeat' (first | (with_reducible first | refine d_seq fun K hK => ?_ | (refine hK _ _ ?_; clear hK K) | (refine SG.p ?_; try intro b)) | refine i_c ?_ ?_ <;> intro hc <;> try simp only [push_cast, seval] at hc | refine i_x ?_ | clear hK K)
    refine d_lp [5, 24, 25, 26] (fun i : Nat => [(5, .int .i64 (be (t.take i) : Int)), (24, .slice (some ⟨tb, 0, none⟩) t.length tc), (25, .int .i64 (t.length : Int)), (26, .int .i64 (i : Int))])
      (fun _ => sb tb t :: (rdl R' ++ L)) (fun i => i ≤ t.length) (fun i => t.length - i) 0 rfl SX.p (by omega) ?_
    intro i hi
    repeat' (first | (with_reducible first | refine d_seq fun K hK => ?_ | (refine hK _ _ ?_; clear hK K) | (refine SG.p ?_; try intro b)) | refine i_c ?_ ?_ <;> intro hc <;> try simp only [push_cast, seval] at hc | refine i_x ?_ | clear hK K)
    · refine i_sb (by omega) ?_
      repeat' (first | (with_reducible first | refine d_seq fun K hK => ?_ | (refine hK _ _ ?_; clear hK K) | (refine SG.p ?_; try intro b)) | refine i_c ?_ ?_ <;> intro hc <;> try simp only [push_cast, seval] at hc | refine i_x ?_ | clear hK K)
      rw [num_bits (by omega) (by omega), w64 (n := (i : Int) + 1) (by omega) (by omega)]
      exact i_bk (i + 1) rfl (by omega) (by omega)
    · obtain rfl : i = t.length := by omega
      rw [List.take_length]
      (with_reducible first | apply i_ret0 | apply i_ret2 | apply i_ret3 | apply i_ret); exact rfl
      rfl
def Rd.text (R : Rd) (most : Int) : List UInt8 × Rd :=
  (if (R.raw 2).2.e = 0 ∧ most < (be (R.raw 2).1 : Int) then (R.raw 2).2.fail 3 else (R.raw 2).2).raw (be (R.raw 2).1 : Int)
theorem Rd.raw_a {R : Rd} (n : Int) (h : R.a ≤ R.s.length) : (R.raw n).2.a ≤ (R.raw n).2.s.length ∧ (R.raw n).2.s = R.s ∧ (R.raw n).2.b = R.b := by
  unfold Rd.raw
  split
  · split
    · exact ⟨h, rfl, rfl⟩
    · split
      · exact ⟨h, rfl, rfl⟩
      · simp only [and_true]; omega
  · exact ⟨h, rfl, rfl⟩
theorem f73 (R : Rd) (most : Int) (hl : R.s.length ≤ 4611686018427387904) (ha : R.a ≤ R.s.length) : Fq eS Tryz.prog 129 #[.pointer (some ⟨R.b, 0, none⟩), .int .i64 most] (rdl R) (rdl (R.text most).2) (R.text most).1 := by
  have h0 := f75 R 2 (by omega) (by omega) hl ha
  have h1 := Rd.raw_a 2 ha
  unfold Rd.text
  generalize R.raw 2 = T at *
  obtain ⟨t, R1⟩ := T
  dsimp only at h0 h1 ⊢
  obtain ⟨h1, h2, h3⟩ := h1
  by_cases he : R1.e = 0
  · by_cases hm : most < (be t : Int)
    · simp only [he, hm, and_self, if_true]
      intro L
      refine c129_fn rfl rfl ?_
      repeat' (first | (with_reducible first | refine d_seq fun K hK => ?_ | (refine hK _ _ ?_; clear hK K) | (refine SG.p ?_; try intro b)) | refine i_c ?_ ?_ <;> intro hc <;> try simp only [push_cast, seval] at hc | refine i_x ?_ | clear hK K)
      refine i_clq h0 ?_
      repeat' (first | (with_reducible first | refine d_seq fun K hK => ?_ | (refine hK _ _ ?_; clear hK K) | (refine SG.p ?_; try intro b)) | refine i_c ?_ ?_ <;> intro hc <;> try simp only [push_cast, seval] at hc | refine i_x ?_ | clear hK K)
      rw [← h3]
      refine i_clp (f88 R1) ?_
      repeat' (first | (with_reducible first | refine d_seq fun K hK => ?_ | (refine hK _ _ ?_; clear hK K) | (refine SG.p ?_; try intro b)) | refine i_c ?_ ?_ <;> intro hc <;> try simp only [push_cast, seval] at hc | refine i_x ?_ | clear hK K)
      all_goals try (first | contradiction | (exfalso; omega))
      refine i_clq (f89 R1 3) ?_
      repeat' (first | (with_reducible first | refine d_seq fun K hK => ?_ | (refine hK _ _ ?_; clear hK K) | (refine SG.p ?_; try intro b)) | refine i_c ?_ ?_ <;> intro hc <;> try simp only [push_cast, seval] at hc | refine i_x ?_ | clear hK K)
      have hb : (R1.fail 3).b = R1.b ∧ (R1.fail 3).s = R1.s ∧ (R1.fail 3).a = R1.a := by unfold Rd.fail; split <;> exact ⟨rfl, rfl, rfl⟩
      rw [← hb.1]
      refine i_clq (f90 (R1.fail 3) _ (by rw [hb.2.1, h2]; exact hl) (by rw [hb.2.1, hb.2.2]; exact h1)) ?_
      repeat' (first | (with_reducible first | refine d_seq fun K hK => ?_ | (refine hK _ _ ?_; clear hK K) | (refine SG.p ?_; try intro b)) | refine i_c ?_ ?_ <;> intro hc <;> try simp only [push_cast, seval] at hc | refine i_x ?_ | clear hK K)
      (with_reducible first | apply i_ret0 | apply i_ret2 | apply i_ret3 | apply i_ret); exact rfl
      rfl
    · simp only [he, hm, and_false, if_false]
      intro L
      refine c129_fn rfl rfl ?_
      repeat' (first | (with_reducible first | refine d_seq fun K hK => ?_ | (refine hK _ _ ?_; clear hK K) | (refine SG.p ?_; try intro b)) | refine i_c ?_ ?_ <;> intro hc <;> try simp only [push_cast, seval] at hc | refine i_x ?_ | clear hK K)
      refine i_clq h0 ?_
      repeat' (first | (with_reducible first | refine d_seq fun K hK => ?_ | (refine hK _ _ ?_; clear hK K) | (refine SG.p ?_; try intro b)) | refine i_c ?_ ?_ <;> intro hc <;> try simp only [push_cast, seval] at hc | refine i_x ?_ | clear hK K)
      rw [← h3]
      refine i_clp (f88 R1) ?_
      repeat' (first | (with_reducible first | refine d_seq fun K hK => ?_ | (refine hK _ _ ?_; clear hK K) | (refine SG.p ?_; try intro b)) | refine i_c ?_ ?_ <;> intro hc <;> try simp only [push_cast, seval] at hc | refine i_x ?_ | clear hK K)
      all_goals try (first | contradiction | (exfalso; omega))
      refine i_clq (f90 R1 _ (by rw [h2]; exact hl) h1) ?_
      repeat' (first | (with_reducible first | refine d_seq fun K hK => ?_ | (refine hK _ _ ?_; clear hK K) | (refine SG.p ?_; try intro b)) | refine i_c ?_ ?_ <;> intro hc <;> try simp only [push_cast, seval] at hc | refine i_x ?_ | clear hK K)
      (with_reducible first | apply i_ret0 | apply i_ret2 | apply i_ret3 | apply i_ret); exact rfl
      rfl
  · simp only [he, false_and, if_false]
    intro L
    refine c129_fn rfl rfl ?_
    repeat' (first | (with_reducible first | refine d_seq fun K hK => ?_ | (refine hK _ _ ?_; clear hK K) | (refine SG.p ?_; try intro b)) | refine i_c ?_ ?_ <;> intro hc <;> try simp only [push_cast, seval] at hc | refine i_x ?_ | clear hK K)
    refine i_clq h0 ?_
    repeat' (first | (with_reducible first | refine d_seq fun K hK => ?_ | (refine hK _ _ ?_; clear hK K) | (refine SG.p ?_; try intro b)) | refine i_c ?_ ?_ <;> intro hc <;> try simp only [push_cast, seval] at hc | refine i_x ?_ | clear hK K)
    rw [← h3]
    refine i_clp (f88 R1) ?_
    repeat' (first | (with_reducible first | refine d_seq fun K hK => ?_ | (refine hK _ _ ?_; clear hK K) | (refine SG.p ?_; try intro b)) | refine i_c ?_ ?_ <;> intro hc <;> try simp only [push_cast, seval] at hc | refine i_x ?_ | clear hK K)
    all_goals try (first | contradiction | (exfalso; omega))
    refine i_clq (f90 R1 _ (by rw [h2]; exact hl) h1) ?_
    repeat' (first | (with_reducible first | refine d_seq fun K hK => ?_ | (refine hK _ _ ?_; clear hK K) | (refine SG.p ?_; try intro b)) | refine i_c ?_ ?_ <;> intro hc <;> try simp only [push_cast, seval] at hc | refine i_x ?_ | clear hK K)
    (with_reducible first | apply i_ret0 | apply i_ret2 | apply i_ret3 | apply i_ret); exact rfl
    rfl
theorem raw_go (b : Nat) (s : List UInt8) (a w : Nat) (h : a + w ≤ s.length) : (⟨b, s, a, 0⟩ : Rd).raw (w : Int) = ((s.drop a).take w, ⟨b, s, a + w, 0⟩) := by
  unfold Rd.raw
  simp only [if_true]
  rw [if_neg (by omega), if_neg (by omega)]
  simp
theorem num_go (b : Nat) (s : List UInt8) (a w : Nat) (h : a + w ≤ s.length) (h1 : 1 ≤ w) (h6 : w ≤ 6) (hl : s.length ≤ 4611686018427387904) :
    Fq eI Tryz.prog 57 #[.pointer (some ⟨b, 0, none⟩), .int .i64 (w : Int)] (rdl ⟨b, s, a, 0⟩) (rdl ⟨b, s, a + w, 0⟩) (be ((s.drop a).take w) : Int) := by
  have := f75 ⟨b, s, a, 0⟩ (w : Int) (by omega) (by omega) hl (by simp only; omega)
  rw [raw_go b s a w h] at this
  exact this
end Go.Sp
namespace Go.Sp
open Go
set_option maxRecDepth 100000
set_option linter.unusedVariables false
open Go.Proofs
variable (K : Env → W) (k : Value → W) {e : Enc} {args : Array Value} {G : e.α → W} {L : List HP} {ρ : Env}
attribute [local instance] cI cB cP cA
noncomputable def c68 := cf Tryz.f68 9 [(0, [0, 1, 2]), (1, [0, 4, 5])] [(0, [0, 4, 5]), (1, []), (1000000, [])] [] []
@[go_sem] theorem c68_i : c68.li 0 = [0, 1, 2] ∧ c68.li 1 = [0, 4, 5] := ⟨rfl, rfl⟩
@[go_sem] theorem c68_r0 (v0 : Option Addr) (v1 v2 : Int) : RP c68 0 [(0, v0), (1, v1), (2, v2)] K =
 (nwc #[v1] 3 fun y1_ => (nwc #[v2] 3 fun y2_ => (K [(0, v0), (4, y1_), (5, y2_)]))) := by kernel_rfl
@[go_sem] theorem c68_r1 (v0 : Option Addr) (v4 v5 : Addr) : RP c68 1 [(0, v0), (4, v4), (5, v5)] K =
 (cal eN Tryz.prog 96 #[v0, .func (.func 97) #[] #[v4, v5]] fun (y1_ : Unit) => (K [])) := by kernel_rfl
@[go_sem] theorem c68_o : c68.lo 1000000 = [] := rfl
@[go_sem] theorem c68_e : RTp c68 [] k = (k (.tuple #[])) := by kernel_rfl
theorem c68_ok : (c68.P.follows .mixedOrders && okc c68 c68.body) = true := by kernel_rfl
theorem c68_fn (hρ : envA 0 args.toList = ρ) (hs : Nat.ble args.size 9 = true) (h : E L (D c68 (.seq (.reg 0) (.reg 1)) (fnQ c68 e G) ρ)) : E L (cal e Tryz.prog 68 args G) :=
  d_fn (c := c68) Tryz.func68 (by kernel_rfl) (by kernel_rfl) (by kernel_rfl) c68_ok (by kernel_rfl) (by kernel_rfl) hρ hs h
noncomputable def c69 := cf Tryz.f69 14 [(0, [0]), (1, [0]), (2, []), (3, [0])] [(0, [0]), (1, [0, 5]), (2, [2, 3]), (3, [2, 3]), (1000000, [2, 3])] [(3, (true, [(0, 1), (1, 1), (2, 1), (3, 0), (4, 1), (5, 1), (6, 1), (7, 0), (8, 1), (9, 1)]))] []
@[go_sem] theorem c69_i : c69.li 0 = [0] ∧ c69.li 1 = [0] ∧ c69.li 2 = [] ∧ c69.li 3 = [0] := ⟨rfl, rfl, rfl, rfl⟩
@[go_sem] theorem c69_r0 (v0 : Option Addr) : RP c69 0 [(0, v0)] K =
 (K [(0, v0)]) := by kernel_rfl
@[go_sem] theorem c69_r1 (v0 : Option Addr) : RP c69 1 [(0, v0)] K =
 (K [(0, v0), (5, .bool (v0.isNone))]) := by kernel_rfl
@[go_sem] theorem c69_r2 : RP c69 2 [] K =
 (K [(2, str ([] : List UInt8)), (3, .int .i64 11)]) := by kernel_rfl
@[go_sem] theorem c69_r3 (v0 : Option Addr) : RP c69 3 [(0, v0)] K =
 (ph fun S0 => (nn v0 fun y1_ => (ldq S0 eS y1_ fun (y2_ : List UInt8) => (nn v0 fun y3_ => (ldq S0 eI (y3_.add 1) fun (y4_ : Int) => (K [(2, str y2_), (3, y4_)])))))) := by kernel_rfl
@[go_sem] theorem c69_o : c69.lo 1000000 = [2, 3] := rfl
@[go_sem] theorem c69_e (v2 : List UInt8) (v3 : Int) : RTp c69 [(2, str v2), (3, v3)] k = (k (.tuple #[str v2, v3])) := by kernel_rfl
theorem c69_ok : (c69.P.follows .mixedOrders && okc c69 c69.body) = true := by kernel_rfl
theorem c69_fn (hρ : envA 0 args.toList = ρ) (hs : Nat.ble args.size 14 = true) (h : E L (D c69 (.seq (.reg 0) (.seq (.seq (.reg 1) (.cond (.tmp 5) (.seq (.reg 2) (.ret)) (.skip))) (.seq (.reg 3) (.ret)))) (fnQ c69 e G) ρ)) : E L (cal e Tryz.prog 69 args G) :=
  d_fn (c := c69) Tryz.func69 (by kernel_rfl) (by kernel_rfl) (by kernel_rfl) c69_ok (by kernel_rfl) (by kernel_rfl) hρ hs h
noncomputable def c87 := cf Tryz.f87 49 [(0, [0, 1, 2]), (1, [0, 1, 2]), (2, []), (3, [0, 1, 2]), (4, []), (5, [0, 1, 2]), (6, [0, 1, 2, 8]), (7, [0, 1, 2, 8, 29, 30]), (8, [0, 1, 2, 8, 29, 30]), (9, [0, 1, 2, 8, 9, 29, 30]), (10, [0, 1, 2, 8, 29, 30]), (11, [0, 8])] [(0, [0, 1, 2]), (1, [0, 1, 2, 10]), (2, [6, 7]), (3, [0, 1, 2, 17]), (4, [6, 7]), (5, [0, 1, 2, 8]), (6, [0, 1, 2, 8, 29, 30]), (7, [0, 1, 2, 8, 29, 30, 31]), (8, [0, 1, 2, 8, 9, 29, 30]), (9, [0, 1, 2, 8, 29, 30]), (10, [0, 1, 2, 8, 29, 30]), (11, [6, 7]), (1000000, [6, 7])] [] []
@[go_sem] theorem c87_i : c87.li 0 = [0, 1, 2] ∧ c87.li 1 = [0, 1, 2] ∧ c87.li 2 = [] ∧ c87.li 3 = [0, 1, 2] ∧ c87.li 4 = [] ∧ c87.li 5 = [0, 1, 2] ∧ c87.li 6 = [0, 1, 2, 8] ∧ c87.li 7 = [0, 1, 2, 8, 29, 30] ∧ c87.li 8 = [0, 1, 2, 8, 29, 30] ∧ c87.li 9 = [0, 1, 2, 8, 9, 29, 30] ∧ c87.li 10 = [0, 1, 2, 8, 29, 30] ∧ c87.li 11 = [0, 8] := ⟨rfl, rfl, rfl, rfl, rfl, rfl, rfl, rfl, rfl, rfl, rfl, rfl⟩
@[go_sem] theorem c87_r0 (v0 : List UInt8) (v1 v2 : Int) : RP c87 0 [(0, str v0), (1, v1), (2, v2)] K =
 (K [(0, str v0), (1, v1), (2, v2)]) := by kernel_rfl
@[go_sem] theorem c87_r1 (v0 : List UInt8) (v1 v2 : Int) : RP c87 1 [(0, str v0), (1, v1), (2, v2)] K =
 (cnd (decide (v2 < 1)) (K [(0, str v0), (1, v1), (2, v2), (10, true)]) (K [(0, str v0), (1, v1), (2, v2), (10, decide (6 < v2))])) := by kernel_rfl
@[go_sem] theorem c87_r2 : RP c87 2 [] K =
 (K [(6, str ([] : List UInt8)), (7, .int .i64 1)]) := by kernel_rfl
@[go_sem] theorem c87_r3 (v0 : List UInt8) (v1 v2 : Int) : RP c87 3 [(0, str v0), (1, v1), (2, v2)] K =
 (cnd (decide (v1 < 0)) (K [(0, str v0), (1, v1), (2, v2), (17, true)]) (cal eI Tryz.prog 113 #[v2] fun (y1_ : Int) => (K [(0, str v0), (1, v1), (2, v2), (17, decide (y1_ ≤ v1))]))) := by kernel_rfl
@[go_sem] theorem c87_r4 : RP c87 4 [] K =
 (K [(6, str ([] : List UInt8)), (7, .int .i64 6)]) := by kernel_rfl
@[go_sem] theorem c87_r5 (v0 : List UInt8) (v1 v2 : Int) : RP c87 5 [(0, str v0), (1, v1), (2, v2)] K =
 (val eSl Tryz.prog (oMake 108 (v2) (v2)) fun (y1_ : (Option Addr × Nat × Nat)) => (K [(0, str v0), (1, v1), (2, v2), (8, .slice y1_.1 y1_.2.1 y1_.2.2)])) := by kernel_rfl
@[go_sem] theorem c87_r6 (v0 : List UInt8) (v1 v2 : Int) (v8p : Option Addr) (v8n v8c : Nat) : RP c87 6 [(0, str v0), (1, v1), (2, v2), (8, .slice v8p v8n v8c)] K =
 (K [(0, str v0), (1, v1), (2, v2), (8, .slice v8p v8n v8c), (29, .int .i64 (v8n : Int)), (30, .int .i64 0)]) := by kernel_rfl
@[go_sem] theorem c87_r7 (v0 : List UInt8) (v1 v2 : Int) (v8p : Option Addr) (v8n v8c : Nat) (v29 v30 : Int) : RP c87 7 [(0, str v0), (1, v1), (2, v2), (8, .slice v8p v8n v8c), (29, v29), (30, v30)] K =
 (K [(0, str v0), (1, v1), (2, v2), (8, .slice v8p v8n v8c), (29, v29), (30, v30), (31, decide (v30 < v29))]) := by kernel_rfl
@[go_sem] theorem c87_r8 (v0 : List UInt8) (v1 v2 : Int) (v8p : Option Addr) (v8n v8c : Nat) (v29 v30 : Int) : RP c87 8 [(0, str v0), (1, v1), (2, v2), (8, .slice v8p v8n v8c), (29, v29), (30, v30)] K =
 (K [(0, str v0), (1, v1), (2, v2), (8, .slice v8p v8n v8c), (9, v30), (29, v29), (30, v30)]) := by kernel_rfl
@[go_sem] theorem c87_r9 (v0 : List UInt8) (v1 v2 : Int) (v8p : Option Addr) (v8n v8c : Nat) (v9 v29 v30 : Int) : RP c87 9 [(0, str v0), (1, v1), (2, v2), (8, .slice v8p v8n v8c), (9, v9), (29, v29), (30, v30)] K =
 (rq (0 ≤ (IntKind.wrap .i64 ((8 : Int) * (IntKind.wrap .i64 ((IntKind.wrap .i64 (v2 - 1)) - v9))))) (rq (0 ≤ v9 ∧ v9 < v8n) (nn v8p fun y1_ => (st (Addr.add y1_ (v9.toNat * 1)) (.int .u8 (IntKind.wrap .u8 (v1.fdiv (2 ^ (min (IntKind.wrap .i64 ((8 : Int) * (IntKind.wrap .i64 ((IntKind.wrap .i64 (v2 - 1)) - v9)))).toNat 64))))) (K [(0, str v0), (1, v1), (2, v2), (8, .slice v8p v8n v8c), (29, v29), (30, v30)]))))) := by kernel_rfl
@[go_sem] theorem c87_r10 (v0 : List UInt8) (v1 v2 : Int) (v8p : Option Addr) (v8n v8c : Nat) (v29 v30 : Int) : RP c87 10 [(0, str v0), (1, v1), (2, v2), (8, .slice v8p v8n v8c), (29, v29), (30, v30)] K =
 (K [(0, str v0), (1, v1), (2, v2), (8, .slice v8p v8n v8c), (29, v29), (30, IntKind.wrap .i64 (v30 + 1))]) := by kernel_rfl
@[go_sem] theorem c87_r11 (v0 : List UInt8) (v8p : Option Addr) (v8n v8c : Nat) : RP c87 11 [(0, str v0), (8, .slice v8p v8n v8c)] K =
 (val eS Tryz.prog (oConv 108 9 (.slice v8p v8n v8c)) fun (y1_ : List UInt8) => (rq ((v0.length : Int) + (y1_.length : Int) ≤ 9223372036854775807) (K [(6, str (v0 ++ y1_)), (7, .int .i64 0)]))) := by kernel_rfl
@[go_sem] theorem c87_o : c87.lo 1000000 = [6, 7] := rfl
@[go_sem] theorem c87_e (v6 : List UInt8) (v7 : Int) : RTp c87 [(6, str v6), (7, v7)] k = (k (.tuple #[str v6, v7])) := by kernel_rfl
theorem c87_ok : (c87.P.follows .mixedOrders && okc c87 c87.body) = true := by kernel_rfl
theorem c87_fn (hρ : envA 0 args.toList = ρ) (hs : Nat.ble args.size 49 = true) (h : E L (D c87 (.seq (.reg 0) (.seq (.block 0 (.seq (.reg 1) (.cond (.tmp 10) (.seq (.reg 2) (.ret)) (.seq (.reg 3) (.cond (.tmp 17) (.seq (.reg 4) (.ret)) (.skip)))))) (.seq (.reg 5) (.seq (.seq (.reg 6) (.block 1 (.loop (.seq (.reg 7) (.seq (.cond (.tmp 31) (.skip) (.exit 1)) (.seq (.block 2 (.seq (.reg 8) (.reg 9))) (.reg 10))))))) (.seq (.reg 11) (.ret)))))) (fnQ c87 e G) ρ)) : E L (cal e Tryz.prog 87 args G) :=
  d_fn (c := c87) Tryz.func87 (by kernel_rfl) (by kernel_rfl) (by kernel_rfl) c87_ok (by kernel_rfl) (by kernel_rfl) hρ hs h
noncomputable def c96 := cf Tryz.f96 37 [(0, [0, 1]), (1, [0, 1]), (2, [0, 4, 5]), (3, [0, 5]), (4, [0, 4])] [(0, [0, 1, 14]), (1, [0, 4, 5]), (2, [0, 4, 5, 25]), (3, []), (4, []), (1000000, [])] [] []
@[go_sem] theorem c96_i : c96.li 0 = [0, 1] ∧ c96.li 1 = [0, 1] ∧ c96.li 2 = [0, 4, 5] ∧ c96.li 3 = [0, 5] ∧ c96.li 4 = [0, 4] := ⟨rfl, rfl, rfl, rfl, rfl⟩
@[go_sem] theorem c96_r0 (v0 : Option Addr) (v1f : Nat) (v1c : Array Value) : RP c96 0 [(0, v0), (1, .func (.func v1f) #[] v1c)] K =
 (cnd (v0.isNone) (K [(0, v0), (1, .func (.func v1f) #[] v1c), (14, true)]) (nn v0 fun y1_ => (ld eI (y1_.add 1) fun (y2_ : Int) => (K [(0, v0), (1, .func (.func v1f) #[] v1c), (14, .bool (y2_ != 0))])))) := by kernel_rfl
@[go_sem] theorem c96_r1 (v0 : Option Addr) (v1f : Nat) (v1c : Array Value) : RP c96 1 [(0, v0), (1, .func (.func v1f) #[] v1c)] K =
 (nn v0 fun y1_ => (ld eS y1_ fun (y2_ : List UInt8) => (ent Tryz.prog v1f (cal (eT2 eS eI) Tryz.prog v1f (#[str y2_] ++ v1c) fun (y3_ : ((List UInt8) × Int)) => (K [(0, v0), (4, str y3_.1), (5, y3_.2)]))))) := by kernel_rfl
@[go_sem] theorem c96_r2 (v0 : Option Addr) (v4 : List UInt8) (v5 : Int) : RP c96 2 [(0, v0), (4, str v4), (5, v5)] K =
 (K [(0, v0), (4, str v4), (5, v5), (25, .bool (v5 != 0))]) := by kernel_rfl
@[go_sem] theorem c96_r3 (v0 : Option Addr) (v5 : Int) : RP c96 3 [(0, v0), (5, v5)] K =
 (nn v0 fun y1_ => (st y1_ (str ([] : List UInt8)) (nn v0 fun y2_ => (st (y2_.add 1) (v5) (K []))))) := by kernel_rfl
@[go_sem] theorem c96_r4 (v0 : Option Addr) (v4 : List UInt8) : RP c96 4 [(0, v0), (4, str v4)] K =
 (nn v0 fun y1_ => (st y1_ (str v4) (K []))) := by kernel_rfl
@[go_sem] theorem c96_o : c96.lo 1000000 = [] := rfl
@[go_sem] theorem c96_e : RTp c96 [] k = (k (.tuple #[])) := by kernel_rfl
theorem c96_ok : (c96.P.follows .mixedOrders && okc c96 c96.body) = true := by kernel_rfl
theorem c96_fn (hρ : envA 0 args.toList = ρ) (hs : Nat.ble args.size 37 = true) (h : E L (D c96 (.seq (.seq (.reg 0) (.cond (.tmp 14) (.ret) (.skip))) (.seq (.reg 1) (.seq (.seq (.reg 2) (.cond (.tmp 25) (.seq (.reg 3) (.ret)) (.skip))) (.reg 4)))) (fnQ c96 e G) ρ)) : E L (cal e Tryz.prog 96 args G) :=
  d_fn (c := c96) Tryz.func96 (by kernel_rfl) (by kernel_rfl) (by kernel_rfl) c96_ok (by kernel_rfl) (by kernel_rfl) hρ hs h
noncomputable def c97 := cf Tryz.f97 12 [(0, [0, 1, 2]), (1, [0, 1, 2])] [(0, [0, 1, 2]), (1, [4, 5]), (1000000, [4, 5])] [] []
@[go_sem] theorem c97_i : c97.li 0 = [0, 1, 2] ∧ c97.li 1 = [0, 1, 2] := ⟨rfl, rfl⟩
@[go_sem] theorem c97_r0 (v0 : List UInt8) (v1 v2 : Addr) : RP c97 0 [(0, str v0), (1, v1), (2, v2)] K =
 (K [(0, str v0), (1, v1), (2, v2)]) := by kernel_rfl
@[go_sem] theorem c97_r1 (v0 : List UInt8) (v1 v2 : Addr) : RP c97 1 [(0, str v0), (1, v1), (2, v2)] K =
 (ld eI v1 fun (y1_ : Int) => (ld eI v2 fun (y2_ : Int) => (cal (eT2 eS eI) Tryz.prog 87 #[str v0, y1_, y2_] fun (y3_ : ((List UInt8) × Int)) => (K [(4, str y3_.1), (5, y3_.2)])))) := by kernel_rfl
@[go_sem] theorem c97_o : c97.lo 1000000 = [4, 5] := rfl
@[go_sem] theorem c97_e (v4 : List UInt8) (v5 : Int) : RTp c97 [(4, str v4), (5, v5)] k = (k (.tuple #[str v4, v5])) := by kernel_rfl
theorem c97_ok : (c97.P.follows .mixedOrders && okc c97 c97.body) = true := by kernel_rfl
theorem c97_fn (hρ : envA 0 args.toList = ρ) (hs : Nat.ble args.size 12 = true) (h : E L (D c97 (.seq (.reg 0) (.seq (.reg 1) (.ret))) (fnQ c97 e G) ρ)) : E L (cal e Tryz.prog 97 args G) :=
  d_fn (c := c97) Tryz.func97 (by kernel_rfl) (by kernel_rfl) (by kernel_rfl) c97_ok (by kernel_rfl) (by kernel_rfl) hρ hs h
noncomputable def c113 := cf Tryz.f113 6 [(0, [0]), (1, [0])] [(0, [0]), (1, [2]), (1000000, [2])] [] []
@[go_sem] theorem c113_i : c113.li 0 = [0] ∧ c113.li 1 = [0] := ⟨rfl, rfl⟩
@[go_sem] theorem c113_r0 (v0 : Int) : RP c113 0 [(0, v0)] K =
 (K [(0, v0)]) := by kernel_rfl
@[go_sem] theorem c113_r1 (v0 : Int) : RP c113 1 [(0, v0)] K =
 (rq (0 ≤ (IntKind.wrap .i64 ((8 : Int) * v0))) (K [(2, IntKind.wrap .i64 ((1 : Int) * 2 ^ (min (IntKind.wrap .i64 ((8 : Int) * v0)).toNat 64)))])) := by kernel_rfl
@[go_sem] theorem c113_o : c113.lo 1000000 = [2] := rfl
@[go_sem] theorem c113_e (v2 : Int) : RTp c113 [(2, v2)] k = (k (v2)) := by kernel_rfl
theorem c113_ok : (c113.P.follows .mixedOrders && okc c113 c113.body) = true := by kernel_rfl
theorem c113_fn (hρ : envA 0 args.toList = ρ) (hs : Nat.ble args.size 6 = true) (h : E L (D c113 (.seq (.reg 0) (.seq (.reg 1) (.ret))) (fnQ c113 e G) ρ)) : E L (cal e Tryz.prog 113 args G) :=
  d_fn (c := c113) Tryz.func113 (by kernel_rfl) (by kernel_rfl) (by kernel_rfl) c113_ok (by kernel_rfl) (by kernel_rfl) hρ hs h
noncomputable def c135 := cf Tryz.f135 7 [(0, [0, 1]), (1, [0, 3])] [(0, [0, 3]), (1, []), (1000000, [])] [] []
@[go_sem] theorem c135_i : c135.li 0 = [0, 1] ∧ c135.li 1 = [0, 3] := ⟨rfl, rfl⟩
@[go_sem] theorem c135_r0 (v0 : Option Addr) (v1 : List UInt8) : RP c135 0 [(0, v0), (1, str v1)] K =
 (nwc #[str v1] 9 fun y1_ => (K [(0, v0), (3, y1_)])) := by kernel_rfl
@[go_sem] theorem c135_r1 (v0 : Option Addr) (v3 : Addr) : RP c135 1 [(0, v0), (3, v3)] K =
 (cal eN Tryz.prog 96 #[v0, .func (.func 156) #[] #[v3]] fun (y1_ : Unit) => (K [])) := by kernel_rfl
@[go_sem] theorem c135_o : c135.lo 1000000 = [] := rfl
@[go_sem] theorem c135_e : RTp c135 [] k = (k (.tuple #[])) := by kernel_rfl
theorem c135_ok : (c135.P.follows .mixedOrders && okc c135 c135.body) = true := by kernel_rfl
theorem c135_fn (hρ : envA 0 args.toList = ρ) (hs : Nat.ble args.size 7 = true) (h : E L (D c135 (.seq (.reg 0) (.reg 1)) (fnQ c135 e G) ρ)) : E L (cal e Tryz.prog 135 args G) :=
  d_fn (c := c135) Tryz.func135 (by kernel_rfl) (by kernel_rfl) (by kernel_rfl) c135_ok (by kernel_rfl) (by kernel_rfl) hρ hs h
noncomputable def c156 := cf Tryz.f156 10 [(0, [0, 1]), (1, [0, 1])] [(0, [0, 1]), (1, [3, 4]), (1000000, [3, 4])] [] []
@[go_sem] theorem c156_i : c156.li 0 = [0, 1] ∧ c156.li 1 = [0, 1] := ⟨rfl, rfl⟩
@[go_sem] theorem c156_r0 (v0 : List UInt8) (v1 : Addr) : RP c156 0 [(0, str v0), (1, v1)] K =
 (K [(0, str v0), (1, v1)]) := by kernel_rfl
@[go_sem] theorem c156_r1 (v0 : List UInt8) (v1 : Addr) : RP c156 1 [(0, str v0), (1, v1)] K =
 (ld eS v1 fun (y1_ : List UInt8) => (cal (eT2 eS eI) Tryz.prog 157 #[str v0, str y1_] fun (y2_ : ((List UInt8) × Int)) => (K [(3, str y2_.1), (4, y2_.2)]))) := by kernel_rfl
@[go_sem] theorem c156_o : c156.lo 1000000 = [3, 4] := rfl
@[go_sem] theorem c156_e (v3 : List UInt8) (v4 : Int) : RTp c156 [(3, str v3), (4, v4)] k = (k (.tuple #[str v3, v4])) := by kernel_rfl
theorem c156_ok : (c156.P.follows .mixedOrders && okc c156 c156.body) = true := by kernel_rfl
theorem c156_fn (hρ : envA 0 args.toList = ρ) (hs : Nat.ble args.size 10 = true) (h : E L (D c156 (.seq (.reg 0) (.seq (.reg 1) (.ret))) (fnQ c156 e G) ρ)) : E L (cal e Tryz.prog 156 args G) :=
  d_fn (c := c156) Tryz.func156 (by kernel_rfl) (by kernel_rfl) (by kernel_rfl) c156_ok (by kernel_rfl) (by kernel_rfl) hρ hs h
noncomputable def c157 := cf Tryz.f157 20 [(0, [0, 1]), (1, [0, 1]), (2, []), (3, [0, 1]), (4, [0, 1])] [(0, [0, 1]), (1, [0, 1, 9]), (2, [4, 5]), (3, [0, 1]), (4, [4, 5]), (1000000, [4, 5])] [] []
@[go_sem] theorem c157_i : c157.li 0 = [0, 1] ∧ c157.li 1 = [0, 1] ∧ c157.li 2 = [] ∧ c157.li 3 = [0, 1] ∧ c157.li 4 = [0, 1] := ⟨rfl, rfl, rfl, rfl, rfl⟩
@[go_sem] theorem c157_r0 (v0 v1 : List UInt8) : RP c157 0 [(0, str v0), (1, str v1)] K =
 (K [(0, str v0), (1, str v1)]) := by kernel_rfl
@[go_sem] theorem c157_r1 (v0 v1 : List UInt8) : RP c157 1 [(0, str v0), (1, str v1)] K =
 (cal eI Tryz.prog 113 #[.int .i64 2] fun (y1_ : Int) => (K [(0, str v0), (1, str v1), (9, decide (y1_ ≤ (v1.length : Int)))])) := by kernel_rfl
@[go_sem] theorem c157_r2 : RP c157 2 [] K =
 (K [(4, str ([] : List UInt8)), (5, .int .i64 3)]) := by kernel_rfl
@[go_sem] theorem c157_r3 (v0 v1 : List UInt8) : RP c157 3 [(0, str v0), (1, str v1)] K =
 (cal (eT2 eS eI) Tryz.prog 87 #[str v0, .int .i64 (v1.length : Int), .int .i64 2] fun (y1_ : ((List UInt8) × Int)) => (K [(0, str y1_.1), (1, str v1)])) := by kernel_rfl
@[go_sem] theorem c157_r4 (v0 v1 : List UInt8) : RP c157 4 [(0, str v0), (1, str v1)] K =
 (rq ((v0.length : Int) + (v1.length : Int) ≤ 9223372036854775807) (K [(4, str (v0 ++ v1)), (5, .int .i64 0)])) := by kernel_rfl
@[go_sem] theorem c157_o : c157.lo 1000000 = [4, 5] := rfl
@[go_sem] theorem c157_e (v4 : List UInt8) (v5 : Int) : RTp c157 [(4, str v4), (5, v5)] k = (k (.tuple #[str v4, v5])) := by kernel_rfl
theorem c157_ok : (c157.P.follows .mixedOrders && okc c157 c157.body) = true := by kernel_rfl
theorem c157_fn (hρ : envA 0 args.toList = ρ) (hs : Nat.ble args.size 20 = true) (h : E L (D c157 (.seq (.reg 0) (.seq (.seq (.reg 1) (.cond (.tmp 9) (.seq (.reg 2) (.ret)) (.skip))) (.seq (.reg 3) (.seq (.reg 4) (.ret))))) (fnQ c157 e G) ρ)) : E L (cal e Tryz.prog 157 args G) :=
  d_fn (c := c157) Tryz.func157 (by kernel_rfl) (by kernel_rfl) (by kernel_rfl) c157_ok (by kernel_rfl) (by kernel_rfl) hρ hs h
end Go.Sp
namespace Go.Sp
open Go Go.Proofs
set_option linter.unusedSimpArgs false
set_option linter.unusedVariables false
set_option maxRecDepth 10000
theorem cases6 {w : Nat} (h : w ≤ 6) : w = 0 ∨ w = 1 ∨ w = 2 ∨ w = 3 ∨ w = 4 ∨ w = 5 ∨ w = 6 := by omega
theorem f119 (w : Nat) (h : w ≤ 6) : Fp eI Tryz.prog 113 #[.int .i64 (w : Int)] [] ((256 ^ w : Nat) : Int) := fun L => by
  refine c113_fn rfl rfl ?_
  have e : IntKind.wrap .i64 (8 * (w : Int)) = ((8 * w : Nat) : Int) := by rw [w64 (by omega) (by omega)]; omega
  repeat' (first | rw [e] | first | (with_reducible first | refine d_seq fun K hK => ?_ | (refine hK _ _ ?_; clear hK K) | (refine SG.p ?_; try intro b) | refine SP.p ?_) | refine i_c ?_ ?_ <;> intro hc <;> try simp only [push_cast, seval] at hc | refine i_x ?_ | clear hK K)
  (with_reducible first | apply i_ret0 | apply i_ret2 | apply i_ret3 | apply i_ret); exact rfl
  rcases cases6 h with rfl | rfl | rfl | rfl | rfl | rfl | rfl <;> decide
theorem lowb_get (n : Int) : ∀ (w i : Nat), i < w → (lowb n w)[i]? = some (UInt8.ofNat ((n / 256 ^ (w - 1 - i)) % 256).toNat)
  | w + 1, 0, _ => by simp [lowb]
  | w + 1, i + 1, h => by
    have := lowb_get n w i (by omega)
    have e : w + 1 - 1 - (i + 1) = w - 1 - i := by omega
    simp only [lowb, List.getElem?_cons_succ, this, e]
def putN (s : List UInt8) (n : Int) (w : Nat) : List UInt8 × Int := if n < 0 ∨ ((256 ^ w : Nat) : Int) ≤ n then ([], 6) else (s ++ lowb n w, 0)
theorem p256 {w : Nat} (h : w ≤ 6) : ((256 ^ w : Nat) : Int) ≤ 281474976710656 := by
  have : 256 ^ w ≤ 256 ^ 6 := Nat.pow_le_pow_right (by decide) h
  have h3 : (256 : Nat) ^ 6 = 281474976710656 := by decide
  omega
theorem shr8 (n : Int) (k : Nat) : n.fdiv (2 ^ (8 * k)) = n / 256 ^ k := by
  rw [Int.fdiv_eq_ediv_of_nonneg _ (Int.pow_nonneg (by decide)), Int.pow_mul]
  rfl
theorem wrap_byte (m : Int) : IntKind.wrap .u8 m = ((UInt8.ofNat (m % 256).toNat).toNat : Int) := by
  rw [IntKind.wrap_u8]
  have : (m % 256).toNat < 256 := by omega
  simp only [UInt8.toNat_ofNat']
  omega
theorem part_set {α : Type} {l : List α} {z x : α} {i w : Nat} (hi : i < w) (hl : l.length = w) (hx : l[i]? = some x) : (l.take i ++ List.replicate (w - i) z).set i x = l.take (i + 1) ++ List.replicate (w - (i + 1)) z := by
  have e : w - i = (w - (i + 1)) + 1 := by omega
  have h : i < l.length := by omega
  rw [List.set_append_right _ _ (by simp; omega), e, List.replicate_succ]
  have e2 : i - (l.take i).length = 0 := by simp; omega
  rw [e2, List.set_cons_zero, List.take_succ_eq_append_getElem h]
  rw [List.getElem?_eq_getElem h] at hx
  simp only [Option.some.injEq] at hx
  rw [hx]
  simp
theorem f97 (s : List UInt8) (n : Int) (w : Nat) (h1 : 1 ≤ w) (h6 : w ≤ 6) (hs : s.length ≤ 4611686018427387904) : Fp (eT2 eS eI) Tryz.prog 87 #[str s, .int .i64 n, .int .i64 (w : Int)] [] (putN s n w) := fun L => by
  have hp := p256 h6
  have h119 := f119 w h6
  refine c87_fn rfl rfl ?_
  unfold putN
  generalize 256 ^ w = P at *
  by_cases h0 : n < 0
  · rw [if_pos (.inl h0)]
    repeat' (first | (with_reducible first | refine d_seq fun K hK => ?_ | (refine hK _ _ ?_; clear hK K) | (refine SG.p ?_; try intro b)) | refine i_c ?_ ?_ <;> intro hc <;> try simp only [push_cast, seval] at hc | refine i_x ?_ | clear hK K)
    all_goals try (first | contradiction | (simp only [ reduceCtorEq] at *; done) | (exfalso; omega))
    (with_reducible first | apply i_ret0 | apply i_ret2 | apply i_ret3 | apply i_ret); exact rfl
    rfl
  · by_cases hL : (P : Int) ≤ n
    · rw [if_pos (.inr hL)]
      repeat' (first | (with_reducible first | refine d_seq fun K hK => ?_ | (refine hK _ _ ?_; clear hK K) | (refine SG.p ?_; try intro b)) | refine i_c ?_ ?_ <;> intro hc <;> try simp only [push_cast, seval] at hc | refine i_x ?_ | clear hK K)
      all_goals try (first | contradiction | (simp only [ reduceCtorEq] at *; done) | (exfalso; omega))
      refine i_clp h119 ?_
      repeat' (first | (with_reducible first | refine d_seq fun K hK => ?_ | (refine hK _ _ ?_; clear hK K) | (refine SG.p ?_; try intro b)) | refine i_c ?_ ?_ <;> intro hc <;> try simp only [push_cast, seval] at hc | refine i_x ?_ | clear hK K)
      all_goals try (first | contradiction | (simp only [ reduceCtorEq] at *; done) | (exfalso; omega))
      (with_reducible first | apply i_ret0 | apply i_ret2 | apply i_ret3 | apply i_ret); exact rfl
      rfl
    · rw [if_neg (by omega)]
      repeat' (first | (with_reducible first | refine d_seq fun K hK => ?_ | (refine hK _ _ ?_; clear hK K) | (refine SG.p ?_; try intro b)) | refine i_c ?_ ?_ <;> intro hc <;> try simp only [push_cast, seval] at hc | refine i_x ?_ | clear hK K)
      all_goals try (first | contradiction | (simp only [ reduceCtorEq] at *; done) | (exfalso; omega))
      refine i_clp h119 ?_
      repeat' (first | (with_reducible first | refine d_seq fun K hK => ?_ | (refine hK _ _ ?_; clear hK K) | (refine SG.p ?_; try intro b)) | refine i_c ?_ ?_ <;> intro hc <;> try simp only [push_cast, seval] at hc | refine i_x ?_ | clear hK K)
      all_goals try (first | contradiction | (simp only [ reduceCtorEq] at *; done) | (exfalso; omega))
      refine r_mkb (el := 5) w (by kernel_rfl) rfl (by omega) fun b => ?_
      repeat' (first | (with_reducible first | refine d_seq fun K hK => ?_ | (refine hK _ _ ?_; clear hK K) | (refine SG.p ?_; try intro b)) | refine i_c ?_ ?_ <;> intro hc <;> try simp only [push_cast, seval] at hc | refine i_x ?_ | clear hK K)
      refine d_lp [0, 1, 2, 8, 29, 30] (fun i : Nat => [(0, str s), (1, .int .i64 n), (2, .int .i64 (w : Int)), (8, .slice (some ⟨b, 0, none⟩) w w), (29, .int .i64 (w : Int)), (30, .int .i64 (i : Int))])
        (fun i => ar b 5 (cb ((lowb n w).take i ++ List.replicate (w - i) 0)) :: L) (fun i => i ≤ w) (fun i => w - i) 0 rfl ?_ (by omega) ?_
      · have e : (lowb n w).take 0 ++ List.replicate (w - 0) (0 : UInt8) = List.replicate w 0 := by simp
        rw [e]
        exact SX.p
      intro i hi
      repeat' (first | (with_reducible first | refine d_seq fun K hK => ?_ | (refine hK _ _ ?_; clear hK K) | (refine SG.p ?_; try intro b)) | refine i_c ?_ ?_ <;> intro hc <;> try simp only [push_cast, seval] at hc | refine i_x ?_ | clear hK K)
      · have e1 : IntKind.wrap .i64 (8 * IntKind.wrap .i64 (IntKind.wrap .i64 ((w : Int) - 1) - (i : Int))) = ((8 * (w - 1 - i) : Nat) : Int) := by
          rw [w64 (n := (w : Int) - 1) (by omega) (by omega), w64 (n := (w : Int) - 1 - (i : Int)) (by omega) (by omega), w64 (by omega) (by omega)]; omega
        rw [e1]
        have e2 : min (8 * (w - 1 - i)) 64 = 8 * (w - 1 - i) := by omega
        refine r_rq (by omega) ?_
        refine r_rq (by omega) ?_
        rw [Int.toNat_natCast, e2, shr8, wrap_byte]
        have hl := lowb_len n w
        have hx := lowb_get n w i (by omega)
        refine r_bs _ .here (by rw [List.length_append, List.length_take, List.length_replicate]; omega) rfl ?_
        rw [part_set (by omega) hl hx]
        repeat' (first | (with_reducible first | refine d_seq fun K hK => ?_ | (refine hK _ _ ?_; clear hK K) | (refine SG.p ?_; try intro b)) | refine i_c ?_ ?_ <;> intro hc <;> try simp only [push_cast, seval] at hc | refine i_x ?_ | clear hK K)
        rw [w64 (by omega) (by omega)]
        exact i_bk (i + 1) rfl (by omega) (by omega)
      · obtain rfl : i = w := by omega
        have hl := lowb_len n i
        have e : (lowb n i).take i ++ List.replicate (i - i) (0 : UInt8) = lowb n i := by rw [List.take_of_length_le (by omega)]; simp
        rw [e]
        refine r_conv (bs := lowb n i) (by kernel_rfl) ((Rs_ar (by rw [cb_len]; omega)).eqn rfl) .here ?_
        repeat' (first | (with_reducible first | refine d_seq fun K hK => ?_ | (refine hK _ _ ?_; clear hK K) | (refine SG.p ?_; try intro b) | refine SP.p ?_) | refine i_c ?_ ?_ <;> intro hc <;> try simp only [push_cast, seval] at hc | refine i_x ?_ | clear hK K)
        (with_reducible first | apply i_ret0 | apply i_ret2 | apply i_ret3 | apply i_ret); exact rfl
        rfl
def putT (s t : List UInt8) : List UInt8 × Int := if 65536 ≤ t.length then ([], 3) else (s ++ lowb (t.length : Int) 2 ++ t, 0)
theorem f117 (s t : List UInt8) (hs : s.length ≤ 2305843009213693952) : Fp (eT2 eS eI) Tryz.prog 157 #[str s, str t] [] (putT s t) := fun L => by
  have e2 : ((256 ^ 2 : Nat) : Int) = 65536 := by decide
  have h119 : Fp eI Tryz.prog 113 #[.int .i64 2] [] 65536 := by
    have := f119 2 (by decide)
    rw [e2] at this
    exact this
  unfold putT
  refine c157_fn rfl rfl ?_
  by_cases h : 65536 ≤ t.length
  · rw [if_pos h]
    clear e2
    repeat' (first | (with_reducible first | refine d_seq fun K hK => ?_ | (refine hK _ _ ?_; clear hK K) | (refine SG.p ?_; try intro b)) | refine i_c ?_ ?_ <;> intro hc <;> try simp only [push_cast, seval] at hc | refine i_x ?_ | clear hK K)
    refine i_clp h119 ?_
    repeat' (first | (with_reducible first | refine d_seq fun K hK => ?_ | (refine hK _ _ ?_; clear hK K) | (refine SG.p ?_; try intro b)) | refine i_c ?_ ?_ <;> intro hc <;> try simp only [push_cast, seval] at hc | refine i_x ?_ | clear hK K)
    all_goals try (exfalso; omega)
    (with_reducible first | apply i_ret0 | apply i_ret2 | apply i_ret3 | apply i_ret); exact rfl
    rfl
  · rw [if_neg h]
    have F := f97 s (t.length : Int) 2 (by decide) (by decide) (by omega)
    have e : putN s (t.length : Int) 2 = (s ++ lowb (t.length : Int) 2, 0) := by
      unfold putN
      rw [if_neg (by rw [e2]; omega)]
    clear e2
    rw [e] at F
    have hl := lowb_len (t.length : Int) 2
    repeat' (first | (with_reducible first | refine d_seq fun K hK => ?_ | (refine hK _ _ ?_; clear hK K) | (refine SG.p ?_; try intro b)) | refine i_c ?_ ?_ <;> intro hc <;> try simp only [push_cast, seval] at hc | refine i_x ?_ | clear hK K)
    refine i_clp h119 ?_
    repeat' (first | (with_reducible first | refine d_seq fun K hK => ?_ | (refine hK _ _ ?_; clear hK K) | (refine SG.p ?_; try intro b)) | refine i_c ?_ ?_ <;> intro hc <;> try simp only [push_cast, seval] at hc | refine i_x ?_ | clear hK K)
    all_goals try (exfalso; omega)
    refine i_clp F ?_
    repeat' (first | (with_reducible first | refine d_seq fun K hK => ?_ | (refine hK _ _ ?_; clear hK K) | (refine SG.p ?_; try intro b)) | refine i_c ?_ ?_ <;> intro hc <;> try simp only [push_cast, seval] at hc | refine i_x ?_ | clear hK K)
    refine r_rq (by rw [List.length_append]; omega) ?_
    repeat' (first | (with_reducible first | refine d_seq fun K hK => ?_ | (refine hK _ _ ?_; clear hK K) | (refine SG.p ?_; try intro b)) | refine i_c ?_ ?_ <;> intro hc <;> try simp only [push_cast, seval] at hc | refine i_x ?_ | clear hK K)
    (with_reducible first | apply i_ret0 | apply i_ret2 | apply i_ret3 | apply i_ret); exact rfl
    rfl
abbrev Wt := List UInt8 × Int
def lay1 (r q : Wt) : Wt := if r.2 ≠ 0 then r else if q.2 ≠ 0 then ([], q.2) else (q.1, 0)
abbrev wr (b : Nat) (r : Wt) : HP := ar b 132 [str r.1, .int .i64 r.2]
theorem Takes.there {L A R : List HP} {y : HP} (t : Takes L A R) : Takes (y :: L) A (y :: R) := by
  induction t with
  | nil => exact .nil
  | cons h _ ih => exact .cons (.there h) ih
theorem f115 (b : Nat) (r q : Wt) (f : Nat) (cap : Array Value) (C : List HP) (he : entered Tryz.prog f = true) (H : Fp (eT2 eS eI) Tryz.prog f (#[str r.1] ++ cap) C q) :
    Fq eN Tryz.prog 96 #[.pointer (some ⟨b, 0, none⟩), .func (.func f) #[] cap] (wr b r :: C) (wr b (lay1 r q) :: C) () := fun L => by
  obtain ⟨s, e⟩ := r
  obtain ⟨s', e'⟩ := q
  unfold lay1
  by_cases h0 : e = 0
  · subst h0
    by_cases h1 : e' = 0
    · subst h1
      rw [if_neg (by simp), if_neg (by simp)]
      refine c96_fn rfl rfl ?_
      repeat' (first | (with_reducible first | refine d_seq fun K hK => ?_ | (refine hK _ _ ?_; clear hK K) | (refine SG.p ?_; try intro b)) | refine i_c ?_ ?_ <;> intro hc <;> try simp only [push_cast, seval] at hc | refine i_x ?_ | clear hK K)
      all_goals try (first | contradiction | (simp only [ reduceCtorEq] at *; done) | (exfalso; omega))
      unfold ent
      rw [he]
      have : TX (wr b (s, 0) :: (C ++ L)) C (wr b (s, 0) :: L) := ⟨(Takes.all C).there⟩
      refine i_clp H ?_
      repeat' (first | (with_reducible first | refine d_seq fun K hK => ?_ | (refine hK _ _ ?_; clear hK K) | (refine SG.p ?_; try intro b)) | refine i_c ?_ ?_ <;> intro hc <;> try simp only [push_cast, seval] at hc | refine i_x ?_ | clear hK K)
      all_goals try (first | contradiction | (simp only [ reduceCtorEq] at *; done) | (exfalso; omega))
      (with_reducible first | apply i_ret0 | apply i_ret2 | apply i_ret3 | apply i_ret); exact rfl
    · rw [if_neg (by simp), if_pos h1]
      refine c96_fn rfl rfl ?_
      repeat' (first | (with_reducible first | refine d_seq fun K hK => ?_ | (refine hK _ _ ?_; clear hK K) | (refine SG.p ?_; try intro b)) | refine i_c ?_ ?_ <;> intro hc <;> try simp only [push_cast, seval] at hc | refine i_x ?_ | clear hK K)
      all_goals try (first | contradiction | (simp only [ reduceCtorEq] at *; done) | (exfalso; omega))
      unfold ent
      rw [he]
      have : TX (wr b (s, 0) :: (C ++ L)) C (wr b (s, 0) :: L) := ⟨(Takes.all C).there⟩
      refine i_clp H ?_
      repeat' (first | (with_reducible first | refine d_seq fun K hK => ?_ | (refine hK _ _ ?_; clear hK K) | (refine SG.p ?_; try intro b)) | refine i_c ?_ ?_ <;> intro hc <;> try simp only [push_cast, seval] at hc | refine i_x ?_ | clear hK K)
      all_goals try (first | contradiction | (simp only [ reduceCtorEq] at *; done) | (exfalso; omega))
      (with_reducible first | apply i_ret0 | apply i_ret2 | apply i_ret3 | apply i_ret); exact rfl
  · rw [if_pos h0]
    refine c96_fn rfl rfl ?_
    repeat' (first | (with_reducible first | refine d_seq fun K hK => ?_ | (refine hK _ _ ?_; clear hK K) | (refine SG.p ?_; try intro b)) | refine i_c ?_ ?_ <;> intro hc <;> try simp only [push_cast, seval] at hc | refine i_x ?_ | clear hK K)
    all_goals try (first | contradiction | (simp only [ reduceCtorEq] at *; done) | (exfalso; omega))
    (with_reducible first | apply i_ret0 | apply i_ret2 | apply i_ret3 | apply i_ret); exact rfl
theorem f95 (q : Nat) (r : Wt) (n : Int) (w : Nat) (h1 : 1 ≤ w) (h6 : w ≤ 6) (hs : r.1.length ≤ 2305843009213693952) :
    Fq eN Tryz.prog 68 #[.pointer (some ⟨q, 0, none⟩), .int .i64 n, .int .i64 (w : Int)] [wr q r] [wr q (lay1 r (putN r.1 n w))] () := fun L => by
  refine c68_fn rfl rfl ?_
  repeat' (first | (with_reducible first | refine d_seq fun K hK => ?_ | (refine hK _ _ ?_; clear hK K) | (refine SG.p ?_; try intro b)) | refine i_c ?_ ?_ <;> intro hc <;> try simp only [push_cast, seval] at hc | refine i_x ?_ | clear hK K)
  rename_i b1
  have H : Fp (eT2 eS eI) Tryz.prog 97 #[str r.1, .pointer (some ⟨b1, 0, none⟩), .pointer (some ⟨b, 0, none⟩)] [ar b1 3 [.int .i64 n], ar b 3 [.int .i64 (w : Int)]] (putN r.1 n w) := fun L => by
    refine c97_fn rfl rfl ?_
    repeat' (first | (with_reducible first | refine d_seq fun K hK => ?_ | (refine hK _ _ ?_; clear hK K) | (refine SG.p ?_; try intro b)) | refine i_c ?_ ?_ <;> intro hc <;> try simp only [push_cast, seval] at hc | refine i_x ?_ | clear hK K)
    refine i_clp (f97 r.1 n w h1 h6 (by omega)) ?_
    repeat' (first | (with_reducible first | refine d_seq fun K hK => ?_ | (refine hK _ _ ?_; clear hK K) | (refine SG.p ?_; try intro b)) | refine i_c ?_ ?_ <;> intro hc <;> try simp only [push_cast, seval] at hc | refine i_x ?_ | clear hK K)
    (with_reducible first | apply i_ret0 | apply i_ret2 | apply i_ret3 | apply i_ret); exact rfl
    rfl
  refine i_clq (f115 q r _ 97 #[.pointer (some ⟨b1, 0, none⟩), .pointer (some ⟨b, 0, none⟩)] _ (by kernel_rfl) H) ?_
  repeat' (first | (with_reducible first | refine d_seq fun K hK => ?_ | (refine hK _ _ ?_; clear hK K) | (refine SG.p ?_; try intro b)) | refine i_c ?_ ?_ <;> intro hc <;> try simp only [push_cast, seval] at hc | refine i_x ?_ | clear hK K)
  (with_reducible first | apply i_ret0 | apply i_ret2 | apply i_ret3 | apply i_ret); exact rfl
theorem f94 (q : Nat) (r : Wt) (t : List UInt8) (hs : r.1.length ≤ 2305843009213693952) :
    Fq eN Tryz.prog 135 #[.pointer (some ⟨q, 0, none⟩), str t] [wr q r] [wr q (lay1 r (putT r.1 t))] () := fun L => by
  refine c135_fn rfl rfl ?_
  repeat' (first | (with_reducible first | refine d_seq fun K hK => ?_ | (refine hK _ _ ?_; clear hK K) | (refine SG.p ?_; try intro b)) | refine i_c ?_ ?_ <;> intro hc <;> try simp only [push_cast, seval] at hc | refine i_x ?_ | clear hK K)
  have H : Fp (eT2 eS eI) Tryz.prog 156 #[str r.1, .pointer (some ⟨b, 0, none⟩)] [ar b 9 [str t]] (putT r.1 t) := fun L => by
    refine c156_fn rfl rfl ?_
    repeat' (first | (with_reducible first | refine d_seq fun K hK => ?_ | (refine hK _ _ ?_; clear hK K) | (refine SG.p ?_; try intro b)) | refine i_c ?_ ?_ <;> intro hc <;> try simp only [push_cast, seval] at hc | refine i_x ?_ | clear hK K)
    refine i_clp (f117 r.1 t hs) ?_
    repeat' (first | (with_reducible first | refine d_seq fun K hK => ?_ | (refine hK _ _ ?_; clear hK K) | (refine SG.p ?_; try intro b)) | refine i_c ?_ ?_ <;> intro hc <;> try simp only [push_cast, seval] at hc | refine i_x ?_ | clear hK K)
    (with_reducible first | apply i_ret0 | apply i_ret2 | apply i_ret3 | apply i_ret); exact rfl
    rfl
  refine i_clq (f115 q r _ 156 #[.pointer (some ⟨b, 0, none⟩)] _ (by kernel_rfl) H) ?_
  repeat' (first | (with_reducible first | refine d_seq fun K hK => ?_ | (refine hK _ _ ?_; clear hK K) | (refine SG.p ?_; try intro b)) | refine i_c ?_ ?_ <;> intro hc <;> try simp only [push_cast, seval] at hc | refine i_x ?_ | clear hK K)
  (with_reducible first | apply i_ret0 | apply i_ret2 | apply i_ret3 | apply i_ret); exact rfl
theorem f96 (q : Nat) (r : Wt) : Fp (eT2 eS eI) Tryz.prog 69 #[.pointer (some ⟨q, 0, none⟩)] [wr q r] r := fun L => by
  refine c69_fn rfl rfl ?_
  repeat' (first | (with_reducible first | refine d_seq fun K hK => ?_ | (refine hK _ _ ?_; clear hK K) | (refine SG.p ?_; try intro b) | refine SP.p ?_) | refine i_c ?_ ?_ <;> intro hc <;> try simp only [push_cast, seval] at hc | refine i_x ?_ | clear hK K)
  (with_reducible first | apply i_ret0 | apply i_ret2 | apply i_ret3 | apply i_ret); exact rfl
  rfl
end Go.Sp
namespace Go.Sp
open Go
set_option maxRecDepth 100000
set_option linter.unusedVariables false
open Go.Proofs
variable (K : Env → W) (k : Value → W) {e : Enc} {args : Array Value} {G : e.α → W} {L : List HP} {ρ : Env}
attribute [local instance] cI cB cP cA
noncomputable def c77 := cf Tryz.f77 18 [(0, [0]), (1, [0]), (2, []), (3, [0]), (4, [0, 4]), (5, []), (6, [0])] [(0, [0]), (1, [0, 7]), (2, [2, 3]), (3, [0, 4]), (4, [0, 15]), (5, [2, 3]), (6, [2, 3]), (1000000, [2, 3])] [] []
@[go_sem] theorem c77_i : c77.li 0 = [0] ∧ c77.li 1 = [0] ∧ c77.li 2 = [] ∧ c77.li 3 = [0] ∧ c77.li 4 = [0, 4] ∧ c77.li 5 = [] ∧ c77.li 6 = [0] := ⟨rfl, rfl, rfl, rfl, rfl, rfl, rfl⟩
@[go_sem] theorem c77_r0 (v0 : List UInt8) : RP c77 0 [(0, str v0)] K =
 (K [(0, str v0)]) := by kernel_rfl
@[go_sem] theorem c77_r1 (v0 : List UInt8) : RP c77 1 [(0, str v0)] K =
 (K [(0, str v0), (7, decide ((v0.length : Int) < 4))]) := by kernel_rfl
@[go_sem] theorem c77_r2 : RP c77 2 [] K =
 (K [(2, str ([] : List UInt8)), (3, .int .i64 2)]) := by kernel_rfl
@[go_sem] theorem c77_r3 (v0 : List UInt8) : RP c77 3 [(0, str v0)] K =
 (cal eP Tryz.prog 56 #[str v0] fun (y1_ : Option Addr) => (cal eI Tryz.prog 57 #[y1_, .int .i64 4] fun (y2_ : Int) => (K [(0, str v0), (4, y2_)]))) := by kernel_rfl
@[go_sem] theorem c77_r4 (v0 : List UInt8) (v4 : Int) : RP c77 4 [(0, str v0), (4, v4)] K =
 (rq (0 ≤ ((4 : Int) : Int) ∧ (4 : Int) ≤ (v0.length : Int) ∧ (v0.length : Int) ≤ (v0.length : Int)) (cal eI Tryz.prog 100 #[str (ss v0 (4 : Int) (v0.length : Int))] fun (y1_ : Int) => (K [(0, str v0), (15, .bool (v4 != y1_))]))) := by kernel_rfl
@[go_sem] theorem c77_r5 : RP c77 5 [] K =
 (K [(2, str ([] : List UInt8)), (3, .int .i64 5)]) := by kernel_rfl
@[go_sem] theorem c77_r6 (v0 : List UInt8) : RP c77 6 [(0, str v0)] K =
 (rq (0 ≤ ((4 : Int) : Int) ∧ (4 : Int) ≤ (v0.length : Int) ∧ (v0.length : Int) ≤ (v0.length : Int)) (K [(2, str (ss v0 (4 : Int) (v0.length : Int))), (3, .int .i64 0)])) := by kernel_rfl
@[go_sem] theorem c77_o : c77.lo 1000000 = [2, 3] := rfl
@[go_sem] theorem c77_e (v2 : List UInt8) (v3 : Int) : RTp c77 [(2, str v2), (3, v3)] k = (k (.tuple #[str v2, v3])) := by kernel_rfl
theorem c77_ok : (c77.P.follows .mixedOrders && okc c77 c77.body) = true := by kernel_rfl
theorem c77_fn (hρ : envA 0 args.toList = ρ) (hs : Nat.ble args.size 18 = true) (h : E L (D c77 (.seq (.reg 0) (.seq (.seq (.reg 1) (.cond (.tmp 7) (.seq (.reg 2) (.ret)) (.skip))) (.seq (.reg 3) (.seq (.seq (.reg 4) (.cond (.tmp 15) (.seq (.reg 5) (.ret)) (.skip))) (.seq (.reg 6) (.ret)))))) (fnQ c77 e G) ρ)) : E L (cal e Tryz.prog 77 args G) :=
  d_fn (c := c77) Tryz.func77 (by kernel_rfl) (by kernel_rfl) (by kernel_rfl) c77_ok (by kernel_rfl) (by kernel_rfl) hρ hs h
noncomputable def c88 := cf Tryz.f88 14 [(0, [0]), (1, [0]), (2, [0, 3])] [(0, [0]), (1, [0, 3]), (2, [2]), (1000000, [2])] [] []
@[go_sem] theorem c88_i : c88.li 0 = [0] ∧ c88.li 1 = [0] ∧ c88.li 2 = [0, 3] := ⟨rfl, rfl, rfl⟩
@[go_sem] theorem c88_r0 (v0 : List UInt8) : RP c88 0 [(0, str v0)] K =
 (K [(0, str v0)]) := by kernel_rfl
@[go_sem] theorem c88_r1 (v0 : List UInt8) : RP c88 1 [(0, str v0)] K =
 (cal eI Tryz.prog 100 #[str v0] fun (y1_ : Int) => (cal (eT2 eS eI) Tryz.prog 87 #[str ([] : List UInt8), y1_, .int .i64 4] fun (y2_ : ((List UInt8) × Int)) => (K [(0, str v0), (3, str y2_.1)]))) := by kernel_rfl
@[go_sem] theorem c88_r2 (v0 v3 : List UInt8) : RP c88 2 [(0, str v0), (3, str v3)] K =
 (rq ((v3.length : Int) + (v0.length : Int) ≤ 9223372036854775807) (K [(2, str (v3 ++ v0))])) := by kernel_rfl
@[go_sem] theorem c88_o : c88.lo 1000000 = [2] := rfl
@[go_sem] theorem c88_e (v2 : List UInt8) : RTp c88 [(2, str v2)] k = (k (str v2)) := by kernel_rfl
theorem c88_ok : (c88.P.follows .mixedOrders && okc c88 c88.body) = true := by kernel_rfl
theorem c88_fn (hρ : envA 0 args.toList = ρ) (hs : Nat.ble args.size 14 = true) (h : E L (D c88 (.seq (.reg 0) (.seq (.reg 1) (.seq (.reg 2) (.ret)))) (fnQ c88 e G) ρ)) : E L (cal e Tryz.prog 88 args G) :=
  d_fn (c := c88) Tryz.func88 (by kernel_rfl) (by kernel_rfl) (by kernel_rfl) c88_ok (by kernel_rfl) (by kernel_rfl) hρ hs h
noncomputable def c100 := cf Tryz.f100 7 [(0, [0]), (1, [0])] [(0, [0]), (1, [2]), (1000000, [2])] [] []
@[go_sem] theorem c100_i : c100.li 0 = [0] ∧ c100.li 1 = [0] := ⟨rfl, rfl⟩
@[go_sem] theorem c100_r0 (v0 : List UInt8) : RP c100 0 [(0, str v0)] K =
 (K [(0, str v0)]) := by kernel_rfl
@[go_sem] theorem c100_r1 (v0 : List UInt8) : RP c100 1 [(0, str v0)] K =
 (cal eU32 Tryz.prog 128 #[.int .u32 4294967295, str v0] fun (y1_ : Int) => (K [(2, IntKind.wrap .i64 (bits .xor .u32 y1_ (4294967295 : Int)))])) := by kernel_rfl
@[go_sem] theorem c100_o : c100.lo 1000000 = [2] := rfl
@[go_sem] theorem c100_e (v2 : Int) : RTp c100 [(2, v2)] k = (k (v2)) := by kernel_rfl
theorem c100_ok : (c100.P.follows .mixedOrders && okc c100 c100.body) = true := by kernel_rfl
theorem c100_fn (hρ : envA 0 args.toList = ρ) (hs : Nat.ble args.size 7 = true) (h : E L (D c100 (.seq (.reg 0) (.seq (.reg 1) (.ret))) (fnQ c100 e G) ρ)) : E L (cal e Tryz.prog 100 args G) :=
  d_fn (c := c100) Tryz.func100 (by kernel_rfl) (by kernel_rfl) (by kernel_rfl) c100_ok (by kernel_rfl) (by kernel_rfl) hρ hs h
noncomputable def c128 := cf Tryz.f128 35 [(0, [0, 1]), (1, [0, 1]), (2, [0, 1, 5]), (3, [0, 1, 5, 9, 10]), (4, [0, 1, 5, 9, 10]), (5, [0, 1, 5, 6, 9, 10]), (6, [0, 1, 5, 9, 10]), (7, [0, 1, 5, 9, 10]), (8, [0, 1, 5, 9, 10]), (9, [0])] [(0, [0, 1]), (1, [0, 1, 5]), (2, [0, 1, 5, 9, 10]), (3, [0, 1, 5, 9, 10, 11]), (4, [0, 1, 5, 6, 9, 10]), (5, [0, 1, 5, 9, 10]), (6, [0, 1, 5, 9, 10]), (7, [0, 1, 5, 9, 10]), (8, [0, 1, 5, 9, 10]), (9, [4]), (1000000, [4])] [] []
@[go_sem] theorem c128_i : c128.li 0 = [0, 1] ∧ c128.li 1 = [0, 1] ∧ c128.li 2 = [0, 1, 5] ∧ c128.li 3 = [0, 1, 5, 9, 10] ∧ c128.li 4 = [0, 1, 5, 9, 10] ∧ c128.li 5 = [0, 1, 5, 6, 9, 10] ∧ c128.li 6 = [0, 1, 5, 9, 10] ∧ c128.li 7 = [0, 1, 5, 9, 10] ∧ c128.li 8 = [0, 1, 5, 9, 10] ∧ c128.li 9 = [0] := ⟨rfl, rfl, rfl, rfl, rfl, rfl, rfl, rfl, rfl, rfl⟩
@[go_sem] theorem c128_r0 (v0 : Int) (v1 : List UInt8) : RP c128 0 [(0, .int .u32 v0), (1, str v1)] K =
 (K [(0, .int .u32 v0), (1, str v1)]) := by kernel_rfl
@[go_sem] theorem c128_r1 (v0 : Int) (v1 : List UInt8) : RP c128 1 [(0, .int .u32 v0), (1, str v1)] K =
 (cal (eA eU32) Tryz.prog 151 #[] fun (y1_ : List (Int)) => (nwc ((List.replicate 16 (0 : Int)).map eU32.enc).toArray 209 fun y2_ => (if (List.toArray (y1_.map eU32.enc)).size = 16 then (stl (y1_.map eU32.enc) y2_ 0 (K [(0, .int .u32 v0), (1, str v1), (5, y2_)])) else ff))) := by kernel_rfl
@[go_sem] theorem c128_r2 (v0 : Int) (v1 : List UInt8) (v5 : Addr) : RP c128 2 [(0, .int .u32 v0), (1, str v1), (5, v5)] K =
 (K [(0, .int .u32 v0), (1, str v1), (5, v5), (9, .int .i64 (v1.length : Int)), (10, .int .i64 0)]) := by kernel_rfl
@[go_sem] theorem c128_r3 (v0 : Int) (v1 : List UInt8) (v5 : Addr) (v9 v10 : Int) : RP c128 3 [(0, .int .u32 v0), (1, str v1), (5, v5), (9, v9), (10, v10)] K =
 (K [(0, .int .u32 v0), (1, str v1), (5, v5), (9, v9), (10, v10), (11, decide (v10 < v9))]) := by kernel_rfl
@[go_sem] theorem c128_r4 (v0 : Int) (v1 : List UInt8) (v5 : Addr) (v9 v10 : Int) : RP c128 4 [(0, .int .u32 v0), (1, str v1), (5, v5), (9, v9), (10, v10)] K =
 (K [(0, .int .u32 v0), (1, str v1), (5, v5), (6, v10), (9, v9), (10, v10)]) := by kernel_rfl
@[go_sem] theorem c128_r5 (v0 : Int) (v1 : List UInt8) (v5 : Addr) (v6 v9 v10 : Int) : RP c128 5 [(0, .int .u32 v0), (1, str v1), (5, v5), (6, v6), (9, v9), (10, v10)] K =
 (rq (0 ≤ v6 ∧ v6 < (v1.length : Int)) (K [(0, .int .u32 (bits .xor .u32 v0 (IntKind.wrap .u32 (bt v1 (v6.toNat) : Int)))), (1, str v1), (5, v5), (9, v9), (10, v10)])) := by kernel_rfl
@[go_sem] theorem c128_r6 (v0 : Int) (v1 : List UInt8) (v5 : Addr) (v9 v10 : Int) : RP c128 6 [(0, .int .u32 v0), (1, str v1), (5, v5), (9, v9), (10, v10)] K =
 (rq (0 ≤ (4 : Int)) (rq (0 ≤ (bits .and .u32 v0 (15 : Int)) ∧ (bits .and .u32 v0 (15 : Int)) < ((16 : Nat) : Int)) (ld eU32 (Addr.add v5 ((bits .and .u32 v0 (15 : Int)).toNat * 1)) fun (y1_ : Int) => (K [(0, .int .u32 (bits .xor .u32 (v0.fdiv (2 ^ (min (4 : Int).toNat 32))) y1_)), (1, str v1), (5, v5), (9, v9), (10, v10)])))) := by kernel_rfl
@[go_sem] theorem c128_r7 (v0 : Int) (v1 : List UInt8) (v5 : Addr) (v9 v10 : Int) : RP c128 7 [(0, .int .u32 v0), (1, str v1), (5, v5), (9, v9), (10, v10)] K =
 (rq (0 ≤ (4 : Int)) (rq (0 ≤ (bits .and .u32 v0 (15 : Int)) ∧ (bits .and .u32 v0 (15 : Int)) < ((16 : Nat) : Int)) (ld eU32 (Addr.add v5 ((bits .and .u32 v0 (15 : Int)).toNat * 1)) fun (y1_ : Int) => (K [(0, .int .u32 (bits .xor .u32 (v0.fdiv (2 ^ (min (4 : Int).toNat 32))) y1_)), (1, str v1), (5, v5), (9, v9), (10, v10)])))) := by kernel_rfl
@[go_sem] theorem c128_r8 (v0 : Int) (v1 : List UInt8) (v5 : Addr) (v9 v10 : Int) : RP c128 8 [(0, .int .u32 v0), (1, str v1), (5, v5), (9, v9), (10, v10)] K =
 (K [(0, .int .u32 v0), (1, str v1), (5, v5), (9, v9), (10, IntKind.wrap .i64 (v10 + 1))]) := by kernel_rfl
@[go_sem] theorem c128_r9 (v0 : Int) : RP c128 9 [(0, .int .u32 v0)] K =
 (K [(4, .int .u32 v0)]) := by kernel_rfl
@[go_sem] theorem c128_o : c128.lo 1000000 = [4] := rfl
@[go_sem] theorem c128_e (v4 : Int) : RTp c128 [(4, .int .u32 v4)] k = (k (.int .u32 v4)) := by kernel_rfl
theorem c128_ok : (c128.P.follows .mixedOrders && okc c128 c128.body) = true := by kernel_rfl
theorem c128_fn (hρ : envA 0 args.toList = ρ) (hs : Nat.ble args.size 35 = true) (h : E L (D c128 (.seq (.reg 0) (.seq (.reg 1) (.seq (.seq (.reg 2) (.block 0 (.loop (.seq (.reg 3) (.seq (.cond (.tmp 11) (.skip) (.exit 0)) (.seq (.block 1 (.seq (.reg 4) (.seq (.reg 5) (.seq (.reg 6) (.reg 7))))) (.reg 8))))))) (.seq (.reg 9) (.ret))))) (fnQ c128 e G) ρ)) : E L (cal e Tryz.prog 128 args G) :=
  d_fn (c := c128) Tryz.func128 (by kernel_rfl) (by kernel_rfl) (by kernel_rfl) c128_ok (by kernel_rfl) (by kernel_rfl) hρ hs h
noncomputable def c151 := cf Tryz.f151 13 [(0, []), (1, [0]), (2, [0, 1]), (3, [0, 1, 3]), (4, [0, 1, 3]), (5, [0, 1, 2, 3]), (6, [0, 1, 3]), (7, [0, 1])] [(0, [0]), (1, [0, 1]), (2, [0, 1, 3]), (3, [0, 1, 3, 4]), (4, [0, 1, 2, 3]), (5, [0, 1, 3]), (6, [0, 1, 3]), (7, [0]), (1000000, [0])] [] []
@[go_sem] theorem c151_i : c151.li 0 = [] ∧ c151.li 1 = [0] ∧ c151.li 2 = [0, 1] ∧ c151.li 3 = [0, 1, 3] ∧ c151.li 4 = [0, 1, 3] ∧ c151.li 5 = [0, 1, 2, 3] ∧ c151.li 6 = [0, 1, 3] ∧ c151.li 7 = [0, 1] := ⟨rfl, rfl, rfl, rfl, rfl, rfl, rfl, rfl⟩
@[go_sem] theorem c151_r0 : RP c151 0 [] K =
 (nwc ((List.replicate 16 (0 : Int)).map eU32.enc).toArray 209 fun y1_ => (K [(0, y1_)])) := by kernel_rfl
@[go_sem] theorem c151_r1 (v0 : Addr) : RP c151 1 [(0, v0)] K =
 (nwc ((List.replicate 16 (0 : Int)).map eU32.enc).toArray 209 fun y1_ => (K [(0, v0), (1, y1_)])) := by kernel_rfl
@[go_sem] theorem c151_r2 (v0 v1 : Addr) : RP c151 2 [(0, v0), (1, v1)] K =
 (K [(0, v0), (1, v1), (3, .int .i64 0)]) := by kernel_rfl
@[go_sem] theorem c151_r3 (v0 v1 : Addr) (v3 : Int) : RP c151 3 [(0, v0), (1, v1), (3, v3)] K =
 (K [(0, v0), (1, v1), (3, v3), (4, decide (v3 < 16))]) := by kernel_rfl
@[go_sem] theorem c151_r4 (v0 v1 : Addr) (v3 : Int) : RP c151 4 [(0, v0), (1, v1), (3, v3)] K =
 (K [(0, v0), (1, v1), (2, v3), (3, v3)]) := by kernel_rfl
@[go_sem] theorem c151_r5 (v0 v1 : Addr) (v2 v3 : Int) : RP c151 5 [(0, v0), (1, v1), (2, v2), (3, v3)] K =
 (cal eU32 Tryz.prog 163 #[.int .u32 (IntKind.wrap .u32 v2)] fun (y1_ : Int) => (rq (0 ≤ v2 ∧ v2 < ((16 : Nat) : Int)) (st (Addr.add v1 (v2.toNat * 1)) (.int .u32 y1_) (K [(0, v0), (1, v1), (3, v3)])))) := by kernel_rfl
@[go_sem] theorem c151_r6 (v0 v1 : Addr) (v3 : Int) : RP c151 6 [(0, v0), (1, v1), (3, v3)] K =
 (K [(0, v0), (1, v1), (3, IntKind.wrap .i64 (v3 + 1))]) := by kernel_rfl
@[go_sem] theorem c151_r7 (v0 v1 : Addr) : RP c151 7 [(0, v0), (1, v1)] K =
 (ldn (eA eU32) 16 v1 fun (y1_ : List (Int)) => (if (List.toArray (y1_.map eU32.enc)).size = 16 then (stl (y1_.map eU32.enc) v0 0 (K [(0, v0)])) else ff)) := by kernel_rfl
@[go_sem] theorem c151_o : c151.lo 1000000 = [0] := rfl
@[go_sem] theorem c151_e (v0 : Addr) : RTp c151 [(0, v0)] k = (ldn (eA eU32) 16 v0 fun (y1_ : List (Int)) => (k ((eA eU32).enc y1_))) := by kernel_rfl
theorem c151_ok : (c151.P.follows .mixedOrders && okc c151 c151.body) = true := by kernel_rfl
theorem c151_fn (hρ : envA 0 args.toList = ρ) (hs : Nat.ble args.size 13 = true) (h : E L (D c151 (.seq (.reg 0) (.seq (.reg 1) (.seq (.seq (.reg 2) (.block 0 (.loop (.seq (.reg 3) (.seq (.cond (.tmp 4) (.skip) (.exit 0)) (.seq (.block 1 (.seq (.reg 4) (.reg 5))) (.reg 6))))))) (.seq (.reg 7) (.ret))))) (fnQ c151 e G) ρ)) : E L (cal e Tryz.prog 151 args G) :=
  d_fn (c := c151) Tryz.func151 (by kernel_rfl) (by kernel_rfl) (by kernel_rfl) c151_ok (by kernel_rfl) (by kernel_rfl) hρ hs h
noncomputable def c163 := cf Tryz.f163 15 [(0, [0]), (1, [0]), (2, [0, 3]), (3, [0, 3]), (4, [0, 3]), (5, [0, 3]), (6, [0, 3]), (7, [0])] [(0, [0]), (1, [0, 3]), (2, [0, 3, 4]), (3, [0, 3, 7]), (4, [0, 3]), (5, [0, 3]), (6, [0, 3]), (7, [2]), (1000000, [2])] [] []
@[go_sem] theorem c163_i : c163.li 0 = [0] ∧ c163.li 1 = [0] ∧ c163.li 2 = [0, 3] ∧ c163.li 3 = [0, 3] ∧ c163.li 4 = [0, 3] ∧ c163.li 5 = [0, 3] ∧ c163.li 6 = [0, 3] ∧ c163.li 7 = [0] := ⟨rfl, rfl, rfl, rfl, rfl, rfl, rfl, rfl⟩
@[go_sem] theorem c163_r0 (v0 : Int) : RP c163 0 [(0, .int .u32 v0)] K =
 (K [(0, .int .u32 v0)]) := by kernel_rfl
@[go_sem] theorem c163_r1 (v0 : Int) : RP c163 1 [(0, .int .u32 v0)] K =
 (K [(0, .int .u32 v0), (3, .int .i64 0)]) := by kernel_rfl
@[go_sem] theorem c163_r2 (v0 v3 : Int) : RP c163 2 [(0, .int .u32 v0), (3, v3)] K =
 (K [(0, .int .u32 v0), (3, v3), (4, decide (v3 < 4))]) := by kernel_rfl
@[go_sem] theorem c163_r3 (v0 v3 : Int) : RP c163 3 [(0, .int .u32 v0), (3, v3)] K =
 (K [(0, .int .u32 v0), (3, v3), (7, .bool ((bits .and .u32 v0 (1 : Int)) == 1))]) := by kernel_rfl
@[go_sem] theorem c163_r4 (v0 v3 : Int) : RP c163 4 [(0, .int .u32 v0), (3, v3)] K =
 (rq (0 ≤ (1 : Int)) (K [(0, .int .u32 (bits .xor .u32 (v0.fdiv (2 ^ (min (1 : Int).toNat 32))) (2197175160 : Int))), (3, v3)])) := by kernel_rfl
@[go_sem] theorem c163_r5 (v0 v3 : Int) : RP c163 5 [(0, .int .u32 v0), (3, v3)] K =
 (rq (0 ≤ (1 : Int)) (K [(0, .int .u32 (v0.fdiv (2 ^ (min (1 : Int).toNat 32)))), (3, v3)])) := by kernel_rfl
@[go_sem] theorem c163_r6 (v0 v3 : Int) : RP c163 6 [(0, .int .u32 v0), (3, v3)] K =
 (K [(0, .int .u32 v0), (3, IntKind.wrap .i64 (v3 + 1))]) := by kernel_rfl
@[go_sem] theorem c163_r7 (v0 : Int) : RP c163 7 [(0, .int .u32 v0)] K =
 (K [(2, .int .u32 v0)]) := by kernel_rfl
@[go_sem] theorem c163_o : c163.lo 1000000 = [2] := rfl
@[go_sem] theorem c163_e (v2 : Int) : RTp c163 [(2, .int .u32 v2)] k = (k (.int .u32 v2)) := by kernel_rfl
theorem c163_ok : (c163.P.follows .mixedOrders && okc c163 c163.body) = true := by kernel_rfl
theorem c163_fn (hρ : envA 0 args.toList = ρ) (hs : Nat.ble args.size 15 = true) (h : E L (D c163 (.seq (.reg 0) (.seq (.seq (.reg 1) (.block 0 (.loop (.seq (.reg 2) (.seq (.cond (.tmp 4) (.skip) (.exit 0)) (.seq (.block 1 (.seq (.reg 3) (.cond (.tmp 7) (.reg 4) (.reg 5)))) (.reg 6))))))) (.seq (.reg 7) (.ret)))) (fnQ c163 e G) ρ)) : E L (cal e Tryz.prog 163 args G) :=
  d_fn (c := c163) Tryz.func163 (by kernel_rfl) (by kernel_rfl) (by kernel_rfl) c163_ok (by kernel_rfl) (by kernel_rfl) hρ hs h
end Go.Sp
namespace Go.Sp
open Go Go.Proofs
set_option linter.unusedSimpArgs false
set_option linter.unusedVariables false
set_option maxRecDepth 10000
def u32 (n : Int) : Prop := 0 ≤ n ∧ n ≤ 4294967295
theorem xor_u32 (a b : Int) : u32 (bits .xor .u32 a b) := by
  unfold bits u32
  simp only [IntKind.wrap_u32]
  omega
theorem and15 {c : Int} (h : u32 c) : bits .and .u32 c 15 = c % 16 := bits_mask .u32 32 (by decide) (fun n h₀ h₁ => by rw [IntKind.wrap_u32]; omega) 4 (by decide) c h.1 (by have := h.2; omega)
def hst (c : Int) : Int := if bits .and .u32 c 1 = 1 then bits .xor .u32 (c.fdiv 2) 2197175160 else c.fdiv 2
def hlf (c : Int) : Nat → Int
  | 0 => c
  | i + 1 => hst (hlf c i)
theorem g147 (c : Int) : Fp eU32 Tryz.prog 163 #[.int .u32 c] [] (hlf c 4) := fun L => by
  refine c163_fn rfl rfl ?_
  repeat' (first | (with_reducible first | refine d_seq fun K hK => ?_ | (refine hK _ _ ?_; clear hK K) | (refine SG.p ?_; try intro b) | refine SP.p ?_) | refine i_c ?_ ?_ <;> intro hc <;> try simp only [push_cast, seval] at hc | refine i_x ?_ | clear hK K)
  refine d_lp [0, 3] (fun i : Nat => [(0, .int .u32 (hlf c i)), (3, .int .i64 (i : Int))]) (fun _ => L) (fun i => i ≤ 4) (fun i => 4 - i) 0 rfl SX.p (by omega) ?_
  intro i hi
  have T : hlf c (i + 1) = if bits .and .u32 (hlf c i) 1 = 1 then bits .xor .u32 ((hlf c i).fdiv 2) 2197175160 else (hlf c i).fdiv 2 := rfl
  repeat' (first | (with_reducible first | refine d_seq fun K hK => ?_ | (refine hK _ _ ?_; clear hK K) | (refine SG.p ?_; try intro b) | refine SP.p ?_) | refine i_c ?_ ?_ <;> intro hc <;> try simp only [push_cast, seval] at hc | refine i_x ?_ | clear hK K)
  · rw [if_pos hc] at T
    rw [w64 (by omega) (by omega), show bits BinOp.xor IntKind.u32 ((hlf c i).fdiv (2 ^ min 1 32)) 2197175160 = hlf c (i + 1) from T.symm]
    exact i_bk (i + 1) rfl (by omega) (by omega)
  · rw [if_neg hc] at T
    rw [w64 (by omega) (by omega), show (hlf c i).fdiv (2 ^ min 1 32) = hlf c (i + 1) from T.symm]
    exact i_bk (i + 1) rfl (by omega) (by omega)
  · obtain rfl : i = 4 := by omega
    (with_reducible first | apply i_ret0 | apply i_ret2 | apply i_ret3 | apply i_ret); exact rfl
    rfl
def tbl : List Int := (List.range 16).map fun (i : Nat) => hlf ((i : Nat) : Int) 4
theorem tbl_len : tbl.length = 16 := by simp [tbl]
theorem tbl_get {i : Nat} (h : i < 16) : tbl[i]? = some (hlf (i : Int) 4) := by
  unfold tbl
  rw [List.getElem?_map, List.getElem?_range h]
  rfl
theorem spl_all : ∀ (vs l : List Value) (o : Nat), l.length = o + vs.length → spl l o vs = l.take o ++ vs
  | [], l, o, h => by
    simp only [List.length_nil, Nat.add_zero] at h
    simp only [spl, List.append_nil]
    exact (List.take_of_length_le (by omega)).symm
  | v :: vs, l, o, h => by
    simp only [List.length_cons] at h
    have hl : o < l.length := by omega
    show spl (l.set o v) (o + 1) vs = _
    rw [spl_all vs (l.set o v) (o + 1) (by simp; omega), List.take_succ_eq_append_getElem (by simpa using hl)]
    simp [List.take_set_of_le]
theorem g140 : Fp (eA eU32) Tryz.prog 151 #[] [] tbl := fun L => by
  refine c151_fn rfl rfl ?_
  repeat' (first | (with_reducible first | refine d_seq fun K hK => ?_ | (refine hK _ _ ?_; clear hK K) | (refine SG.p ?_; try intro b) | refine SP.p ?_) | refine i_c ?_ ?_ <;> intro hc <;> try simp only [push_cast, seval] at hc | refine i_x ?_ | clear hK K)
  rename_i b1
  refine d_lp [0, 1, 3] (fun i : Nat => [(0, .pointer (some ⟨b1, 0, none⟩)), (1, .pointer (some ⟨b, 0, none⟩)), (3, .int .i64 (i : Int))]) (fun i => ar b 209 ((tbl.take i ++ List.replicate (16 - i) 0).map fun n => .int .u32 n) :: ar b1 209 ((List.replicate 16 (0 : Int)).map fun n => .int .u32 n) :: L) (fun i => i ≤ 16) (fun i => 16 - i) 0 rfl ?_ (by omega) ?_
  · have e : tbl.take 0 ++ List.replicate (16 - 0) (0 : Int) = List.replicate 16 0 := by simp
    rw [e]
    exact SX.p
  intro i hi
  repeat' (first | (with_reducible first | refine d_seq fun K hK => ?_ | (refine hK _ _ ?_; clear hK K) | (refine SG.p ?_; try intro b)) | refine i_c ?_ ?_ <;> intro hc <;> try simp only [push_cast, seval] at hc | refine i_x ?_ | clear hK K)
  · rw [wU32 (by omega) (by omega)]
    refine i_clp (g147 (i : Int)) ?_
    repeat' (first | (with_reducible first | refine d_seq fun K hK => ?_ | (refine hK _ _ ?_; clear hK K) | (refine SG.p ?_; try intro b) | refine SP.p ?_) | refine i_c ?_ ?_ <;> intro hc <;> try simp only [push_cast, seval] at hc | refine i_x ?_ | clear hK K)
    refine i_st (by have := tbl_len; simp; omega) rfl ?_
    have e : ((tbl.take i ++ List.replicate (16 - i) (0 : Int)).map fun n => Value.int .u32 n).set i (.int .u32 (hlf (i : Int) 4)) = (tbl.take (i + 1) ++ List.replicate (16 - (i + 1)) (0 : Int)).map fun n => Value.int .u32 n := by
      rw [← part_set (by omega) tbl_len (tbl_get (by omega)), List.map_set]
    rw [e]
    repeat' (first | (with_reducible first | refine d_seq fun K hK => ?_ | (refine hK _ _ ?_; clear hK K) | (refine SG.p ?_; try intro b)) | refine i_c ?_ ?_ <;> intro hc <;> try simp only [push_cast, seval] at hc | refine i_x ?_ | clear hK K)
    rw [w64 (by omega) (by omega)]
    exact i_bk (i + 1) rfl (by omega) (by omega)
  · obtain rfl : i = 16 := by omega
    have e : tbl.take 16 ++ List.replicate (16 - 16) (0 : Int) = tbl := by rw [List.take_of_length_le (by rw [tbl_len]; omega)]; simp
    rw [e]
    have hl := tbl_len
    generalize tbl = t at *
    refine i_ldn (e := eA eU32) (x := t) (by rw [List.drop_zero, List.take_of_length_le (by simp; omega)]) rfl (by simp; omega) ?_
    rw [if_pos (by simp; omega)]
    refine i_stl (by simp; omega) (by simp; exact fun _ _ => rfl) ?_
    rw [spl_all _ _ _ (by simp; omega), List.take_zero, List.nil_append]
    repeat' (first | (with_reducible first | refine d_seq fun K hK => ?_ | (refine hK _ _ ?_; clear hK K) | (refine SG.p ?_; try intro b) | refine SP.p ?_) | refine i_c ?_ ?_ <;> intro hc <;> try simp only [push_cast, seval] at hc | refine i_x ?_ | clear hK K)
    refine i_ldn (e := eA eU32) (x := t) (by rw [List.drop_zero, List.take_of_length_le (by simp; omega)]) rfl (by simp; omega) ?_
    (with_reducible first | apply i_ret0 | apply i_ret2 | apply i_ret3 | apply i_ret); exact rfl
    rfl
def cst (c : Int) : Int := bits .xor .u32 (c.fdiv 16) (tbl.getD (c % 16).toNat 0)
def stp (c : Int) (x : Int) : Int := cst (cst (bits .xor .u32 c x))
def crc (s : List UInt8) : Int := s.foldl (fun c b => stp c (b.toNat : Int)) 4294967295
theorem crc_u32 : ∀ (s : List UInt8) (c : Int), u32 c → u32 (s.foldl (fun c b => stp c (b.toNat : Int)) c)
  | [], _, h => h
  | b :: s, c, _ => crc_u32 s _ (xor_u32 _ _)
theorem crc_take {s : List UInt8} {i : Nat} (h : i < s.length) : crc (s.take (i + 1)) = stp (crc (s.take i)) (bt s i : Int) := by
  unfold crc
  rw [List.take_succ_eq_append_getElem h, List.foldl_append]
  simp [bt, h]
theorem g128 (s : List UInt8) (hs : s.length ≤ 4611686018427387904) : Fp eU32 Tryz.prog 128 #[.int .u32 4294967295, str s] [] (crc s) := fun L => by
  refine c128_fn rfl rfl ?_
  repeat' (first | (with_reducible first | refine d_seq fun K hK => ?_ | (refine hK _ _ ?_; clear hK K) | (refine SG.p ?_; try intro b)) | refine i_c ?_ ?_ <;> intro hc <;> try simp only [push_cast, seval] at hc | refine i_x ?_ | clear hK K)
  refine i_clp g140 ?_
  have hl := tbl_len
  have hx : ∀ c : Int, u32 c → u32 (cst c) := fun c _ => xor_u32 _ _
  have hm : ∀ {c : Int}, u32 c → (tbl.map fun n => Value.int .u32 n)[(c % 16).toNat]? = some (eU32.enc (tbl.getD (c % 16).toNat 0)) := fun {c} h => by
    have : (c % 16).toNat < tbl.length := by rw [hl]; omega
    simp [this]
  have hcst : ∀ c : Int, bits .xor .u32 (c.fdiv (2 ^ min 4 32)) (tbl.getD (c % 16).toNat 0) = cst c := fun c => rfl
  repeat' (first | (with_reducible first | refine d_seq fun K hK => ?_ | (refine hK _ _ ?_; clear hK K) | (refine SG.p ?_; try intro b)) | refine i_c ?_ ?_ <;> intro hc <;> try simp only [push_cast, seval] at hc | refine i_x ?_ | clear hK K)
  rw [if_pos (by simp; omega)]
  refine i_stl (by simp; omega) (by simp; exact fun _ _ => rfl) ?_
  rw [spl_all _ _ _ (by simp; omega), List.take_zero, List.nil_append]
  repeat' (first | (with_reducible first | refine d_seq fun K hK => ?_ | (refine hK _ _ ?_; clear hK K) | (refine SG.p ?_; try intro b)) | refine i_c ?_ ?_ <;> intro hc <;> try simp only [push_cast, seval] at hc | refine i_x ?_ | clear hK K)
  refine d_lp [0, 1, 5, 9, 10] (fun i : Nat => [(0, .int .u32 (crc (s.take i))), (1, str s), (5, .pointer (some ⟨b, 0, none⟩)), (9, .int .i64 (s.length : Int)), (10, .int .i64 (i : Int))]) (fun i => ar b 209 (tbl.map fun n => .int .u32 n) :: L) (fun i => i ≤ s.length) (fun i => s.length - i) 0 rfl SX.p (by omega) ?_
  intro i hi
  have hc0 : u32 (crc (s.take i)) := crc_u32 _ _ (by unfold u32; decide)
  repeat' (first | (with_reducible first | refine d_seq fun K hK => ?_ | (refine hK _ _ ?_; clear hK K) | (refine SG.p ?_; try intro b)) | refine i_c ?_ ?_ <;> intro hc <;> try simp only [push_cast, seval] at hc | refine i_x ?_ | clear hK K)
  · have hb := bt_lt s i
    have T := crc_take (s := s) (i := i) (by omega)
    unfold stp at T
    rw [wU32 (by omega) (by omega)]
    have hc1 := xor_u32 (crc (s.take i)) (bt s i : Int)
    generalize bits .xor .u32 (crc (s.take i)) (bt s i : Int) = c1 at *
    have hc2 := hx _ hc1
    rw [and15 hc1]
    refine r_rq ⟨by omega, by omega⟩ ?_
    refine i_ld (e := eU32) (hm hc1) ?_
    rw [hcst]
    generalize cst c1 = c2 at *
    repeat' (first | (with_reducible first | refine d_seq fun K hK => ?_ | (refine hK _ _ ?_; clear hK K) | (refine SG.p ?_; try intro b)) | refine i_c ?_ ?_ <;> intro hc <;> try simp only [push_cast, seval] at hc | refine i_x ?_ | clear hK K)
    rw [and15 hc2]
    refine r_rq ⟨by omega, by omega⟩ ?_
    refine i_ld (e := eU32) (hm hc2) ?_
    rw [hcst, ← T]
    repeat' (first | (with_reducible first | refine d_seq fun K hK => ?_ | (refine hK _ _ ?_; clear hK K) | (refine SG.p ?_; try intro b)) | refine i_c ?_ ?_ <;> intro hc <;> try simp only [push_cast, seval] at hc | refine i_x ?_ | clear hK K)
    rw [w64 (by omega) (by omega)]
    exact i_bk (i + 1) rfl (by omega) (by omega)
  · obtain rfl : i = s.length := by omega
    rw [List.take_length]
    (with_reducible first | apply i_ret0 | apply i_ret2 | apply i_ret3 | apply i_ret); exact rfl
    rfl
def sm (s : List UInt8) : Int := bits .xor .u32 (crc s) 4294967295
theorem sm_u32 (s : List UInt8) : u32 (sm s) := xor_u32 _ _
theorem g111 (s : List UInt8) (hs : s.length ≤ 4611686018427387904) : Fp eI Tryz.prog 100 #[str s] [] (sm s) := fun L => by
  refine c100_fn rfl rfl ?_
  have h := sm_u32 s
  unfold sm at h
  repeat' (first | (with_reducible first | refine d_seq fun K hK => ?_ | (refine hK _ _ ?_; clear hK K) | (refine SG.p ?_; try intro b)) | refine i_c ?_ ?_ <;> intro hc <;> try simp only [push_cast, seval] at hc | refine i_x ?_ | clear hK K)
  refine i_clp (g128 s hs) ?_
  rw [w64 (by have := h.1; omega) (by have := h.2; omega)]
  repeat' (first | (with_reducible first | refine d_seq fun K hK => ?_ | (refine hK _ _ ?_; clear hK K) | (refine SG.p ?_; try intro b)) | refine i_c ?_ ?_ <;> intro hc <;> try simp only [push_cast, seval] at hc | refine i_x ?_ | clear hK K)
  (with_reducible first | apply i_ret0 | apply i_ret2 | apply i_ret3 | apply i_ret); exact rfl
  rfl
theorem p2564 : ((256 ^ 4 : Nat) : Int) = 4294967296 := by decide
theorem put_sm (s : List UInt8) : putN [] (sm s) 4 = (lowb (sm s) 4, 0) := by
  have h := sm_u32 s
  unfold u32 at h
  unfold putN
  rw [p2564, if_neg (by omega)]
  rfl
theorem g74 (s : List UInt8) (hs : s.length ≤ 4611686018427387900) : Fp eS Tryz.prog 88 #[str s] [] (lowb (sm s) 4 ++ s) := fun L => by
  have F := f97 [] (sm s) 4 (by decide) (by decide) (by decide)
  rw [put_sm] at F
  have hl := lowb_len (sm s) 4
  refine c88_fn rfl rfl ?_
  repeat' (first | (with_reducible first | refine d_seq fun K hK => ?_ | (refine hK _ _ ?_; clear hK K) | (refine SG.p ?_; try intro b)) | refine i_c ?_ ?_ <;> intro hc <;> try simp only [push_cast, seval] at hc | refine i_x ?_ | clear hK K)
  refine i_clp (g111 s (by omega)) ?_
  refine i_clp F ?_
  repeat' (first | (with_reducible first | refine d_seq fun K hK => ?_ | (refine hK _ _ ?_; clear hK K) | (refine SG.p ?_; try intro b)) | refine i_c ?_ ?_ <;> intro hc <;> try simp only [push_cast, seval] at hc | refine i_x ?_ | clear hK K)
  (with_reducible first | apply i_ret0 | apply i_ret2 | apply i_ret3 | apply i_ret); exact rfl
  rfl
def unsl (s : List UInt8) : List UInt8 × Int := if s.length < 4 then ([], 2) else if (be (s.take 4) : Int) = sm (s.drop 4) then (s.drop 4, 0) else ([], 5)
theorem g86 (s : List UInt8) (hs : s.length ≤ 4611686018427387904) : Fp (eT2 eS eI) Tryz.prog 77 #[str s] [] (unsl s) := fun L => by
  unfold unsl
  refine c77_fn rfl rfl ?_
  by_cases h4 : s.length < 4
  · rw [if_pos h4]
    repeat' (first | (with_reducible first | refine d_seq fun K hK => ?_ | (refine hK _ _ ?_; clear hK K) | (refine SG.p ?_; try intro b)) | refine i_c ?_ ?_ <;> intro hc <;> try simp only [push_cast, seval] at hc | refine i_x ?_ | clear hK K)
    all_goals try (exfalso; omega)
    (with_reducible first | apply i_ret0 | apply i_ret2 | apply i_ret3 | apply i_ret); exact rfl
    rfl
  · rw [if_neg h4]
    have e : ss s 4 (s.length : Int) = s.drop 4 := by unfold ss; simp
    have F := g111 (s.drop 4) (by rw [List.length_drop]; omega)
    repeat' (first | (with_reducible first | refine d_seq fun K hK => ?_ | (refine hK _ _ ?_; clear hK K) | (refine SG.p ?_; try intro b)) | refine i_c ?_ ?_ <;> intro hc <;> try simp only [push_cast, seval] at hc | refine i_x ?_ | clear hK K)
    all_goals try (exfalso; omega)
    refine i_cal (f72 s) ?_
    rintro y X ⟨rb, rfl, rfl⟩
    repeat' (first | (with_reducible first | refine d_seq fun K hK => ?_ | (refine hK _ _ ?_; clear hK K) | (refine SG.p ?_; try intro b)) | refine i_c ?_ ?_ <;> intro hc <;> try simp only [push_cast, seval] at hc | refine i_x ?_ | clear hK K)
    refine i_clq (num_go rb s 0 4 (by omega) (by omega) (by omega) (by omega)) ?_
    repeat' (first | rw [e] | first | (with_reducible first | refine d_seq fun K hK => ?_ | (refine hK _ _ ?_; clear hK K) | (refine SG.p ?_; try intro b)) | refine i_c ?_ ?_ <;> intro hc <;> try simp only [push_cast, seval] at hc | refine i_x ?_ | clear hK K)
    refine i_clp F ?_
    repeat' (first | rw [e] | first | (with_reducible first | refine d_seq fun K hK => ?_ | (refine hK _ _ ?_; clear hK K) | (refine SG.p ?_; try intro b)) | refine i_c ?_ ?_ <;> intro hc <;> try simp only [push_cast, seval] at hc | refine i_x ?_ | clear hK K)
    · have h : ¬ (be (s.take 4) : Int) = sm (s.drop 4) := by simpa using hc
      rw [if_neg h]
      (with_reducible first | apply i_ret0 | apply i_ret2 | apply i_ret3 | apply i_ret); exact rfl
      rfl
    · have h : (be (s.take 4) : Int) = sm (s.drop 4) := by simpa using hc
      rw [if_pos h]
      (with_reducible first | apply i_ret0 | apply i_ret2 | apply i_ret3 | apply i_ret); exact rfl
      rfl
theorem unsl_seal (s : List UInt8) : unsl (lowb (sm s) 4 ++ s) = (s, 0) := by
  have hl := lowb_len (sm s) 4
  have h := sm_u32 s
  unfold u32 at h
  unfold unsl
  rw [if_neg (by rw [List.length_append]; omega), List.take_left' hl, List.drop_left' hl, be_fits h.1 (by rw [p2564]; omega), if_pos rfl]
end Go.Sp
namespace Go.Sp
open Go
set_option maxRecDepth 100000
set_option linter.unusedVariables false
open Go.Proofs
variable (K : Env → W) (k : Value → W) {e : Enc} {args : Array Value} {G : e.α → W} {L : List HP} {ρ : Env}
attribute [local instance] cI cB cP cA
noncomputable def c61 := cf Tryz.f61 27 [(0, [0]), (1, [1]), (2, [4, 5]), (3, [5]), (4, [4]), (5, [4, 6])] [(0, [1]), (1, [4, 5]), (2, [4, 5, 15]), (3, [2, 3]), (4, [4, 6]), (5, [2, 3]), (1000000, [2, 3])] [] []
@[go_sem] theorem c61_i : c61.li 0 = [0] ∧ c61.li 1 = [1] ∧ c61.li 2 = [4, 5] ∧ c61.li 3 = [5] ∧ c61.li 4 = [4] ∧ c61.li 5 = [4, 6] := ⟨rfl, rfl, rfl, rfl, rfl, rfl⟩
@[go_sem] theorem c61_r0 (v0 : api_Rec) : RP c61 0 [(0, v_api_Rec v0)] K =
 (nwc #[v0.Kind, v0.Txn, v0.Prev, v0.Page, v0.Act, str v0.Key, str v0.Old, str v0.New, v0.Next, .slice v0.Images.1 v0.Images.2.1 v0.Images.2.2, .slice v0.Table.1 v0.Table.2.1 v0.Table.2.2, v0.Epoch, v0.Node] 47 fun y1_ => (K [(1, y1_)])) := by kernel_rfl
@[go_sem] theorem c61_r1 (v1 : Addr) : RP c61 1 [(1, v1)] K =
 (ldn e_api_Rec 13 v1 fun (y1_ : api_Rec) => (cal e_api_Rec Tryz.prog 86 #[v_api_Rec y1_] fun (y2_ : api_Rec) => (cal (eT2 eS eI) Tryz.prog 85 #[v_api_Rec y2_] fun (y3_ : ((List UInt8) × Int)) => (K [(4, str y3_.1), (5, y3_.2)])))) := by kernel_rfl
@[go_sem] theorem c61_r2 (v4 : List UInt8) (v5 : Int) : RP c61 2 [(4, str v4), (5, v5)] K =
 (K [(4, str v4), (5, v5), (15, .bool (v5 != 0))]) := by kernel_rfl
@[go_sem] theorem c61_r3 (v5 : Int) : RP c61 3 [(5, v5)] K =
 (K [(2, str ([] : List UInt8)), (3, v5)]) := by kernel_rfl
@[go_sem] theorem c61_r4 (v4 : List UInt8) : RP c61 4 [(4, str v4)] K =
 (cal (eT2 eS eI) Tryz.prog 87 #[str ([] : List UInt8), .int .i64 (v4.length : Int), .int .i64 2] fun (y1_ : ((List UInt8) × Int)) => (K [(4, str v4), (6, str y1_.1)])) := by kernel_rfl
@[go_sem] theorem c61_r5 (v4 v6 : List UInt8) : RP c61 5 [(4, str v4), (6, str v6)] K =
 (cal eS Tryz.prog 88 #[str v4] fun (y1_ : List UInt8) => (rq ((v6.length : Int) + (y1_.length : Int) ≤ 9223372036854775807) (K [(2, str (v6 ++ y1_)), (3, .int .i64 0)]))) := by kernel_rfl
@[go_sem] theorem c61_o : c61.lo 1000000 = [2, 3] := rfl
@[go_sem] theorem c61_e (v2 : List UInt8) (v3 : Int) : RTp c61 [(2, str v2), (3, v3)] k = (k (.tuple #[str v2, v3])) := by kernel_rfl
theorem c61_ok : (c61.P.follows .mixedOrders && okc c61 c61.body) = true := by kernel_rfl
theorem c61_fn (hρ : envA 0 args.toList = ρ) (hs : Nat.ble args.size 27 = true) (h : E L (D c61 (.seq (.reg 0) (.seq (.reg 1) (.seq (.seq (.reg 2) (.cond (.tmp 15) (.seq (.reg 3) (.ret)) (.skip))) (.seq (.reg 4) (.seq (.reg 5) (.ret)))))) (fnQ c61 e G) ρ)) : E L (cal e Tryz.prog 61 args G) :=
  d_fn (c := c61) Tryz.func61 (by kernel_rfl) (by kernel_rfl) (by kernel_rfl) c61_ok (by kernel_rfl) (by kernel_rfl) hρ hs h
noncomputable def c85 := cf Tryz.f85 142 [(0, [0]), (1, [1]), (2, [1, 4]), (3, [1, 4]), (4, [1, 4, 5]), (5, []), (6, [1, 4, 5, 17]), (7, [1, 4]), (8, []), (9, [1, 4]), (10, [1, 4, 5, 17]), (11, [1, 4]), (12, [1, 4, 5, 17]), (13, [1, 4]), (14, []), (15, [1, 4]), (16, [1, 4, 5]), (17, [1, 4, 5]), (18, [1, 4, 5]), (19, [1, 4, 5]), (20, [1, 4, 5, 17]), (21, [1, 4, 5, 17]), (22, [1, 4, 5, 17]), (23, [1, 4]), (24, [1, 4, 5]), (25, [1, 4, 5]), (26, [1, 4, 5, 17]), (27, [1, 4, 5, 17]), (28, [1, 4, 5]), (29, [1, 4, 5, 17]), (30, [1, 4, 5]), (31, [1, 4, 5]), (32, [4, 5, 102, 103, 104]), (33, [4, 5, 102, 103, 104]), (34, [4, 5, 7, 102, 103, 104]), (35, [4, 5, 7, 102, 103, 104]), (36, [4, 5, 102, 103, 104]), (37, [1, 4, 5, 17]), (38, [1, 4, 5]), (39, [1, 4, 5]), (40, [4, 5]), (41, [5, 8, 9]), (42, [8, 9]), (43, [5, 8]), (44, [5]), (45, [8]), (46, []), (47, [8])] [(0, [1]), (1, [1, 4]), (2, [1, 4]), (3, [1, 4, 5]), (4, [1, 4, 5, 17]), (5, [2, 3]), (6, [1, 4, 5, 17, 18]), (7, [1, 4, 23]), (8, [2, 3]), (9, [4, 5]), (10, [1, 4, 5, 17, 28]), (11, [4, 5]), (12, [1, 4, 5, 17, 34]), (13, [1, 4, 43]), (14, [2, 3]), (15, [1, 4, 5]), (16, [1, 4, 5]), (17, [1, 4, 5]), (18, [1, 4, 5]), (19, [4, 5]), (20, [1, 4, 5, 17, 68]), (21, [1, 4, 5, 17, 68]), (22, [1, 4, 5, 17, 68]), (23, [1, 4, 5]), (24, [1, 4, 5]), (25, [4, 5]), (26, [1, 4, 5, 17, 88]), (27, [1, 4, 5, 17, 88]), (28, [4, 5]), (29, [1, 4, 5, 17, 94]), (30, [1, 4, 5]), (31, [4, 5, 102, 103, 104]), (32, [4, 5, 102, 103, 104, 105]), (33, [4, 5, 7, 102, 103, 104]), (34, [4, 5, 7, 102, 103, 104]), (35, [4, 5, 102, 103, 104]), (36, [4, 5, 102, 103, 104]), (37, [1, 4, 5, 117]), (38, [1, 4, 5]), (39, [4, 5]), (40, [5, 8, 9]), (41, [5, 8, 9, 133]), (42, [5, 8]), (43, [5, 8, 136]), (44, [2, 3]), (45, [8, 140]), (46, [2, 3]), (47, [2, 3]), (1000000, [2, 3])] [] []
@[go_sem] theorem c85_i : c85.li 0 = [0] ∧ c85.li 1 = [1] ∧ c85.li 2 = [1, 4] ∧ c85.li 3 = [1, 4] ∧ c85.li 4 = [1, 4, 5] ∧ c85.li 5 = [] ∧ c85.li 6 = [1, 4, 5, 17] ∧ c85.li 7 = [1, 4] ∧ c85.li 8 = [] ∧ c85.li 9 = [1, 4] ∧ c85.li 10 = [1, 4, 5, 17] ∧ c85.li 11 = [1, 4] ∧ c85.li 12 = [1, 4, 5, 17] ∧ c85.li 13 = [1, 4] ∧ c85.li 14 = [] ∧ c85.li 15 = [1, 4] ∧ c85.li 16 = [1, 4, 5] ∧ c85.li 17 = [1, 4, 5] ∧ c85.li 18 = [1, 4, 5] ∧ c85.li 19 = [1, 4, 5] ∧ c85.li 20 = [1, 4, 5, 17] ∧ c85.li 21 = [1, 4, 5, 17] ∧ c85.li 22 = [1, 4, 5, 17] ∧ c85.li 23 = [1, 4] ∧ c85.li 24 = [1, 4, 5] ∧ c85.li 25 = [1, 4, 5] ∧ c85.li 26 = [1, 4, 5, 17] ∧ c85.li 27 = [1, 4, 5, 17] ∧ c85.li 28 = [1, 4, 5] ∧ c85.li 29 = [1, 4, 5, 17] ∧ c85.li 30 = [1, 4, 5] ∧ c85.li 31 = [1, 4, 5] ∧ c85.li 32 = [4, 5, 102, 103, 104] ∧ c85.li 33 = [4, 5, 102, 103, 104] ∧ c85.li 34 = [4, 5, 7, 102, 103, 104] ∧ c85.li 35 = [4, 5, 7, 102, 103, 104] ∧ c85.li 36 = [4, 5, 102, 103, 104] ∧ c85.li 37 = [1, 4, 5, 17] ∧ c85.li 38 = [1, 4, 5] ∧ c85.li 39 = [1, 4, 5] ∧ c85.li 40 = [4, 5] ∧ c85.li 41 = [5, 8, 9] ∧ c85.li 42 = [8, 9] ∧ c85.li 43 = [5, 8] ∧ c85.li 44 = [5] ∧ c85.li 45 = [8] ∧ c85.li 46 = [] ∧ c85.li 47 = [8] := ⟨rfl, rfl, rfl, rfl, rfl, rfl, rfl, rfl, rfl, rfl, rfl, rfl, rfl, rfl, rfl, rfl, rfl, rfl, rfl, rfl, rfl, rfl, rfl, rfl, rfl, rfl, rfl, rfl, rfl, rfl, rfl, rfl, rfl, rfl, rfl, rfl, rfl, rfl, rfl, rfl, rfl, rfl, rfl, rfl, rfl, rfl, rfl, rfl⟩
@[go_sem] theorem c85_r0 (v0 : api_Rec) : RP c85 0 [(0, v_api_Rec v0)] K =
 (nwc #[v0.Kind, v0.Txn, v0.Prev, v0.Page, v0.Act, str v0.Key, str v0.Old, str v0.New, v0.Next, .slice v0.Images.1 v0.Images.2.1 v0.Images.2.2, .slice v0.Table.1 v0.Table.2.1 v0.Table.2.2, v0.Epoch, v0.Node] 47 fun y1_ => (K [(1, y1_)])) := by kernel_rfl
@[go_sem] theorem c85_r1 (v1 : Addr) : RP c85 1 [(1, v1)] K =
 (nwc #[str ((⟨([] : List UInt8), (0 : Int)⟩ : pack_Writer).s), .int .i64 ((⟨([] : List UInt8), (0 : Int)⟩ : pack_Writer).e)] 132 fun y1_ => (K [(1, v1), (4, y1_)])) := by kernel_rfl
@[go_sem] theorem c85_r2 (v1 v4 : Addr) : RP c85 2 [(1, v1), (4, v4)] K =
 (ld eI v1 fun (y1_ : Int) => (cal eN Tryz.prog 68 #[v4, y1_, .int .i64 1] fun (y2_ : Unit) => (K [(1, v1), (4, v4)]))) := by kernel_rfl
@[go_sem] theorem c85_r3 (v1 v4 : Addr) : RP c85 3 [(1, v1), (4, v4)] K =
 (K [(1, v1), (4, v4), (5, .int .i64 0)]) := by kernel_rfl
@[go_sem] theorem c85_r4 (v1 v4 : Addr) (v5 : Int) : RP c85 4 [(1, v1), (4, v4), (5, v5)] K =
 (ld eI v1 fun (y1_ : Int) => (K [(1, v1), (4, v4), (5, v5), (17, y1_)])) := by kernel_rfl
@[go_sem] theorem c85_r5 : RP c85 5 [] K =
 (K [(2, str ([] : List UInt8)), (3, .int .i64 1)]) := by kernel_rfl
@[go_sem] theorem c85_r6 (v1 v4 : Addr) (v5 v17 : Int) : RP c85 6 [(1, v1), (4, v4), (5, v5), (17, v17)] K =
 (K [(1, v1), (4, v4), (5, v5), (17, v17), (18, .bool (v17 == 1))]) := by kernel_rfl
@[go_sem] theorem c85_r7 (v1 v4 : Addr) : RP c85 7 [(1, v1), (4, v4)] K =
 (ld eSl (v1.add 9) fun (y1_ : (Option Addr × Nat × Nat)) => (K [(1, v1), (4, v4), (23, .bool ((y1_.2.1 : Int) != 1))])) := by kernel_rfl
@[go_sem] theorem c85_r8 : RP c85 8 [] K =
 (K [(2, str ([] : List UInt8)), (3, .int .i64 4)]) := by kernel_rfl
@[go_sem] theorem c85_r9 (v1 v4 : Addr) : RP c85 9 [(1, v1), (4, v4)] K =
 (ld eSl (v1.add 9) fun (y1_ : (Option Addr × Nat × Nat)) => (cal eI Tryz.prog 108 #[v4, .slice y1_.1 y1_.2.1 y1_.2.2] fun (y2_ : Int) => (K [(4, v4), (5, y2_)]))) := by kernel_rfl
@[go_sem] theorem c85_r10 (v1 v4 : Addr) (v5 v17 : Int) : RP c85 10 [(1, v1), (4, v4), (5, v5), (17, v17)] K =
 (K [(1, v1), (4, v4), (5, v5), (17, v17), (28, .bool (v17 == 2))]) := by kernel_rfl
@[go_sem] theorem c85_r11 (v1 v4 : Addr) : RP c85 11 [(1, v1), (4, v4)] K =
 (ld eSl (v1.add 9) fun (y1_ : (Option Addr × Nat × Nat)) => (cal eI Tryz.prog 108 #[v4, .slice y1_.1 y1_.2.1 y1_.2.2] fun (y2_ : Int) => (K [(4, v4), (5, y2_)]))) := by kernel_rfl
@[go_sem] theorem c85_r12 (v1 v4 : Addr) (v5 v17 : Int) : RP c85 12 [(1, v1), (4, v4), (5, v5), (17, v17)] K =
 (K [(1, v1), (4, v4), (5, v5), (17, v17), (34, .bool (v17 == 6))]) := by kernel_rfl
@[go_sem] theorem c85_r13 (v1 v4 : Addr) : RP c85 13 [(1, v1), (4, v4)] K =
 (ld eI (v1.add 4) fun (y1_ : Int) => (cnd (decide (y1_ < 3)) (K [(1, v1), (4, v4), (43, true)]) (ld eI (v1.add 4) fun (y2_ : Int) => (K [(1, v1), (4, v4), (43, decide (5 < y2_))])))) := by kernel_rfl
@[go_sem] theorem c85_r14 : RP c85 14 [] K =
 (K [(2, str ([] : List UInt8)), (3, .int .i64 4)]) := by kernel_rfl
@[go_sem] theorem c85_r15 (v1 v4 : Addr) : RP c85 15 [(1, v1), (4, v4)] K =
 (ld eS (v1.add 5) fun (y1_ : List UInt8) => (ld eS (v1.add 6) fun (y2_ : List UInt8) => (ld eS (v1.add 7) fun (y3_ : List UInt8) => (nwc #[str y2_, str y3_] 9 fun y4_ => (cal eI Tryz.prog 109 #[str y1_, .slice (some y4_) 2 2] fun (y5_ : Int) => (K [(1, v1), (4, v4), (5, y5_)])))))) := by kernel_rfl
@[go_sem] theorem c85_r16 (v1 v4 : Addr) (v5 : Int) : RP c85 16 [(1, v1), (4, v4), (5, v5)] K =
 (ldn e_api_Rec 13 v1 fun (y1_ : api_Rec) => (cal eN Tryz.prog 110 #[v4, v_api_Rec y1_] fun (y2_ : Unit) => (K [(1, v1), (4, v4), (5, v5)]))) := by kernel_rfl
@[go_sem] theorem c85_r17 (v1 v4 : Addr) (v5 : Int) : RP c85 17 [(1, v1), (4, v4), (5, v5)] K =
 (ld eI (v1.add 8) fun (y1_ : Int) => (cal eN Tryz.prog 68 #[v4, y1_, .int .i64 6] fun (y2_ : Unit) => (K [(1, v1), (4, v4), (5, v5)]))) := by kernel_rfl
@[go_sem] theorem c85_r18 (v1 v4 : Addr) (v5 : Int) : RP c85 18 [(1, v1), (4, v4), (5, v5)] K =
 (ld eI (v1.add 4) fun (y1_ : Int) => (cal eN Tryz.prog 68 #[v4, y1_, .int .i64 1] fun (y2_ : Unit) => (K [(1, v1), (4, v4), (5, v5)]))) := by kernel_rfl
@[go_sem] theorem c85_r19 (v1 v4 : Addr) (v5 : Int) : RP c85 19 [(1, v1), (4, v4), (5, v5)] K =
 (ldn e_api_Rec 13 v1 fun (y1_ : api_Rec) => (ld eI (v1.add 4) fun (y2_ : Int) => (cal eN Tryz.prog 111 #[v4, v_api_Rec y1_, y2_] fun (y3_ : Unit) => (K [(4, v4), (5, v5)])))) := by kernel_rfl
@[go_sem] theorem c85_r20 (v1 v4 : Addr) (v5 v17 : Int) : RP c85 20 [(1, v1), (4, v4), (5, v5), (17, v17)] K =
 (K [(1, v1), (4, v4), (5, v5), (17, v17), (68, .bool (v17 == 3))]) := by kernel_rfl
@[go_sem] theorem c85_r21 (v1 v4 : Addr) (v5 v17 : Int) : RP c85 21 [(1, v1), (4, v4), (5, v5), (17, v17)] K =
 (K [(1, v1), (4, v4), (5, v5), (17, v17), (68, .bool (v17 == 4))]) := by kernel_rfl
@[go_sem] theorem c85_r22 (v1 v4 : Addr) (v5 v17 : Int) : RP c85 22 [(1, v1), (4, v4), (5, v5), (17, v17)] K =
 (K [(1, v1), (4, v4), (5, v5), (17, v17), (68, .bool (v17 == 5))]) := by kernel_rfl
@[go_sem] theorem c85_r23 (v1 v4 : Addr) : RP c85 23 [(1, v1), (4, v4)] K =
 (ld eS (v1.add 5) fun (y1_ : List UInt8) => (ld eS (v1.add 6) fun (y2_ : List UInt8) => (ld eS (v1.add 7) fun (y3_ : List UInt8) => (nwc #[str y2_, str y3_] 9 fun y4_ => (cal eI Tryz.prog 109 #[str y1_, .slice (some y4_) 2 2] fun (y5_ : Int) => (K [(1, v1), (4, v4), (5, y5_)])))))) := by kernel_rfl
@[go_sem] theorem c85_r24 (v1 v4 : Addr) (v5 : Int) : RP c85 24 [(1, v1), (4, v4), (5, v5)] K =
 (ldn e_api_Rec 13 v1 fun (y1_ : api_Rec) => (cal eN Tryz.prog 110 #[v4, v_api_Rec y1_] fun (y2_ : Unit) => (K [(1, v1), (4, v4), (5, v5)]))) := by kernel_rfl
@[go_sem] theorem c85_r25 (v1 v4 : Addr) (v5 : Int) : RP c85 25 [(1, v1), (4, v4), (5, v5)] K =
 (ldn e_api_Rec 13 v1 fun (y1_ : api_Rec) => (ld eI v1 fun (y2_ : Int) => (cal eN Tryz.prog 111 #[v4, v_api_Rec y1_, y2_] fun (y3_ : Unit) => (K [(4, v4), (5, v5)])))) := by kernel_rfl
@[go_sem] theorem c85_r26 (v1 v4 : Addr) (v5 v17 : Int) : RP c85 26 [(1, v1), (4, v4), (5, v5), (17, v17)] K =
 (K [(1, v1), (4, v4), (5, v5), (17, v17), (88, .bool (v17 == 7))]) := by kernel_rfl
@[go_sem] theorem c85_r27 (v1 v4 : Addr) (v5 v17 : Int) : RP c85 27 [(1, v1), (4, v4), (5, v5), (17, v17)] K =
 (K [(1, v1), (4, v4), (5, v5), (17, v17), (88, .bool (v17 == 8))]) := by kernel_rfl
@[go_sem] theorem c85_r28 (v1 v4 : Addr) (v5 : Int) : RP c85 28 [(1, v1), (4, v4), (5, v5)] K =
 (ldn e_api_Rec 13 v1 fun (y1_ : api_Rec) => (cal eN Tryz.prog 110 #[v4, v_api_Rec y1_] fun (y2_ : Unit) => (K [(4, v4), (5, v5)]))) := by kernel_rfl
@[go_sem] theorem c85_r29 (v1 v4 : Addr) (v5 v17 : Int) : RP c85 29 [(1, v1), (4, v4), (5, v5), (17, v17)] K =
 (K [(1, v1), (4, v4), (5, v5), (17, v17), (94, .bool (v17 == 9))]) := by kernel_rfl
@[go_sem] theorem c85_r30 (v1 v4 : Addr) (v5 : Int) : RP c85 30 [(1, v1), (4, v4), (5, v5)] K =
 (ld eSl (v1.add 10) fun (y1_ : (Option Addr × Nat × Nat)) => (cal eN Tryz.prog 68 #[v4, .int .i64 (y1_.2.1 : Int), .int .i64 1] fun (y2_ : Unit) => (K [(1, v1), (4, v4), (5, v5)]))) := by kernel_rfl
@[go_sem] theorem c85_r31 (v1 v4 : Addr) (v5 : Int) : RP c85 31 [(1, v1), (4, v4), (5, v5)] K =
 (ld eSl (v1.add 10) fun (y1_ : (Option Addr × Nat × Nat)) => (K [(4, v4), (5, v5), (102, .slice y1_.1 y1_.2.1 y1_.2.2), (103, .int .i64 (y1_.2.1 : Int)), (104, .int .i64 0)])) := by kernel_rfl
@[go_sem] theorem c85_r32 (v4 : Addr) (v5 : Int) (v102p : Option Addr) (v102n v102c : Nat) (v103 v104 : Int) : RP c85 32 [(4, v4), (5, v5), (102, .slice v102p v102n v102c), (103, v103), (104, v104)] K =
 (K [(4, v4), (5, v5), (102, .slice v102p v102n v102c), (103, v103), (104, v104), (105, decide (v104 < v103))]) := by kernel_rfl
@[go_sem] theorem c85_r33 (v4 : Addr) (v5 : Int) (v102p : Option Addr) (v102n v102c : Nat) (v103 v104 : Int) : RP c85 33 [(4, v4), (5, v5), (102, .slice v102p v102n v102c), (103, v103), (104, v104)] K =
 (rq (0 ≤ v104 ∧ v104 < v102n) (nn v102p fun y1_ => (ldn e_api_Active 2 (Addr.add y1_ (v104.toNat * 2)) fun (y2_ : api_Active) => (nwc #[.int .i64 0, .int .i64 0] 40 fun y3_ => (stl [y2_.Txn, y2_.Last] y3_ 0 (K [(4, v4), (5, v5), (7, y3_), (102, .slice v102p v102n v102c), (103, v103), (104, v104)])))))) := by kernel_rfl
@[go_sem] theorem c85_r34 (v4 : Addr) (v5 : Int) (v7 : Addr) (v102p : Option Addr) (v102n v102c : Nat) (v103 v104 : Int) : RP c85 34 [(4, v4), (5, v5), (7, v7), (102, .slice v102p v102n v102c), (103, v103), (104, v104)] K =
 (ld eI v7 fun (y1_ : Int) => (cal eN Tryz.prog 68 #[v4, y1_, .int .i64 6] fun (y2_ : Unit) => (K [(4, v4), (5, v5), (7, v7), (102, .slice v102p v102n v102c), (103, v103), (104, v104)]))) := by kernel_rfl
@[go_sem] theorem c85_r35 (v4 : Addr) (v5 : Int) (v7 : Addr) (v102p : Option Addr) (v102n v102c : Nat) (v103 v104 : Int) : RP c85 35 [(4, v4), (5, v5), (7, v7), (102, .slice v102p v102n v102c), (103, v103), (104, v104)] K =
 (ld eI (v7.add 1) fun (y1_ : Int) => (cal eN Tryz.prog 68 #[v4, y1_, .int .i64 6] fun (y2_ : Unit) => (K [(4, v4), (5, v5), (102, .slice v102p v102n v102c), (103, v103), (104, v104)]))) := by kernel_rfl
@[go_sem] theorem c85_r36 (v4 : Addr) (v5 : Int) (v102p : Option Addr) (v102n v102c : Nat) (v103 v104 : Int) : RP c85 36 [(4, v4), (5, v5), (102, .slice v102p v102n v102c), (103, v103), (104, v104)] K =
 (K [(4, v4), (5, v5), (102, .slice v102p v102n v102c), (103, v103), (104, IntKind.wrap .i64 (v104 + 1))]) := by kernel_rfl
@[go_sem] theorem c85_r37 (v1 v4 : Addr) (v5 v17 : Int) : RP c85 37 [(1, v1), (4, v4), (5, v5), (17, v17)] K =
 (K [(1, v1), (4, v4), (5, v5), (117, .bool (v17 == 10))]) := by kernel_rfl
@[go_sem] theorem c85_r38 (v1 v4 : Addr) (v5 : Int) : RP c85 38 [(1, v1), (4, v4), (5, v5)] K =
 (ld eI (v1.add 11) fun (y1_ : Int) => (cal eN Tryz.prog 68 #[v4, y1_, .int .i64 4] fun (y2_ : Unit) => (K [(1, v1), (4, v4), (5, v5)]))) := by kernel_rfl
@[go_sem] theorem c85_r39 (v1 v4 : Addr) (v5 : Int) : RP c85 39 [(1, v1), (4, v4), (5, v5)] K =
 (ld eI (v1.add 12) fun (y1_ : Int) => (cal eN Tryz.prog 68 #[v4, y1_, .int .i64 1] fun (y2_ : Unit) => (K [(4, v4), (5, v5)]))) := by kernel_rfl
@[go_sem] theorem c85_r40 (v4 : Addr) (v5 : Int) : RP c85 40 [(4, v4), (5, v5)] K =
 (cal (eT2 eS eI) Tryz.prog 69 #[v4] fun (y1_ : ((List UInt8) × Int)) => (K [(5, v5), (8, str y1_.1), (9, y1_.2)])) := by kernel_rfl
@[go_sem] theorem c85_r41 (v5 : Int) (v8 : List UInt8) (v9 : Int) : RP c85 41 [(5, v5), (8, str v8), (9, v9)] K =
 (K [(5, v5), (8, str v8), (9, v9), (133, .bool (v5 == 0))]) := by kernel_rfl
@[go_sem] theorem c85_r42 (v8 : List UInt8) (v9 : Int) : RP c85 42 [(8, str v8), (9, v9)] K =
 (K [(5, v9), (8, str v8)]) := by kernel_rfl
@[go_sem] theorem c85_r43 (v5 : Int) (v8 : List UInt8) : RP c85 43 [(5, v5), (8, str v8)] K =
 (K [(5, v5), (8, str v8), (136, .bool (v5 != 0))]) := by kernel_rfl
@[go_sem] theorem c85_r44 (v5 : Int) : RP c85 44 [(5, v5)] K =
 (K [(2, str ([] : List UInt8)), (3, v5)]) := by kernel_rfl
@[go_sem] theorem c85_r45 (v8 : List UInt8) : RP c85 45 [(8, str v8)] K =
 (K [(8, str v8), (140, decide ((4096 : Int) < (v8.length : Int)))]) := by kernel_rfl
@[go_sem] theorem c85_r46 : RP c85 46 [] K =
 (K [(2, str ([] : List UInt8)), (3, .int .i64 3)]) := by kernel_rfl
@[go_sem] theorem c85_r47 (v8 : List UInt8) : RP c85 47 [(8, str v8)] K =
 (K [(2, str v8), (3, .int .i64 0)]) := by kernel_rfl
@[go_sem] theorem c85_o : c85.lo 1000000 = [2, 3] := rfl
@[go_sem] theorem c85_e (v2 : List UInt8) (v3 : Int) : RTp c85 [(2, str v2), (3, v3)] k = (k (.tuple #[str v2, v3])) := by kernel_rfl
theorem c85_ok : (c85.P.follows .mixedOrders && okc c85 c85.body) = true := by kernel_rfl
theorem c85_fn (hρ : envA 0 args.toList = ρ) (hs : Nat.ble args.size 142 = true) (h : E L (D c85 (.seq (.reg 0) (.seq (.reg 1) (.seq (.reg 2) (.seq (.reg 3) (.seq (.seq (.reg 4) (.block 0 (.seq (.reg 6) (.cond (.tmp 18) (.seq (.seq (.reg 7) (.cond (.tmp 23) (.seq (.reg 8) (.ret)) (.skip))) (.reg 9)) (.seq (.reg 10) (.cond (.tmp 28) (.reg 11) (.seq (.reg 12) (.cond (.tmp 34) (.seq (.seq (.reg 13) (.cond (.tmp 43) (.seq (.reg 14) (.ret)) (.skip))) (.seq (.reg 15) (.seq (.reg 16) (.seq (.reg 17) (.seq (.reg 18) (.reg 19)))))) (.seq (.seq (.reg 20) (.cond (.tmp 68) (.skip) (.seq (.reg 21) (.cond (.tmp 68) (.skip) (.reg 22))))) (.cond (.tmp 68) (.seq (.reg 23) (.seq (.reg 24) (.reg 25))) (.seq (.seq (.reg 26) (.cond (.tmp 88) (.skip) (.reg 27))) (.cond (.tmp 88) (.reg 28) (.seq (.reg 29) (.cond (.tmp 94) (.seq (.reg 30) (.seq (.reg 31) (.block 1 (.loop (.seq (.reg 32) (.seq (.cond (.tmp 105) (.skip) (.exit 1)) (.seq (.block 2 (.seq (.reg 33) (.seq (.reg 34) (.reg 35)))) (.reg 36)))))))) (.seq (.reg 37) (.cond (.tmp 117) (.seq (.reg 38) (.reg 39)) (.seq (.reg 5) (.ret)))))))))))))))))) (.seq (.reg 40) (.seq (.seq (.reg 41) (.cond (.tmp 133) (.reg 42) (.skip))) (.seq (.seq (.reg 43) (.cond (.tmp 136) (.seq (.reg 44) (.ret)) (.skip))) (.seq (.seq (.reg 45) (.cond (.tmp 140) (.seq (.reg 46) (.ret)) (.skip))) (.seq (.reg 47) (.ret))))))))))) (fnQ c85 e G) ρ)) : E L (cal e Tryz.prog 85 args G) :=
  d_fn (c := c85) Tryz.func85 (by kernel_rfl) (by kernel_rfl) (by kernel_rfl) c85_ok (by kernel_rfl) (by kernel_rfl) hρ hs h
noncomputable def c86 := cf Tryz.f86 92 [(0, [0]), (1, [1, 2]), (2, [1, 2, 3]), (3, [1, 2, 3, 8]), (4, [1, 2, 3, 8]), (5, [1, 2, 3]), (6, [1, 2, 3, 8]), (7, [1, 2, 3, 8]), (8, [1, 2, 3, 8]), (9, [1, 2, 3]), (10, [1, 2, 3]), (11, [1, 2, 3, 8]), (12, [1, 2, 3]), (13, [1, 2, 3]), (14, [1, 2, 3, 8]), (15, [1, 2, 3, 8]), (16, [1, 2, 3]), (17, [1, 2, 3, 8]), (18, [1, 2, 3]), (19, [1, 2, 3, 8]), (20, [1, 2, 3]), (21, [2, 3])] [(0, [1, 2]), (1, [1, 2, 3]), (2, [1, 2, 3, 8]), (3, [1, 2, 3, 8, 9]), (4, [1, 2, 3, 8, 9]), (5, [2, 3]), (6, [1, 2, 3, 8, 15]), (7, [1, 2, 3, 8, 15]), (8, [1, 2, 3, 8, 15]), (9, [1, 2, 3]), (10, [2, 3]), (11, [1, 2, 3, 8, 40]), (12, [1, 2, 3]), (13, [2, 3]), (14, [1, 2, 3, 8, 69]), (15, [1, 2, 3, 8, 69]), (16, [2, 3]), (17, [1, 2, 3, 8, 78]), (18, [2, 3]), (19, [1, 2, 3, 83]), (20, [2, 3]), (21, [2]), (1000000, [2])] [(9, (true, [(0, 1), (1, 0), (2, 1), (3, 0), (4, 1), (5, 0), (6, 1), (7, 0), (8, 1), (9, 0), (10, 1), (11, 0), (12, 1), (13, 2), (14, 1), (15, 2), (16, 1), (17, 2), (18, 1), (19, 2), (20, 1), (21, 2), (22, 1), (23, 4)])), (12, (true, [(0, 1), (1, 0), (2, 1), (3, 0), (4, 1), (5, 0), (6, 1), (7, 0), (8, 1), (9, 0), (10, 1), (11, 0), (12, 1), (13, 0), (14, 1), (15, 0), (16, 1), (17, 2), (18, 1), (19, 2), (20, 1), (21, 2), (22, 1), (23, 2), (24, 1), (25, 2), (26, 1), (27, 2), (28, 1), (29, 2), (30, 1), (31, 4)])), (16, (true, [(0, 1), (1, 0), (2, 1), (3, 0), (4, 1), (5, 2), (6, 1), (7, 4)])), (20, (true, [(0, 1), (1, 0), (2, 1), (3, 0), (4, 1), (5, 2), (6, 1), (7, 4)]))] []
@[go_sem] theorem c86_i : c86.li 0 = [0] ∧ c86.li 1 = [1, 2] ∧ c86.li 2 = [1, 2, 3] ∧ c86.li 3 = [1, 2, 3, 8] ∧ c86.li 4 = [1, 2, 3, 8] ∧ c86.li 5 = [1, 2, 3] ∧ c86.li 6 = [1, 2, 3, 8] ∧ c86.li 7 = [1, 2, 3, 8] ∧ c86.li 8 = [1, 2, 3, 8] ∧ c86.li 9 = [1, 2, 3] ∧ c86.li 10 = [1, 2, 3] ∧ c86.li 11 = [1, 2, 3, 8] ∧ c86.li 12 = [1, 2, 3] ∧ c86.li 13 = [1, 2, 3] ∧ c86.li 14 = [1, 2, 3, 8] ∧ c86.li 15 = [1, 2, 3, 8] ∧ c86.li 16 = [1, 2, 3] ∧ c86.li 17 = [1, 2, 3, 8] ∧ c86.li 18 = [1, 2, 3] ∧ c86.li 19 = [1, 2, 3, 8] ∧ c86.li 20 = [1, 2, 3] ∧ c86.li 21 = [2, 3] := ⟨rfl, rfl, rfl, rfl, rfl, rfl, rfl, rfl, rfl, rfl, rfl, rfl, rfl, rfl, rfl, rfl, rfl, rfl, rfl, rfl, rfl, rfl⟩
@[go_sem] theorem c86_r0 (v0 : api_Rec) : RP c86 0 [(0, v_api_Rec v0)] K =
 (nwc #[v0.Kind, v0.Txn, v0.Prev, v0.Page, v0.Act, str v0.Key, str v0.Old, str v0.New, v0.Next, .slice v0.Images.1 v0.Images.2.1 v0.Images.2.2, .slice v0.Table.1 v0.Table.2.1 v0.Table.2.2, v0.Epoch, v0.Node] 47 fun y1_ => (nwc #[.int .i64 0, .int .i64 0, .int .i64 0, .int .i64 0, .int .i64 0, str ([] : List UInt8), str ([] : List UInt8), str ([] : List UInt8), .int .i64 0, .slice none 0 0, .slice none 0 0, .int .i64 0, .int .i64 0] 47 fun y2_ => (K [(1, y1_), (2, y2_)]))) := by kernel_rfl
@[go_sem] theorem c86_r1 (v1 v2 : Addr) : RP c86 1 [(1, v1), (2, v2)] K =
 (ld eI v1 fun (y1_ : Int) => (nwc #[.int .i64 0, .int .i64 0, .int .i64 0, .int .i64 0, .int .i64 0, str ([] : List UInt8), str ([] : List UInt8), str ([] : List UInt8), .int .i64 0, .slice none 0 0, .slice none 0 0, .int .i64 0, .int .i64 0] 47 fun y2_ => (stl [.int .i64 ((⟨y1_, (0 : Int), (0 : Int), (0 : Int), (0 : Int), ([] : List UInt8), ([] : List UInt8), ([] : List UInt8), (0 : Int), (none, 0, 0), (none, 0, 0), (0 : Int), (0 : Int)⟩ : api_Rec).Kind), .int .i64 ((⟨y1_, (0 : Int), (0 : Int), (0 : Int), (0 : Int), ([] : List UInt8), ([] : List UInt8), ([] : List UInt8), (0 : Int), (none, 0, 0), (none, 0, 0), (0 : Int), (0 : Int)⟩ : api_Rec).Txn), .int .i64 ((⟨y1_, (0 : Int), (0 : Int), (0 : Int), (0 : Int), ([] : List UInt8), ([] : List UInt8), ([] : List UInt8), (0 : Int), (none, 0, 0), (none, 0, 0), (0 : Int), (0 : Int)⟩ : api_Rec).Prev), .int .i64 ((⟨y1_, (0 : Int), (0 : Int), (0 : Int), (0 : Int), ([] : List UInt8), ([] : List UInt8), ([] : List UInt8), (0 : Int), (none, 0, 0), (none, 0, 0), (0 : Int), (0 : Int)⟩ : api_Rec).Page), .int .i64 ((⟨y1_, (0 : Int), (0 : Int), (0 : Int), (0 : Int), ([] : List UInt8), ([] : List UInt8), ([] : List UInt8), (0 : Int), (none, 0, 0), (none, 0, 0), (0 : Int), (0 : Int)⟩ : api_Rec).Act), str ((⟨y1_, (0 : Int), (0 : Int), (0 : Int), (0 : Int), ([] : List UInt8), ([] : List UInt8), ([] : List UInt8), (0 : Int), (none, 0, 0), (none, 0, 0), (0 : Int), (0 : Int)⟩ : api_Rec).Key), str ((⟨y1_, (0 : Int), (0 : Int), (0 : Int), (0 : Int), ([] : List UInt8), ([] : List UInt8), ([] : List UInt8), (0 : Int), (none, 0, 0), (none, 0, 0), (0 : Int), (0 : Int)⟩ : api_Rec).Old), str ((⟨y1_, (0 : Int), (0 : Int), (0 : Int), (0 : Int), ([] : List UInt8), ([] : List UInt8), ([] : List UInt8), (0 : Int), (none, 0, 0), (none, 0, 0), (0 : Int), (0 : Int)⟩ : api_Rec).New), .int .i64 ((⟨y1_, (0 : Int), (0 : Int), (0 : Int), (0 : Int), ([] : List UInt8), ([] : List UInt8), ([] : List UInt8), (0 : Int), (none, 0, 0), (none, 0, 0), (0 : Int), (0 : Int)⟩ : api_Rec).Next), .slice (((⟨y1_, (0 : Int), (0 : Int), (0 : Int), (0 : Int), ([] : List UInt8), ([] : List UInt8), ([] : List UInt8), (0 : Int), (none, 0, 0), (none, 0, 0), (0 : Int), (0 : Int)⟩ : api_Rec).Images).1) (((⟨y1_, (0 : Int), (0 : Int), (0 : Int), (0 : Int), ([] : List UInt8), ([] : List UInt8), ([] : List UInt8), (0 : Int), (none, 0, 0), (none, 0, 0), (0 : Int), (0 : Int)⟩ : api_Rec).Images).2.1) (((⟨y1_, (0 : Int), (0 : Int), (0 : Int), (0 : Int), ([] : List UInt8), ([] : List UInt8), ([] : List UInt8), (0 : Int), (none, 0, 0), (none, 0, 0), (0 : Int), (0 : Int)⟩ : api_Rec).Images).2.2), .slice (((⟨y1_, (0 : Int), (0 : Int), (0 : Int), (0 : Int), ([] : List UInt8), ([] : List UInt8), ([] : List UInt8), (0 : Int), (none, 0, 0), (none, 0, 0), (0 : Int), (0 : Int)⟩ : api_Rec).Table).1) (((⟨y1_, (0 : Int), (0 : Int), (0 : Int), (0 : Int), ([] : List UInt8), ([] : List UInt8), ([] : List UInt8), (0 : Int), (none, 0, 0), (none, 0, 0), (0 : Int), (0 : Int)⟩ : api_Rec).Table).2.1) (((⟨y1_, (0 : Int), (0 : Int), (0 : Int), (0 : Int), ([] : List UInt8), ([] : List UInt8), ([] : List UInt8), (0 : Int), (none, 0, 0), (none, 0, 0), (0 : Int), (0 : Int)⟩ : api_Rec).Table).2.2), .int .i64 ((⟨y1_, (0 : Int), (0 : Int), (0 : Int), (0 : Int), ([] : List UInt8), ([] : List UInt8), ([] : List UInt8), (0 : Int), (none, 0, 0), (none, 0, 0), (0 : Int), (0 : Int)⟩ : api_Rec).Epoch), .int .i64 ((⟨y1_, (0 : Int), (0 : Int), (0 : Int), (0 : Int), ([] : List UInt8), ([] : List UInt8), ([] : List UInt8), (0 : Int), (none, 0, 0), (none, 0, 0), (0 : Int), (0 : Int)⟩ : api_Rec).Node)] y2_ 0 (K [(1, v1), (2, v2), (3, y2_)])))) := by kernel_rfl
@[go_sem] theorem c86_r2 (v1 v2 v3 : Addr) : RP c86 2 [(1, v1), (2, v2), (3, v3)] K =
 (ld eI v1 fun (y1_ : Int) => (K [(1, v1), (2, v2), (3, v3), (8, y1_)])) := by kernel_rfl
@[go_sem] theorem c86_r3 (v1 v2 v3 : Addr) (v8 : Int) : RP c86 3 [(1, v1), (2, v2), (3, v3), (8, v8)] K =
 (K [(1, v1), (2, v2), (3, v3), (8, v8), (9, .bool (v8 == 1))]) := by kernel_rfl
@[go_sem] theorem c86_r4 (v1 v2 v3 : Addr) (v8 : Int) : RP c86 4 [(1, v1), (2, v2), (3, v3), (8, v8)] K =
 (K [(1, v1), (2, v2), (3, v3), (8, v8), (9, .bool (v8 == 2))]) := by kernel_rfl
@[go_sem] theorem c86_r5 (v1 v2 v3 : Addr) : RP c86 5 [(1, v1), (2, v2), (3, v3)] K =
 (ld eSl (v1.add 9) fun (y1_ : (Option Addr × Nat × Nat)) => (st (v3.add 9) (.slice y1_.1 y1_.2.1 y1_.2.2) (K [(2, v2), (3, v3)]))) := by kernel_rfl
@[go_sem] theorem c86_r6 (v1 v2 v3 : Addr) (v8 : Int) : RP c86 6 [(1, v1), (2, v2), (3, v3), (8, v8)] K =
 (K [(1, v1), (2, v2), (3, v3), (8, v8), (15, .bool (v8 == 3))]) := by kernel_rfl
@[go_sem] theorem c86_r7 (v1 v2 v3 : Addr) (v8 : Int) : RP c86 7 [(1, v1), (2, v2), (3, v3), (8, v8)] K =
 (K [(1, v1), (2, v2), (3, v3), (8, v8), (15, .bool (v8 == 4))]) := by kernel_rfl
@[go_sem] theorem c86_r8 (v1 v2 v3 : Addr) (v8 : Int) : RP c86 8 [(1, v1), (2, v2), (3, v3), (8, v8)] K =
 (K [(1, v1), (2, v2), (3, v3), (8, v8), (15, .bool (v8 == 5))]) := by kernel_rfl
@[go_sem] theorem c86_r9 (v1 v2 v3 : Addr) : RP c86 9 [(1, v1), (2, v2), (3, v3)] K =
 (ph fun S0 => (ldq S0 eI (v1.add 1) fun (y1_ : Int) => (ldq S0 eI (v1.add 2) fun (y2_ : Int) => (ldq S0 eI (v1.add 3) fun (y3_ : Int) => (ldq S0 eS (v1.add 5) fun (y4_ : List UInt8) => (ldq S0 eS (v1.add 6) fun (y5_ : List UInt8) => (ldq S0 eS (v1.add 7) fun (y6_ : List UInt8) => (st (v3.add 1) (y1_) (kpn S0 fun S1 => (st (v3.add 2) (y2_) (kpn S1 fun S2 => (st (v3.add 3) (y3_) (kpn S2 fun S3 => (st (v3.add 5) (str y4_) (kpn S3 fun S4 => (st (v3.add 6) (str y5_) (kpn S4 fun S5 => (st (v3.add 7) (str y6_) (K [(1, v1), (2, v2), (3, v3)]))))))))))))))))))) := by kernel_rfl
@[go_sem] theorem c86_r10 (v1 v2 v3 : Addr) : RP c86 10 [(1, v1), (2, v2), (3, v3)] K =
 (ld eI v1 fun (y1_ : Int) => (cal eN Tryz.prog 112 #[v3, y1_] fun (y2_ : Unit) => (K [(2, v2), (3, v3)]))) := by kernel_rfl
@[go_sem] theorem c86_r11 (v1 v2 v3 : Addr) (v8 : Int) : RP c86 11 [(1, v1), (2, v2), (3, v3), (8, v8)] K =
 (K [(1, v1), (2, v2), (3, v3), (8, v8), (40, .bool (v8 == 6))]) := by kernel_rfl
@[go_sem] theorem c86_r12 (v1 v2 v3 : Addr) : RP c86 12 [(1, v1), (2, v2), (3, v3)] K =
 (ph fun S0 => (ldq S0 eI (v1.add 1) fun (y1_ : Int) => (ldq S0 eI (v1.add 2) fun (y2_ : Int) => (ldq S0 eI (v1.add 8) fun (y3_ : Int) => (ldq S0 eI (v1.add 4) fun (y4_ : Int) => (ldq S0 eI (v1.add 3) fun (y5_ : Int) => (ldq S0 eS (v1.add 5) fun (y6_ : List UInt8) => (ldq S0 eS (v1.add 6) fun (y7_ : List UInt8) => (ldq S0 eS (v1.add 7) fun (y8_ : List UInt8) => (st (v3.add 1) (y1_) (kpn S0 fun S1 => (st (v3.add 2) (y2_) (kpn S1 fun S2 => (st (v3.add 8) (y3_) (kpn S2 fun S3 => (st (v3.add 4) (y4_) (kpn S3 fun S4 => (st (v3.add 3) (y5_) (kpn S4 fun S5 => (st (v3.add 5) (str y6_) (kpn S5 fun S6 => (st (v3.add 6) (str y7_) (kpn S6 fun S7 => (st (v3.add 7) (str y8_) (K [(1, v1), (2, v2), (3, v3)]))))))))))))))))))))))))) := by kernel_rfl
@[go_sem] theorem c86_r13 (v1 v2 v3 : Addr) : RP c86 13 [(1, v1), (2, v2), (3, v3)] K =
 (ld eI (v1.add 4) fun (y1_ : Int) => (cal eN Tryz.prog 112 #[v3, y1_] fun (y2_ : Unit) => (K [(2, v2), (3, v3)]))) := by kernel_rfl
@[go_sem] theorem c86_r14 (v1 v2 v3 : Addr) (v8 : Int) : RP c86 14 [(1, v1), (2, v2), (3, v3), (8, v8)] K =
 (K [(1, v1), (2, v2), (3, v3), (8, v8), (69, .bool (v8 == 7))]) := by kernel_rfl
@[go_sem] theorem c86_r15 (v1 v2 v3 : Addr) (v8 : Int) : RP c86 15 [(1, v1), (2, v2), (3, v3), (8, v8)] K =
 (K [(1, v1), (2, v2), (3, v3), (8, v8), (69, .bool (v8 == 8))]) := by kernel_rfl
@[go_sem] theorem c86_r16 (v1 v2 v3 : Addr) : RP c86 16 [(1, v1), (2, v2), (3, v3)] K =
 (ph fun S0 => (ldq S0 eI (v1.add 1) fun (y1_ : Int) => (ldq S0 eI (v1.add 2) fun (y2_ : Int) => (st (v3.add 1) (y1_) (kpn S0 fun S1 => (st (v3.add 2) (y2_) (K [(2, v2), (3, v3)]))))))) := by kernel_rfl
@[go_sem] theorem c86_r17 (v1 v2 v3 : Addr) (v8 : Int) : RP c86 17 [(1, v1), (2, v2), (3, v3), (8, v8)] K =
 (K [(1, v1), (2, v2), (3, v3), (8, v8), (78, .bool (v8 == 9))]) := by kernel_rfl
@[go_sem] theorem c86_r18 (v1 v2 v3 : Addr) : RP c86 18 [(1, v1), (2, v2), (3, v3)] K =
 (ld eSl (v1.add 10) fun (y1_ : (Option Addr × Nat × Nat)) => (st (v3.add 10) (.slice y1_.1 y1_.2.1 y1_.2.2) (K [(2, v2), (3, v3)]))) := by kernel_rfl
@[go_sem] theorem c86_r19 (v1 v2 v3 : Addr) (v8 : Int) : RP c86 19 [(1, v1), (2, v2), (3, v3), (8, v8)] K =
 (K [(1, v1), (2, v2), (3, v3), (83, .bool (v8 == 10))]) := by kernel_rfl
@[go_sem] theorem c86_r20 (v1 v2 v3 : Addr) : RP c86 20 [(1, v1), (2, v2), (3, v3)] K =
 (ph fun S0 => (ldq S0 eI (v1.add 11) fun (y1_ : Int) => (ldq S0 eI (v1.add 12) fun (y2_ : Int) => (st (v3.add 11) (y1_) (kpn S0 fun S1 => (st (v3.add 12) (y2_) (K [(2, v2), (3, v3)]))))))) := by kernel_rfl
@[go_sem] theorem c86_r21 (v2 v3 : Addr) : RP c86 21 [(2, v2), (3, v3)] K =
 (ldn e_api_Rec 13 v3 fun (y1_ : api_Rec) => (stl [y1_.Kind, y1_.Txn, y1_.Prev, y1_.Page, y1_.Act, str y1_.Key, str y1_.Old, str y1_.New, y1_.Next, .slice y1_.Images.1 y1_.Images.2.1 y1_.Images.2.2, .slice y1_.Table.1 y1_.Table.2.1 y1_.Table.2.2, y1_.Epoch, y1_.Node] v2 0 (K [(2, v2)]))) := by kernel_rfl
@[go_sem] theorem c86_o : c86.lo 1000000 = [2] := rfl
@[go_sem] theorem c86_e (v2 : Addr) : RTp c86 [(2, v2)] k = (ldn e_api_Rec 13 v2 fun (y1_ : api_Rec) => (k (v_api_Rec y1_))) := by kernel_rfl
theorem c86_ok : (c86.P.follows .mixedOrders && okc c86 c86.body) = true := by kernel_rfl
theorem c86_fn (hρ : envA 0 args.toList = ρ) (hs : Nat.ble args.size 92 = true) (h : E L (D c86 (.seq (.reg 0) (.seq (.reg 1) (.seq (.seq (.reg 2) (.block 0 (.seq (.seq (.reg 3) (.cond (.tmp 9) (.skip) (.reg 4))) (.cond (.tmp 9) (.reg 5) (.seq (.seq (.reg 6) (.cond (.tmp 15) (.skip) (.seq (.reg 7) (.cond (.tmp 15) (.skip) (.reg 8))))) (.cond (.tmp 15) (.seq (.reg 9) (.reg 10)) (.seq (.reg 11) (.cond (.tmp 40) (.seq (.reg 12) (.reg 13)) (.seq (.seq (.reg 14) (.cond (.tmp 69) (.skip) (.reg 15))) (.cond (.tmp 69) (.reg 16) (.seq (.reg 17) (.cond (.tmp 78) (.reg 18) (.seq (.reg 19) (.cond (.tmp 83) (.reg 20) (.skip))))))))))))))) (.seq (.reg 21) (.ret))))) (fnQ c86 e G) ρ)) : E L (cal e Tryz.prog 86 args G) :=
  d_fn (c := c86) Tryz.func86 (by kernel_rfl) (by kernel_rfl) (by kernel_rfl) c86_ok (by kernel_rfl) (by kernel_rfl) hρ hs h
noncomputable def c108 := cf Tryz.f108 30 [(0, [0, 1]), (1, [0, 1]), (2, [0, 1]), (3, [0, 11, 12, 13]), (4, [0, 11, 12, 13]), (5, [0, 6, 11, 12, 13]), (6, []), (7, [0, 6, 11, 12, 13]), (8, [0, 6, 11, 12, 13]), (9, [0, 11, 12, 13]), (10, [])] [(0, [0, 1]), (1, [0, 1]), (2, [0, 11, 12, 13]), (3, [0, 11, 12, 13, 14]), (4, [0, 6, 11, 12, 13]), (5, [0, 6, 11, 12, 13, 20]), (6, [4]), (7, [0, 6, 11, 12, 13]), (8, [0, 11, 12, 13]), (9, [0, 11, 12, 13]), (10, [4]), (1000000, [4])] [] []
@[go_sem] theorem c108_i : c108.li 0 = [0, 1] ∧ c108.li 1 = [0, 1] ∧ c108.li 2 = [0, 1] ∧ c108.li 3 = [0, 11, 12, 13] ∧ c108.li 4 = [0, 11, 12, 13] ∧ c108.li 5 = [0, 6, 11, 12, 13] ∧ c108.li 6 = [] ∧ c108.li 7 = [0, 6, 11, 12, 13] ∧ c108.li 8 = [0, 6, 11, 12, 13] ∧ c108.li 9 = [0, 11, 12, 13] ∧ c108.li 10 = [] := ⟨rfl, rfl, rfl, rfl, rfl, rfl, rfl, rfl, rfl, rfl, rfl⟩
@[go_sem] theorem c108_r0 (v0 v1p : Option Addr) (v1n v1c : Nat) : RP c108 0 [(0, v0), (1, .slice v1p v1n v1c)] K =
 (K [(0, v0), (1, .slice v1p v1n v1c)]) := by kernel_rfl
@[go_sem] theorem c108_r1 (v0 v1p : Option Addr) (v1n v1c : Nat) : RP c108 1 [(0, v0), (1, .slice v1p v1n v1c)] K =
 (cal eN Tryz.prog 68 #[v0, .int .i64 (v1n : Int), .int .i64 1] fun (y1_ : Unit) => (K [(0, v0), (1, .slice v1p v1n v1c)])) := by kernel_rfl
@[go_sem] theorem c108_r2 (v0 v1p : Option Addr) (v1n v1c : Nat) : RP c108 2 [(0, v0), (1, .slice v1p v1n v1c)] K =
 (K [(0, v0), (11, .slice v1p v1n v1c), (12, .int .i64 (v1n : Int)), (13, .int .i64 0)]) := by kernel_rfl
@[go_sem] theorem c108_r3 (v0 v11p : Option Addr) (v11n v11c : Nat) (v12 v13 : Int) : RP c108 3 [(0, v0), (11, .slice v11p v11n v11c), (12, v12), (13, v13)] K =
 (K [(0, v0), (11, .slice v11p v11n v11c), (12, v12), (13, v13), (14, decide (v13 < v12))]) := by kernel_rfl
@[go_sem] theorem c108_r4 (v0 v11p : Option Addr) (v11n v11c : Nat) (v12 v13 : Int) : RP c108 4 [(0, v0), (11, .slice v11p v11n v11c), (12, v12), (13, v13)] K =
 (rq (0 ≤ v13 ∧ v13 < v11n) (nn v11p fun y1_ => (ldn e_api_Image 2 (Addr.add y1_ (v13.toNat * 2)) fun (y2_ : api_Image) => (nwc #[.int .i64 0, str ([] : List UInt8)] 192 fun y3_ => (stl [y2_.Page, str y2_.Text] y3_ 0 (K [(0, v0), (6, y3_), (11, .slice v11p v11n v11c), (12, v12), (13, v13)])))))) := by kernel_rfl
@[go_sem] theorem c108_r5 (v0 : Option Addr) (v6 : Addr) (v11p : Option Addr) (v11n v11c : Nat) (v12 v13 : Int) : RP c108 5 [(0, v0), (6, v6), (11, .slice v11p v11n v11c), (12, v12), (13, v13)] K =
 (ld eS (v6.add 1) fun (y1_ : List UInt8) => (K [(0, v0), (6, v6), (11, .slice v11p v11n v11c), (12, v12), (13, v13), (20, .bool ((y1_.length : Int) != 224))])) := by kernel_rfl
@[go_sem] theorem c108_r6 : RP c108 6 [] K =
 (K [(4, .int .i64 4)]) := by kernel_rfl
@[go_sem] theorem c108_r7 (v0 : Option Addr) (v6 : Addr) (v11p : Option Addr) (v11n v11c : Nat) (v12 v13 : Int) : RP c108 7 [(0, v0), (6, v6), (11, .slice v11p v11n v11c), (12, v12), (13, v13)] K =
 (ld eI v6 fun (y1_ : Int) => (cal eN Tryz.prog 68 #[v0, y1_, .int .i64 2] fun (y2_ : Unit) => (K [(0, v0), (6, v6), (11, .slice v11p v11n v11c), (12, v12), (13, v13)]))) := by kernel_rfl
@[go_sem] theorem c108_r8 (v0 : Option Addr) (v6 : Addr) (v11p : Option Addr) (v11n v11c : Nat) (v12 v13 : Int) : RP c108 8 [(0, v0), (6, v6), (11, .slice v11p v11n v11c), (12, v12), (13, v13)] K =
 (ld eS (v6.add 1) fun (y1_ : List UInt8) => (cal eN Tryz.prog 135 #[v0, str y1_] fun (y2_ : Unit) => (K [(0, v0), (11, .slice v11p v11n v11c), (12, v12), (13, v13)]))) := by kernel_rfl
@[go_sem] theorem c108_r9 (v0 v11p : Option Addr) (v11n v11c : Nat) (v12 v13 : Int) : RP c108 9 [(0, v0), (11, .slice v11p v11n v11c), (12, v12), (13, v13)] K =
 (K [(0, v0), (11, .slice v11p v11n v11c), (12, v12), (13, IntKind.wrap .i64 (v13 + 1))]) := by kernel_rfl
@[go_sem] theorem c108_r10 : RP c108 10 [] K =
 (K [(4, .int .i64 0)]) := by kernel_rfl
@[go_sem] theorem c108_o : c108.lo 1000000 = [4] := rfl
@[go_sem] theorem c108_e (v4 : Int) : RTp c108 [(4, v4)] k = (k (v4)) := by kernel_rfl
theorem c108_ok : (c108.P.follows .mixedOrders && okc c108 c108.body) = true := by kernel_rfl
theorem c108_fn (hρ : envA 0 args.toList = ρ) (hs : Nat.ble args.size 30 = true) (h : E L (D c108 (.seq (.reg 0) (.seq (.reg 1) (.seq (.seq (.reg 2) (.block 0 (.loop (.seq (.reg 3) (.seq (.cond (.tmp 14) (.skip) (.exit 0)) (.seq (.block 1 (.seq (.reg 4) (.seq (.seq (.reg 5) (.cond (.tmp 20) (.seq (.reg 6) (.ret)) (.skip))) (.seq (.reg 7) (.reg 8))))) (.reg 9))))))) (.seq (.reg 10) (.ret))))) (fnQ c108 e G) ρ)) : E L (cal e Tryz.prog 108 args G) :=
  d_fn (c := c108) Tryz.func108 (by kernel_rfl) (by kernel_rfl) (by kernel_rfl) c108_ok (by kernel_rfl) (by kernel_rfl) hρ hs h
noncomputable def c109 := cf Tryz.f109 20 [(0, [0, 1]), (1, [0, 1]), (2, []), (3, [1]), (4, [10, 11, 12]), (5, [10, 11, 12]), (6, [6, 10, 11, 12]), (7, []), (8, [10, 11, 12]), (9, [])] [(0, [0, 1]), (1, [1, 9]), (2, [4]), (3, [10, 11, 12]), (4, [10, 11, 12, 13]), (5, [6, 10, 11, 12]), (6, [10, 11, 12, 18]), (7, [4]), (8, [10, 11, 12]), (9, [4]), (1000000, [4])] [] []
@[go_sem] theorem c109_i : c109.li 0 = [0, 1] ∧ c109.li 1 = [0, 1] ∧ c109.li 2 = [] ∧ c109.li 3 = [1] ∧ c109.li 4 = [10, 11, 12] ∧ c109.li 5 = [10, 11, 12] ∧ c109.li 6 = [6, 10, 11, 12] ∧ c109.li 7 = [] ∧ c109.li 8 = [10, 11, 12] ∧ c109.li 9 = [] := ⟨rfl, rfl, rfl, rfl, rfl, rfl, rfl, rfl, rfl, rfl⟩
@[go_sem] theorem c109_r0 (v0 : List UInt8) (v1p : Option Addr) (v1n v1c : Nat) : RP c109 0 [(0, str v0), (1, .slice v1p v1n v1c)] K =
 (K [(0, str v0), (1, .slice v1p v1n v1c)]) := by kernel_rfl
@[go_sem] theorem c109_r1 (v0 : List UInt8) (v1p : Option Addr) (v1n v1c : Nat) : RP c109 1 [(0, str v0), (1, .slice v1p v1n v1c)] K =
 (K [(1, .slice v1p v1n v1c), (9, decide ((16 : Int) < (v0.length : Int)))]) := by kernel_rfl
@[go_sem] theorem c109_r2 : RP c109 2 [] K =
 (K [(4, .int .i64 17)]) := by kernel_rfl
@[go_sem] theorem c109_r3 (v1p : Option Addr) (v1n v1c : Nat) : RP c109 3 [(1, .slice v1p v1n v1c)] K =
 (K [(10, .slice v1p v1n v1c), (11, .int .i64 (v1n : Int)), (12, .int .i64 0)]) := by kernel_rfl
@[go_sem] theorem c109_r4 (v10p : Option Addr) (v10n v10c : Nat) (v11 v12 : Int) : RP c109 4 [(10, .slice v10p v10n v10c), (11, v11), (12, v12)] K =
 (K [(10, .slice v10p v10n v10c), (11, v11), (12, v12), (13, decide (v12 < v11))]) := by kernel_rfl
@[go_sem] theorem c109_r5 (v10p : Option Addr) (v10n v10c : Nat) (v11 v12 : Int) : RP c109 5 [(10, .slice v10p v10n v10c), (11, v11), (12, v12)] K =
 (rq (0 ≤ v12 ∧ v12 < v10n) (nn v10p fun y1_ => (ld eS (Addr.add y1_ (v12.toNat * 1)) fun (y2_ : List UInt8) => (K [(6, str y2_), (10, .slice v10p v10n v10c), (11, v11), (12, v12)])))) := by kernel_rfl
@[go_sem] theorem c109_r6 (v6 : List UInt8) (v10p : Option Addr) (v10n v10c : Nat) (v11 v12 : Int) : RP c109 6 [(6, str v6), (10, .slice v10p v10n v10c), (11, v11), (12, v12)] K =
 (K [(10, .slice v10p v10n v10c), (11, v11), (12, v12), (18, decide ((32 : Int) < (v6.length : Int)))]) := by kernel_rfl
@[go_sem] theorem c109_r7 : RP c109 7 [] K =
 (K [(4, .int .i64 18)]) := by kernel_rfl
@[go_sem] theorem c109_r8 (v10p : Option Addr) (v10n v10c : Nat) (v11 v12 : Int) : RP c109 8 [(10, .slice v10p v10n v10c), (11, v11), (12, v12)] K =
 (K [(10, .slice v10p v10n v10c), (11, v11), (12, IntKind.wrap .i64 (v12 + 1))]) := by kernel_rfl
@[go_sem] theorem c109_r9 : RP c109 9 [] K =
 (K [(4, .int .i64 0)]) := by kernel_rfl
@[go_sem] theorem c109_o : c109.lo 1000000 = [4] := rfl
@[go_sem] theorem c109_e (v4 : Int) : RTp c109 [(4, v4)] k = (k (v4)) := by kernel_rfl
theorem c109_ok : (c109.P.follows .mixedOrders && okc c109 c109.body) = true := by kernel_rfl
theorem c109_fn (hρ : envA 0 args.toList = ρ) (hs : Nat.ble args.size 20 = true) (h : E L (D c109 (.seq (.reg 0) (.seq (.seq (.reg 1) (.cond (.tmp 9) (.seq (.reg 2) (.ret)) (.skip))) (.seq (.seq (.reg 3) (.block 0 (.loop (.seq (.reg 4) (.seq (.cond (.tmp 13) (.skip) (.exit 0)) (.seq (.block 1 (.seq (.reg 5) (.seq (.reg 6) (.cond (.tmp 18) (.seq (.reg 7) (.ret)) (.skip))))) (.reg 8))))))) (.seq (.reg 9) (.ret))))) (fnQ c109 e G) ρ)) : E L (cal e Tryz.prog 109 args G) :=
  d_fn (c := c109) Tryz.func109 (by kernel_rfl) (by kernel_rfl) (by kernel_rfl) c109_ok (by kernel_rfl) (by kernel_rfl) hρ hs h
noncomputable def c110 := cf Tryz.f110 12 [(0, [0, 1]), (1, [0, 3]), (2, [0, 3])] [(0, [0, 3]), (1, [0, 3]), (2, []), (1000000, [])] [] []
@[go_sem] theorem c110_i : c110.li 0 = [0, 1] ∧ c110.li 1 = [0, 3] ∧ c110.li 2 = [0, 3] := ⟨rfl, rfl, rfl⟩
@[go_sem] theorem c110_r0 (v0 : Option Addr) (v1 : api_Rec) : RP c110 0 [(0, v0), (1, v_api_Rec v1)] K =
 (nwc #[v1.Kind, v1.Txn, v1.Prev, v1.Page, v1.Act, str v1.Key, str v1.Old, str v1.New, v1.Next, .slice v1.Images.1 v1.Images.2.1 v1.Images.2.2, .slice v1.Table.1 v1.Table.2.1 v1.Table.2.2, v1.Epoch, v1.Node] 47 fun y1_ => (K [(0, v0), (3, y1_)])) := by kernel_rfl
@[go_sem] theorem c110_r1 (v0 : Option Addr) (v3 : Addr) : RP c110 1 [(0, v0), (3, v3)] K =
 (ld eI (v3.add 1) fun (y1_ : Int) => (cal eN Tryz.prog 68 #[v0, y1_, .int .i64 6] fun (y2_ : Unit) => (K [(0, v0), (3, v3)]))) := by kernel_rfl
@[go_sem] theorem c110_r2 (v0 : Option Addr) (v3 : Addr) : RP c110 2 [(0, v0), (3, v3)] K =
 (ld eI (v3.add 2) fun (y1_ : Int) => (cal eN Tryz.prog 68 #[v0, y1_, .int .i64 6] fun (y2_ : Unit) => (K []))) := by kernel_rfl
@[go_sem] theorem c110_o : c110.lo 1000000 = [] := rfl
@[go_sem] theorem c110_e : RTp c110 [] k = (k (.tuple #[])) := by kernel_rfl
theorem c110_ok : (c110.P.follows .mixedOrders && okc c110 c110.body) = true := by kernel_rfl
theorem c110_fn (hρ : envA 0 args.toList = ρ) (hs : Nat.ble args.size 12 = true) (h : E L (D c110 (.seq (.reg 0) (.seq (.reg 1) (.reg 2))) (fnQ c110 e G) ρ)) : E L (cal e Tryz.prog 110 args G) :=
  d_fn (c := c110) Tryz.func110 (by kernel_rfl) (by kernel_rfl) (by kernel_rfl) c110_ok (by kernel_rfl) (by kernel_rfl) hρ hs h
noncomputable def c111 := cf Tryz.f111 26 [(0, [0, 1, 2]), (1, [0, 2, 4]), (2, [0, 2, 4]), (3, [0, 2, 4]), (4, [0, 2, 4]), (5, [0, 2, 4]), (6, [0, 4])] [(0, [0, 2, 4]), (1, [0, 2, 4]), (2, [0, 2, 4]), (3, [0, 2, 4, 15]), (4, [0, 2, 4]), (5, [0, 4, 21]), (6, []), (1000000, [])] [] []
@[go_sem] theorem c111_i : c111.li 0 = [0, 1, 2] ∧ c111.li 1 = [0, 2, 4] ∧ c111.li 2 = [0, 2, 4] ∧ c111.li 3 = [0, 2, 4] ∧ c111.li 4 = [0, 2, 4] ∧ c111.li 5 = [0, 2, 4] ∧ c111.li 6 = [0, 4] := ⟨rfl, rfl, rfl, rfl, rfl, rfl, rfl⟩
@[go_sem] theorem c111_r0 (v0 : Option Addr) (v1 : api_Rec) (v2 : Int) : RP c111 0 [(0, v0), (1, v_api_Rec v1), (2, v2)] K =
 (nwc #[v1.Kind, v1.Txn, v1.Prev, v1.Page, v1.Act, str v1.Key, str v1.Old, str v1.New, v1.Next, .slice v1.Images.1 v1.Images.2.1 v1.Images.2.2, .slice v1.Table.1 v1.Table.2.1 v1.Table.2.2, v1.Epoch, v1.Node] 47 fun y1_ => (K [(0, v0), (2, v2), (4, y1_)])) := by kernel_rfl
@[go_sem] theorem c111_r1 (v0 : Option Addr) (v2 : Int) (v4 : Addr) : RP c111 1 [(0, v0), (2, v2), (4, v4)] K =
 (ld eI (v4.add 3) fun (y1_ : Int) => (cal eN Tryz.prog 68 #[v0, y1_, .int .i64 2] fun (y2_ : Unit) => (K [(0, v0), (2, v2), (4, v4)]))) := by kernel_rfl
@[go_sem] theorem c111_r2 (v0 : Option Addr) (v2 : Int) (v4 : Addr) : RP c111 2 [(0, v0), (2, v2), (4, v4)] K =
 (ld eS (v4.add 5) fun (y1_ : List UInt8) => (cal eN Tryz.prog 135 #[v0, str y1_] fun (y2_ : Unit) => (K [(0, v0), (2, v2), (4, v4)]))) := by kernel_rfl
@[go_sem] theorem c111_r3 (v0 : Option Addr) (v2 : Int) (v4 : Addr) : RP c111 3 [(0, v0), (2, v2), (4, v4)] K =
 (K [(0, v0), (2, v2), (4, v4), (15, .bool (v2 != 3))]) := by kernel_rfl
@[go_sem] theorem c111_r4 (v0 : Option Addr) (v2 : Int) (v4 : Addr) : RP c111 4 [(0, v0), (2, v2), (4, v4)] K =
 (ld eS (v4.add 6) fun (y1_ : List UInt8) => (cal eN Tryz.prog 135 #[v0, str y1_] fun (y2_ : Unit) => (K [(0, v0), (2, v2), (4, v4)]))) := by kernel_rfl
@[go_sem] theorem c111_r5 (v0 : Option Addr) (v2 : Int) (v4 : Addr) : RP c111 5 [(0, v0), (2, v2), (4, v4)] K =
 (K [(0, v0), (4, v4), (21, .bool (v2 != 4))]) := by kernel_rfl
@[go_sem] theorem c111_r6 (v0 : Option Addr) (v4 : Addr) : RP c111 6 [(0, v0), (4, v4)] K =
 (ld eS (v4.add 7) fun (y1_ : List UInt8) => (cal eN Tryz.prog 135 #[v0, str y1_] fun (y2_ : Unit) => (K []))) := by kernel_rfl
@[go_sem] theorem c111_o : c111.lo 1000000 = [] := rfl
@[go_sem] theorem c111_e : RTp c111 [] k = (k (.tuple #[])) := by kernel_rfl
theorem c111_ok : (c111.P.follows .mixedOrders && okc c111 c111.body) = true := by kernel_rfl
theorem c111_fn (hρ : envA 0 args.toList = ρ) (hs : Nat.ble args.size 26 = true) (h : E L (D c111 (.seq (.reg 0) (.seq (.reg 1) (.seq (.reg 2) (.seq (.seq (.reg 3) (.cond (.tmp 15) (.reg 4) (.skip))) (.seq (.reg 5) (.cond (.tmp 21) (.reg 6) (.skip))))))) (fnQ c111 e G) ρ)) : E L (cal e Tryz.prog 111 args G) :=
  d_fn (c := c111) Tryz.func111 (by kernel_rfl) (by kernel_rfl) (by kernel_rfl) c111_ok (by kernel_rfl) (by kernel_rfl) hρ hs h
noncomputable def c112 := cf Tryz.f112 15 [(0, [0, 1]), (1, [0, 4]), (2, [0]), (3, [0, 4]), (4, [0])] [(0, [0, 4]), (1, [0, 4, 5]), (2, []), (3, [0, 10]), (4, []), (1000000, [])] [] []
@[go_sem] theorem c112_i : c112.li 0 = [0, 1] ∧ c112.li 1 = [0, 4] ∧ c112.li 2 = [0] ∧ c112.li 3 = [0, 4] ∧ c112.li 4 = [0] := ⟨rfl, rfl, rfl, rfl, rfl⟩
@[go_sem] theorem c112_r0 (v0 : Option Addr) (v1 : Int) : RP c112 0 [(0, v0), (1, v1)] K =
 (K [(0, v0), (4, v1)]) := by kernel_rfl
@[go_sem] theorem c112_r1 (v0 : Option Addr) (v4 : Int) : RP c112 1 [(0, v0), (4, v4)] K =
 (K [(0, v0), (4, v4), (5, .bool (v4 == 3))]) := by kernel_rfl
@[go_sem] theorem c112_r2 (v0 : Option Addr) : RP c112 2 [(0, v0)] K =
 (nn v0 fun y1_ => (st (y1_.add 6) (str ([] : List UInt8)) (K []))) := by kernel_rfl
@[go_sem] theorem c112_r3 (v0 : Option Addr) (v4 : Int) : RP c112 3 [(0, v0), (4, v4)] K =
 (K [(0, v0), (10, .bool (v4 == 4))]) := by kernel_rfl
@[go_sem] theorem c112_r4 (v0 : Option Addr) : RP c112 4 [(0, v0)] K =
 (nn v0 fun y1_ => (st (y1_.add 7) (str ([] : List UInt8)) (K []))) := by kernel_rfl
@[go_sem] theorem c112_o : c112.lo 1000000 = [] := rfl
@[go_sem] theorem c112_e : RTp c112 [] k = (k (.tuple #[])) := by kernel_rfl
theorem c112_ok : (c112.P.follows .mixedOrders && okc c112 c112.body) = true := by kernel_rfl
theorem c112_fn (hρ : envA 0 args.toList = ρ) (hs : Nat.ble args.size 15 = true) (h : E L (D c112 (.seq (.reg 0) (.block 0 (.seq (.reg 1) (.cond (.tmp 5) (.reg 2) (.seq (.reg 3) (.cond (.tmp 10) (.reg 4) (.skip))))))) (fnQ c112 e G) ρ)) : E L (cal e Tryz.prog 112 args G) :=
  d_fn (c := c112) Tryz.func112 (by kernel_rfl) (by kernel_rfl) (by kernel_rfl) c112_ok (by kernel_rfl) (by kernel_rfl) hρ hs h
end Go.Sp
namespace Go.Sp
open Go Go.Proofs
set_option linter.unusedSimpArgs false
set_option linter.unusedVariables false
set_option maxRecDepth 10000
abbrev cImg (x : api_Image) : List Value := [.int .i64 x.Page, str x.Text]
theorem cImg_len (x : api_Image) : (cImg x).length = 2 := rfl
abbrev cAct (x : api_Active) : List Value := [.int .i64 x.Txn, .int .i64 x.Last]
theorem cAct_len (x : api_Active) : (cAct x).length = 2 := rfl
structure Rc where
  kind : Int
  txn : Int
  prev : Int
  page : Int
  act : Int
  key : List UInt8
  old : List UInt8
  nw : List UInt8
  next : Int
  imgs : List api_Image
  tbl : List api_Active
  epoch : Int
  node : Int
def Rc.of (r : api_Rec) (is : List api_Image) (tb : List api_Active) : Rc := ⟨r.Kind, r.Txn, r.Prev, r.Page, r.Act, r.Key, r.Old, r.New, r.Next, is, tb, r.Epoch, r.Node⟩
structure RcAt (A : HP) (r : api_Rec) (c : Rc) : Prop where
  e : c = Rc.of r c.imgs c.tbl
  i : Rs A r.Images 2 (c.imgs.flatMap cImg)
  t : Rs A r.Table 2 (c.tbl.flatMap cAct)
  li : c.imgs.length ≤ 9223372036854775807
  lt : c.tbl.length ≤ 9223372036854775807
def layN (x : Wt) (n : Int) (w : Nat) : Wt := lay1 x (putN x.1 n w)
def layT (x : Wt) (t : List UInt8) : Wt := lay1 x (putT x.1 t)
theorem layN_big {x : Wt} {n : Int} (h : 256 ≤ n) : (layN x n 1).2 ≠ 0 := by
  have e : putN x.1 n 1 = ([], 6) := if_pos (Or.inr (by rw [show ((256 ^ 1 : Nat) : Int) = 256 by decide]; exact h))
  unfold layN lay1
  rw [e]
  by_cases h0 : x.2 ≠ 0
  · rw [if_pos h0]; exact h0
  · rw [if_neg h0, if_pos (by decide)]
    exact (by decide : (6 : Int) ≠ 0)
theorem layN_err {x : Wt} (h : x.2 ≠ 0) (n : Int) (w : Nat) : layN x n w = x := by
  unfold layN lay1
  rw [if_pos h]
theorem layT_err {x : Wt} (h : x.2 ≠ 0) (t : List UInt8) : layT x t = x := by
  unfold layT lay1
  rw [if_pos h]
theorem layN_len (x : Wt) (n : Int) (w : Nat) : (layN x n w).1.length ≤ x.1.length + w := by
  unfold layN lay1 putN
  split
  · omega
  · split
    · simp
    · split
      · simp
      · simp [lowb_len]
theorem layT_len (x : Wt) (t : List UInt8) : (layT x t).1.length ≤ x.1.length + 65540 := by
  unfold layT lay1 putT
  split
  · omega
  · split
    · simp
    · split
      · simp
      · simp [lowb_len]; omega
theorem gN (q : Nat) (x : Wt) (n : Int) (w : Nat) (h1 : 1 ≤ w) (h6 : w ≤ 6) (hs : x.1.length ≤ 2305843009213693952) :
    Fq eN Tryz.prog 68 #[.pointer (some ⟨q, 0, none⟩), .int .i64 n, .int .i64 (w : Int)] [wr q x] [wr q (layN x n w)] () := f95 q x n w h1 h6 hs
theorem gT (q : Nat) (x : Wt) (t : List UInt8) (hs : x.1.length ≤ 2305843009213693952) :
    Fq eN Tryz.prog 135 #[.pointer (some ⟨q, 0, none⟩), str t] [wr q x] [wr q (layT x t)] () := f94 q x t hs
def cutP (key o n : List UInt8) : Int := if 16 < key.length then 17 else if 32 < o.length then 18 else if 32 < n.length then 18 else 0
theorem g105 (key o n : List UInt8) (b : Nat) : Fp eI Tryz.prog 109 #[str key, .slice (some ⟨b, 0, none⟩) 2 2] [ar b 9 [str o, str n]] (cutP key o n) := fun L => by
  refine c109_fn rfl rfl ?_
  unfold cutP
  repeat' (first | (with_reducible first | refine d_seq fun K hK => ?_ | (refine hK _ _ ?_; clear hK K) | (refine SG.p ?_; try intro b)) | refine i_c ?_ ?_ <;> intro hc <;> try simp only [push_cast, seval] at hc | refine i_x ?_ | clear hK K)
  · (with_reducible first | apply i_ret0 | apply i_ret2 | apply i_ret3 | apply i_ret); exact rfl
    rw [if_pos (by omega)]
  · rw [if_neg (by omega)]
    refine d_lp [10, 11, 12] (fun i : Nat => [(10, .slice (some ⟨b, 0, none⟩) 2 2), (11, .int .i64 2), (12, .int .i64 (i : Int))])
      (fun _ => ar b 9 [str o, str n] :: L) (fun i => i ≤ 2 ∧ (1 ≤ i → o.length ≤ 32) ∧ (2 ≤ i → n.length ≤ 32)) (fun i => 2 - i) 0 rfl SX.p ⟨by omega, by omega, by omega⟩ ?_
    rintro i ⟨hi, h1, h2⟩
    by_cases i0 : i = 0
    · subst i0
      repeat' (first | (with_reducible first | refine d_seq fun K hK => ?_ | (refine hK _ _ ?_; clear hK K) | (refine SG.p ?_; try intro b) | refine SP.p ?_) | refine i_c ?_ ?_ <;> intro hc <;> try simp only [push_cast, seval] at hc | refine i_x ?_ | clear hK K)
      all_goals try (exfalso; omega)
      · (with_reducible first | apply i_ret0 | apply i_ret2 | apply i_ret3 | apply i_ret); exact rfl
        rw [if_pos (by omega)]
      · exact i_bk 1 rfl ⟨by omega, by omega, by omega⟩ (by omega)
    · by_cases i1 : i = 1
      · subst i1
        have h1 := h1 (by omega)
        repeat' (first | (with_reducible first | refine d_seq fun K hK => ?_ | (refine hK _ _ ?_; clear hK K) | (refine SG.p ?_; try intro b) | refine SP.p ?_) | refine i_c ?_ ?_ <;> intro hc <;> try simp only [push_cast, seval] at hc | refine i_x ?_ | clear hK K)
        all_goals try (exfalso; omega)
        · (with_reducible first | apply i_ret0 | apply i_ret2 | apply i_ret3 | apply i_ret); exact rfl
          rw [if_neg (by omega), if_pos (by omega)]
        · exact i_bk 2 rfl ⟨by omega, by omega, by omega⟩ (by omega)
      · obtain rfl : i = 2 := by omega
        have h1 := h1 (by omega)
        have h2 := h2 (by omega)
        repeat' (first | (with_reducible first | refine d_seq fun K hK => ?_ | (refine hK _ _ ?_; clear hK K) | (refine SG.p ?_; try intro b) | refine SP.p ?_) | refine i_c ?_ ?_ <;> intro hc <;> try simp only [push_cast, seval] at hc | refine i_x ?_ | clear hK K)
        all_goals try (exfalso; omega)
        (with_reducible first | apply i_ret0 | apply i_ret2 | apply i_ret3 | apply i_ret); exact rfl
        simp only [show ¬ 16 < key.length by omega, show ¬ 32 < o.length by omega, show ¬ 32 < n.length by omega, if_false]
def lnk (x : Wt) (r : api_Rec) : Wt := layN (layN x r.Txn 6) r.Prev 6
theorem g106 (q : Nat) (x : Wt) (r : api_Rec) (hs : x.1.length ≤ 1000000000) : Fq eN Tryz.prog 110 #[.pointer (some ⟨q, 0, none⟩), v_api_Rec r] [wr q x] [wr q (lnk x r)] () := fun L => by
  have h1 := layN_len x r.Txn 6
  unfold lnk
  refine c110_fn rfl rfl ?_
  repeat' (first | (with_reducible first | refine d_seq fun K hK => ?_ | (refine hK _ _ ?_; clear hK K) | (refine SG.p ?_; try intro b)) | refine i_c ?_ ?_ <;> intro hc <;> try simp only [push_cast, seval] at hc | refine i_x ?_ | clear hK K)
  refine i_clq (gN q x r.Txn 6 (by decide) (by decide) (by omega)) ?_
  repeat' (first | (with_reducible first | refine d_seq fun K hK => ?_ | (refine hK _ _ ?_; clear hK K) | (refine SG.p ?_; try intro b)) | refine i_c ?_ ?_ <;> intro hc <;> try simp only [push_cast, seval] at hc | refine i_x ?_ | clear hK K)
  refine i_clq (gN q (layN x r.Txn 6) r.Prev 6 (by decide) (by decide) (by omega)) ?_
  repeat' (first | (with_reducible first | refine d_seq fun K hK => ?_ | (refine hK _ _ ?_; clear hK K) | (refine SG.p ?_; try intro b)) | refine i_c ?_ ?_ <;> intro hc <;> try simp only [push_cast, seval] at hc | refine i_x ?_ | clear hK K)
  (with_reducible first | apply i_ret0 | apply i_ret2 | apply i_ret3 | apply i_ret); exact rfl
def chgO (x : Wt) (r : api_Rec) (act : Int) : Wt := if act = 3 then layT (layN x r.Page 2) r.Key else layT (layT (layN x r.Page 2) r.Key) r.Old
def chg (x : Wt) (r : api_Rec) (act : Int) : Wt := if act = 4 then chgO x r act else layT (chgO x r act) r.New
theorem g107 (q : Nat) (x : Wt) (r : api_Rec) (act : Int) (hs : x.1.length ≤ 1000000000) : Fq eN Tryz.prog 111 #[.pointer (some ⟨q, 0, none⟩), v_api_Rec r, .int .i64 act] [wr q x] [wr q (chg x r act)] () := fun L => by
  have h1 := layN_len x r.Page 2
  have h2 := layT_len (layN x r.Page 2) r.Key
  have h3 := layT_len (layT (layN x r.Page 2) r.Key) r.Old
  unfold chg chgO
  refine c111_fn rfl rfl ?_
  by_cases a3 : act = 3
  · rw [if_pos a3, if_neg (by omega)]
    repeat' (first | (with_reducible first | refine d_seq fun K hK => ?_ | (refine hK _ _ ?_; clear hK K) | (refine SG.p ?_; try intro b)) | refine i_c ?_ ?_ <;> intro hc <;> try simp only [push_cast, seval] at hc | refine i_x ?_ | clear hK K)
    refine i_clq (gN q x r.Page 2 (by decide) (by decide) (by omega)) ?_
    repeat' (first | (with_reducible first | refine d_seq fun K hK => ?_ | (refine hK _ _ ?_; clear hK K) | (refine SG.p ?_; try intro b)) | refine i_c ?_ ?_ <;> intro hc <;> try simp only [push_cast, seval] at hc | refine i_x ?_ | clear hK K)
    refine i_clq (gT q (layN x r.Page 2) r.Key (by omega)) ?_
    repeat' (first | (with_reducible first | refine d_seq fun K hK => ?_ | (refine hK _ _ ?_; clear hK K) | (refine SG.p ?_; try intro b)) | refine i_c ?_ ?_ <;> intro hc <;> try simp only [push_cast, seval] at hc | refine i_x ?_ | clear hK K)
    all_goals try (first | contradiction | (simp only [ reduceCtorEq] at *; done) | (exfalso; omega))
    refine i_clq (gT q (layT (layN x r.Page 2) r.Key) r.New (by omega)) ?_
    repeat' (first | (with_reducible first | refine d_seq fun K hK => ?_ | (refine hK _ _ ?_; clear hK K) | (refine SG.p ?_; try intro b)) | refine i_c ?_ ?_ <;> intro hc <;> try simp only [push_cast, seval] at hc | refine i_x ?_ | clear hK K)
    (with_reducible first | apply i_ret0 | apply i_ret2 | apply i_ret3 | apply i_ret); exact rfl
  · rw [if_neg a3]
    by_cases a4 : act = 4
    · rw [if_pos a4]
      repeat' (first | (with_reducible first | refine d_seq fun K hK => ?_ | (refine hK _ _ ?_; clear hK K) | (refine SG.p ?_; try intro b)) | refine i_c ?_ ?_ <;> intro hc <;> try simp only [push_cast, seval] at hc | refine i_x ?_ | clear hK K)
      refine i_clq (gN q x r.Page 2 (by decide) (by decide) (by omega)) ?_
      repeat' (first | (with_reducible first | refine d_seq fun K hK => ?_ | (refine hK _ _ ?_; clear hK K) | (refine SG.p ?_; try intro b)) | refine i_c ?_ ?_ <;> intro hc <;> try simp only [push_cast, seval] at hc | refine i_x ?_ | clear hK K)
      refine i_clq (gT q (layN x r.Page 2) r.Key (by omega)) ?_
      repeat' (first | (with_reducible first | refine d_seq fun K hK => ?_ | (refine hK _ _ ?_; clear hK K) | (refine SG.p ?_; try intro b)) | refine i_c ?_ ?_ <;> intro hc <;> try simp only [push_cast, seval] at hc | refine i_x ?_ | clear hK K)
      all_goals try (first | contradiction | (simp only [ reduceCtorEq] at *; done) | (exfalso; omega))
      refine i_clq (gT q (layT (layN x r.Page 2) r.Key) r.Old (by omega)) ?_
      repeat' (first | (with_reducible first | refine d_seq fun K hK => ?_ | (refine hK _ _ ?_; clear hK K) | (refine SG.p ?_; try intro b)) | refine i_c ?_ ?_ <;> intro hc <;> try simp only [push_cast, seval] at hc | refine i_x ?_ | clear hK K)
      all_goals try (first | contradiction | (simp only [ reduceCtorEq] at *; done) | (exfalso; omega))
      (with_reducible first | apply i_ret0 | apply i_ret2 | apply i_ret3 | apply i_ret); exact rfl
    · rw [if_neg a4]
      repeat' (first | (with_reducible first | refine d_seq fun K hK => ?_ | (refine hK _ _ ?_; clear hK K) | (refine SG.p ?_; try intro b)) | refine i_c ?_ ?_ <;> intro hc <;> try simp only [push_cast, seval] at hc | refine i_x ?_ | clear hK K)
      refine i_clq (gN q x r.Page 2 (by decide) (by decide) (by omega)) ?_
      repeat' (first | (with_reducible first | refine d_seq fun K hK => ?_ | (refine hK _ _ ?_; clear hK K) | (refine SG.p ?_; try intro b)) | refine i_c ?_ ?_ <;> intro hc <;> try simp only [push_cast, seval] at hc | refine i_x ?_ | clear hK K)
      refine i_clq (gT q (layN x r.Page 2) r.Key (by omega)) ?_
      repeat' (first | (with_reducible first | refine d_seq fun K hK => ?_ | (refine hK _ _ ?_; clear hK K) | (refine SG.p ?_; try intro b)) | refine i_c ?_ ?_ <;> intro hc <;> try simp only [push_cast, seval] at hc | refine i_x ?_ | clear hK K)
      all_goals try (first | contradiction | (simp only [ reduceCtorEq] at *; done) | (exfalso; omega))
      refine i_clq (gT q (layT (layN x r.Page 2) r.Key) r.Old (by omega)) ?_
      repeat' (first | (with_reducible first | refine d_seq fun K hK => ?_ | (refine hK _ _ ?_; clear hK K) | (refine SG.p ?_; try intro b)) | refine i_c ?_ ?_ <;> intro hc <;> try simp only [push_cast, seval] at hc | refine i_x ?_ | clear hK K)
      all_goals try (first | contradiction | (simp only [ reduceCtorEq] at *; done) | (exfalso; omega))
      refine i_clq (gT q (layT (layT (layN x r.Page 2) r.Key) r.Old) r.New (by omega)) ?_
      repeat' (first | (with_reducible first | refine d_seq fun K hK => ?_ | (refine hK _ _ ?_; clear hK K) | (refine SG.p ?_; try intro b)) | refine i_c ?_ ?_ <;> intro hc <;> try simp only [push_cast, seval] at hc | refine i_x ?_ | clear hK K)
      (with_reducible first | apply i_ret0 | apply i_ret2 | apply i_ret3 | apply i_ret); exact rfl
end Go.Sp
namespace Go.Sp
open Go
section
variable {L L' R : List HP} {G : W} {t : TypeId} {sz n c : Nat} {xs cs : List Value}
theorem i_snq {α : Type} {cel : α → List Value} {A : HP} {a : Addr} {n c sz i : Nat} {xs : List α} {x : α} {e : Enc} {R : List HP} {k : e.α → W} {y : e.α} (hR : Rs A (some a, n, c) sz (xs.flatMap cel)) (hc : ∀ x, (cel x).length = sz) (hx : xs[i]? = some x) [ha : AX R A L'] (he : e.enc y = .agg (cel x).toArray) (h : E L (k y)) : E L (ldnq (HW R) e sz (a.add (i * sz)) k) :=
  r_snq hR hc hx ha.p he h
theorem i_sn {α : Type} {cel : α → List Value} {A : HP} {a : Addr} {n c sz i : Nat} {xs : List α} {x : α} {e : Enc} {k : e.α → W} {y : e.α} (hR : Rs A (some a, n, c) sz (xs.flatMap cel)) (hc : ∀ x, (cel x).length = sz) (hx : xs[i]? = some x) [ha : AX L A L'] (he : e.enc y = .agg (cel x).toArray) (h : E L (k y)) : E L (ldn e sz (a.add (i * sz)) k) :=
  r_sn hR hc hx ha.p he h
end
abbrev cS (s : List UInt8) : List Value := [str s]
end Go.Sp
namespace Go.Sp
open Go
section
variable {H : Type} {enc : TypeId × Value → H} {P : Program} {w : World} {base : Nat} {spare : Nat → Bool} {held : Bool}
end
end Go.Sp
namespace Go.Sp
open Go Go.Proofs
set_option linter.unusedSimpArgs false
set_option linter.unusedVariables false
set_option maxRecDepth 10000
def imgo (x : Wt) : List api_Image → Wt × Int
  | [] => (x, 0)
  | m :: l => if m.Text.length = 224 then imgo (layT (layN x m.Page 2) m.Text) l else (x, 4)
def ims (x : Wt) (l : List api_Image) : Wt × Int := imgo (layN x (l.length : Int) 1) l
theorem Rs.len2 {A : HP} {s : SlV} {α : Type} {f : α → List Value} {l : List α} (h : Rs A s 2 (l.flatMap f)) (hf : ∀ x, (f x).length = 2) : s.2.1 = l.length := by
  have h1 := h.1
  have h2 : (l.flatMap f).length = 2 * l.length := by
    clear h h1
    induction l with
    | nil => rfl
    | cons a l ih => rw [List.flatMap_cons, List.length_append, ih, hf, List.length_cons]; omega
  omega
theorem g104 (A : HP) (q : Nat) (x : Wt) (s : SlV) (is : List api_Image) (hR : Rs A s 2 (is.flatMap cImg)) (hl : is.length ≤ 9223372036854775807) (hs : x.1.length ≤ 1000) :
    Fq eI Tryz.prog 108 #[.pointer (some ⟨q, 0, none⟩), .slice s.1 s.2.1 s.2.2] [wr q x, A] [wr q (ims x is).1, A] (ims x is).2 := fun L => by
  have hn := hR.len2 cImg_len
  obtain ⟨p, n, c⟩ := s
  dsimp only at hn
  subst hn
  have h1 := layN_len x (is.length : Int) 1
  unfold ims
  refine c108_fn rfl rfl ?_
  repeat' (first | (with_reducible first | refine d_seq fun K hK => ?_ | (refine hK _ _ ?_; clear hK K) | (refine SG.p ?_; try intro b)) | refine i_c ?_ ?_ <;> intro hc <;> try simp only [push_cast, seval] at hc | refine i_x ?_ | clear hK K)
  refine i_clq (gN q x (is.length : Int) 1 (by decide) (by decide) (by omega)) ?_
  have hbig : 255 < is.length → (layN x (is.length : Int) 1).2 ≠ 0 := fun h => layN_big (by omega)
  generalize layN x (is.length : Int) 1 = x1 at *
  repeat' (first | (with_reducible first | refine d_seq fun K hK => ?_ | (refine hK _ _ ?_; clear hK K) | (refine SG.p ?_; try intro b)) | refine i_c ?_ ?_ <;> intro hc <;> try simp only [push_cast, seval] at hc | refine i_x ?_ | clear hK K)
  refine d_lp [0, 11, 12, 13] (fun t : Nat × Wt => [(0, .pointer (some ⟨q, 0, none⟩)), (11, .slice p is.length c), (12, .int .i64 (is.length : Int)), (13, .int .i64 (t.1 : Int))])
    (fun t => wr q t.2 :: A :: L) (fun t => t.1 ≤ is.length ∧ imgo t.2 (is.drop t.1) = imgo x1 is ∧ ((255 < is.length ∧ t.2 = x1) ∨ (is.length ≤ 255 ∧ t.2.1.length ≤ 2000 + t.1 * 65600))) (fun t => is.length - t.1) (0, x1) rfl SX.p ⟨by dsimp only; omega, rfl, by
      dsimp only
      rcases Nat.lt_or_ge 255 is.length with h | h
      · exact .inl ⟨h, rfl⟩
      · exact .inr ⟨h, by omega⟩⟩ ?_
  rintro ⟨i, y⟩ ⟨hi, hy, hb⟩
  dsimp only at hi hy hb ⊢
  have hb2 : y.1.length ≤ 20000000 := by
    rcases hb with ⟨_, rfl⟩ | ⟨_, h⟩
    · omega
    · have : i ≤ 255 := by omega
      omega
  repeat' (first | (with_reducible first | refine d_seq fun K hK => ?_ | (refine hK _ _ ?_; clear hK K) | (refine SG.p ?_; try intro b)) | refine i_c ?_ ?_ <;> intro hc <;> try simp only [push_cast, seval] at hc | refine i_x ?_ | clear hK K)
  · have hlt : i < is.length := by omega
    obtain ⟨m, hm⟩ : ∃ m, is[i]? = some m := ⟨is[i], by simp [hlt]⟩
    have hd : is.drop i = m :: is.drop (i + 1) := by
      rw [List.drop_eq_getElem_cons hlt]
      rw [List.getElem?_eq_getElem hlt] at hm
      simp only [Option.some.injEq] at hm
      rw [hm]
    rw [hd, show imgo y (m :: is.drop (i + 1)) = if m.Text.length = 224 then imgo (layT (layN y m.Page 2) m.Text) (is.drop (i + 1)) else (y, 4) from rfl] at hy
    have l1 := layN_len y m.Page 2
    have l2 := layT_len (layN y m.Page 2) m.Text
    rcases p with _ | a
    · exact absurd rfl (hR.2.1 (by dsimp only; omega))
    · refine r_nn rfl ?_
      refine i_sn (x := m) (y := m) hR cImg_len hm rfl ?_
      repeat' (first | (with_reducible first | refine d_seq fun K hK => ?_ | (refine hK _ _ ?_; clear hK K) | (refine SG.p ?_; try intro b)) | refine i_c ?_ ?_ <;> intro hc <;> try simp only [push_cast, seval] at hc | refine i_x ?_ | clear hK K)
      · have h2 : ¬ m.Text.length = 224 := by omega
        rw [if_neg h2] at hy
        rw [← hy]
        (with_reducible first | apply i_ret0 | apply i_ret2 | apply i_ret3 | apply i_ret); exact rfl
        rfl
      · have h2 : m.Text.length = 224 := by omega
        rw [if_pos h2] at hy
        refine i_clq (gN q y m.Page 2 (by decide) (by decide) (by omega)) ?_
        repeat' (first | (with_reducible first | refine d_seq fun K hK => ?_ | (refine hK _ _ ?_; clear hK K) | (refine SG.p ?_; try intro b)) | refine i_c ?_ ?_ <;> intro hc <;> try simp only [push_cast, seval] at hc | refine i_x ?_ | clear hK K)
        refine i_clq (gT q (layN y m.Page 2) m.Text (by omega)) ?_
        repeat' (first | (with_reducible first | refine d_seq fun K hK => ?_ | (refine hK _ _ ?_; clear hK K) | (refine SG.p ?_; try intro b)) | refine i_c ?_ ?_ <;> intro hc <;> try simp only [push_cast, seval] at hc | refine i_x ?_ | clear hK K)
        rw [w64 (by omega) (by omega)]
        exact i_bk (i + 1, layT (layN y m.Page 2) m.Text) rfl ⟨by dsimp only; omega, hy, by
          dsimp only
          rcases hb with ⟨h, rfl⟩ | ⟨h, h'⟩
          · exact .inl ⟨h, by rw [layN_err (hbig h), layT_err (hbig h)]⟩
          · exact .inr ⟨h, by omega⟩⟩ (by dsimp only; omega)
  · obtain rfl : i = is.length := by omega
    rw [List.drop_length, show imgo y [] = (y, 0) from rfl] at hy
    rw [← hy]
    (with_reducible first | apply i_ret0 | apply i_ret2 | apply i_ret3 | apply i_ret); exact rfl
    rfl
def tdy (c : Rc) (act : Int) : Rc := if act = 3 then { c with old := [] } else if act = 4 then { c with nw := [] } else c
def Rc.z (k : Int) : Rc := ⟨k, 0, 0, 0, 0, [], [], [], 0, [], [], 0, 0⟩
def Rc.clean (c : Rc) : Rc :=
  if c.kind = 1 ∨ c.kind = 2 then { Rc.z c.kind with imgs := c.imgs }
  else if c.kind = 3 ∨ c.kind = 4 ∨ c.kind = 5 then tdy { Rc.z c.kind with txn := c.txn, prev := c.prev, page := c.page, key := c.key, old := c.old, nw := c.nw } c.kind
  else if c.kind = 6 then tdy { Rc.z c.kind with txn := c.txn, prev := c.prev, next := c.next, act := c.act, page := c.page, key := c.key, old := c.old, nw := c.nw } c.act
  else if c.kind = 7 ∨ c.kind = 8 then { Rc.z c.kind with txn := c.txn, prev := c.prev }
  else if c.kind = 9 then { Rc.z c.kind with tbl := c.tbl }
  else if c.kind = 10 then { Rc.z c.kind with epoch := c.epoch, node := c.node }
  else Rc.z c.kind
abbrev rcl (r : api_Rec) : List Value := [.int .i64 r.Kind, .int .i64 r.Txn, .int .i64 r.Prev, .int .i64 r.Page, .int .i64 r.Act, str r.Key, str r.Old, str r.New, .int .i64 r.Next, .slice r.Images.1 r.Images.2.1 r.Images.2.2, .slice r.Table.1 r.Table.2.1 r.Table.2.2, .int .i64 r.Epoch, .int .i64 r.Node]
def tdr (r : api_Rec) (act : Int) : api_Rec := if act = 3 then { r with Old := [] } else if act = 4 then { r with New := [] } else r
theorem g109 (b : Nat) (r : api_Rec) (act : Int) : Fq eN Tryz.prog 112 #[.pointer (some ⟨b, 0, none⟩), .int .i64 act] [ar b 47 (rcl r)] [ar b 47 (rcl (tdr r act))] () := fun L => by
  unfold tdr
  refine c112_fn rfl rfl ?_
  by_cases a3 : act = 3
  · rw [if_pos a3]
    repeat' (first | (with_reducible first | refine d_seq fun K hK => ?_ | (refine hK _ _ ?_; clear hK K) | (refine SG.p ?_; try intro b) | refine SP.p ?_) | refine i_c ?_ ?_ <;> intro hc <;> try simp only [push_cast, seval] at hc | refine i_x ?_ | clear hK K)
    all_goals try (first | contradiction | (simp only [ reduceCtorEq] at *; done) | (exfalso; omega))
    (with_reducible first | apply i_ret0 | apply i_ret2 | apply i_ret3 | apply i_ret); exact rfl
  · rw [if_neg a3]
    by_cases a4 : act = 4
    · rw [if_pos a4]
      repeat' (first | (with_reducible first | refine d_seq fun K hK => ?_ | (refine hK _ _ ?_; clear hK K) | (refine SG.p ?_; try intro b) | refine SP.p ?_) | refine i_c ?_ ?_ <;> intro hc <;> try simp only [push_cast, seval] at hc | refine i_x ?_ | clear hK K)
      all_goals try (first | contradiction | (simp only [ reduceCtorEq] at *; done) | (exfalso; omega))
      (with_reducible first | apply i_ret0 | apply i_ret2 | apply i_ret3 | apply i_ret); exact rfl
    · rw [if_neg a4]
      repeat' (first | (with_reducible first | refine d_seq fun K hK => ?_ | (refine hK _ _ ?_; clear hK K) | (refine SG.p ?_; try intro b) | refine SP.p ?_) | refine i_c ?_ ?_ <;> intro hc <;> try simp only [push_cast, seval] at hc | refine i_x ?_ | clear hK K)
      all_goals try (first | contradiction | (simp only [ reduceCtorEq] at *; done) | (exfalso; omega))
      (with_reducible first | apply i_ret0 | apply i_ret2 | apply i_ret3 | apply i_ret); exact rfl
def rz (k : Int) : api_Rec := ⟨k, 0, 0, 0, 0, [], [], [], 0, (none, 0, 0), (none, 0, 0), 0, 0⟩
def clr (r : api_Rec) : api_Rec :=
  if r.Kind = 1 ∨ r.Kind = 2 then { rz r.Kind with Images := r.Images }
  else if r.Kind = 3 ∨ r.Kind = 4 ∨ r.Kind = 5 then tdr { rz r.Kind with Txn := r.Txn, Prev := r.Prev, Page := r.Page, Key := r.Key, Old := r.Old, New := r.New } r.Kind
  else if r.Kind = 6 then tdr { rz r.Kind with Txn := r.Txn, Prev := r.Prev, Next := r.Next, Act := r.Act, Page := r.Page, Key := r.Key, Old := r.Old, New := r.New } r.Act
  else if r.Kind = 7 ∨ r.Kind = 8 then { rz r.Kind with Txn := r.Txn, Prev := r.Prev }
  else if r.Kind = 9 then { rz r.Kind with Table := r.Table }
  else if r.Kind = 10 then { rz r.Kind with Epoch := r.Epoch, Node := r.Node }
  else rz r.Kind
theorem Rs_nil {A : HP} {sz : Nat} : Rs A (none, 0, 0) sz [] := ⟨by simp, by simp, fun a h => by cases h⟩
theorem RcAt.tdr {A : HP} {r : api_Rec} {c : Rc} (h : RcAt A r c) (act : Int) : RcAt A (tdr r act) (tdy c act) := by
  obtain ⟨e, i, t, li, lt⟩ := h
  unfold Sp.tdr tdy
  split
  · exact ⟨by rw [e]; rfl, i, t, li, lt⟩
  · split
    · exact ⟨by rw [e]; rfl, i, t, li, lt⟩
    · exact ⟨e, i, t, li, lt⟩
theorem RcAt.clr {A : HP} {r : api_Rec} {c : Rc} (h : RcAt A r c) : RcAt A (clr r) c.clean := by
  obtain ⟨e, i, t, li, lt⟩ := h
  obtain ⟨kind, txn, prev, page, act, key, old, nw, next, imgs, tbl, epoch, node⟩ := c
  simp only [Rc.of, Rc.mk.injEq] at e
  obtain ⟨rfl, rfl, rfl, rfl, rfl, rfl, rfl, rfl, rfl, _, _, rfl, rfl⟩ := e
  dsimp only at i t li lt
  unfold Sp.clr Rc.clean
  dsimp only
  repeat' split
  · exact ⟨rfl, i, Rs_nil, li, by simp [Rc.z]⟩
  · exact RcAt.tdr ⟨rfl, Rs_nil, Rs_nil, by simp [Rc.z], by simp [Rc.z]⟩ _
  · exact RcAt.tdr ⟨rfl, Rs_nil, Rs_nil, by simp [Rc.z], by simp [Rc.z]⟩ _
  · exact ⟨rfl, Rs_nil, Rs_nil, by simp [Rc.z], by simp [Rc.z]⟩
  · exact ⟨rfl, Rs_nil, t, by simp [Rc.z], lt⟩
  · exact ⟨rfl, Rs_nil, Rs_nil, by simp [Rc.z], by simp [Rc.z]⟩
  · exact ⟨rfl, Rs_nil, Rs_nil, by simp [Rc.z], by simp [Rc.z]⟩
set_option maxHeartbeats 2000000 in
theorem g72 (r : api_Rec) : Fp e_api_Rec Tryz.prog 86 #[v_api_Rec r] [] (clr r) := fun L => by
  obtain ⟨kind, txn, prev, page, act, key, old, nw, next, im, tb, epoch, node⟩ := r
  unfold clr
  dsimp only
  refine c86_fn rfl rfl ?_
  refine d_seq ?_
  intro K0 hK0
  refine d_reg ?_
  simp only [go_sem]
  refine r_nwc ?_
  intro b1
  refine r_nwc ?_
  intro b2
  refine hK0 _ _ ?_
  clear hK0 K0
  by_cases h1 : kind = 1
  · subst h1
    rw [if_pos (.inl rfl)]
    repeat' (first | (with_reducible first | refine d_seq fun K hK => ?_ | (refine hK _ _ ?_; clear hK K) | (refine SG.p ?_; try intro b)) | refine i_c ?_ ?_ <;> intro hc <;> try simp only [push_cast, seval] at hc | refine i_x ?_ | clear hK K)
    (refine i_ldn (e := e_api_Rec) (x := ⟨1, 0, 0, 0, 0, [], [], [], 0, im, (none, 0, 0), 0, 0⟩) rfl rfl rfl ?_); repeat' (first | (with_reducible first | refine d_seq fun K hK => ?_ | (refine hK _ _ ?_; clear hK K) | (refine SG.p ?_; try intro b)) | refine i_c ?_ ?_ <;> intro hc <;> try simp only [push_cast, seval] at hc | refine i_x ?_ | clear hK K)
    (refine i_ldn (e := e_api_Rec) (x := ⟨1, 0, 0, 0, 0, [], [], [], 0, im, (none, 0, 0), 0, 0⟩) rfl rfl rfl ?_); ((with_reducible first | apply i_ret0 | apply i_ret2 | apply i_ret3 | apply i_ret); exact rfl); rfl
  by_cases h2 : kind = 2
  · subst h2
    rw [if_pos (.inr rfl)]
    repeat' (first | (with_reducible first | refine d_seq fun K hK => ?_ | (refine hK _ _ ?_; clear hK K) | (refine SG.p ?_; try intro b)) | refine i_c ?_ ?_ <;> intro hc <;> try simp only [push_cast, seval] at hc | refine i_x ?_ | clear hK K)
    (refine i_ldn (e := e_api_Rec) (x := ⟨2, 0, 0, 0, 0, [], [], [], 0, im, (none, 0, 0), 0, 0⟩) rfl rfl rfl ?_); repeat' (first | (with_reducible first | refine d_seq fun K hK => ?_ | (refine hK _ _ ?_; clear hK K) | (refine SG.p ?_; try intro b)) | refine i_c ?_ ?_ <;> intro hc <;> try simp only [push_cast, seval] at hc | refine i_x ?_ | clear hK K)
    (refine i_ldn (e := e_api_Rec) (x := ⟨2, 0, 0, 0, 0, [], [], [], 0, im, (none, 0, 0), 0, 0⟩) rfl rfl rfl ?_); ((with_reducible first | apply i_ret0 | apply i_ret2 | apply i_ret3 | apply i_ret); exact rfl); rfl
  rw [if_neg (by omega)]
  by_cases h3 : kind = 3
  · subst h3
    rw [if_pos (.inl rfl)]
    repeat' (first | (with_reducible first | refine d_seq fun K hK => ?_ | (refine hK _ _ ?_; clear hK K) | (refine SG.p ?_; try intro b)) | refine i_c ?_ ?_ <;> intro hc <;> try simp only [push_cast, seval] at hc | refine i_x ?_ | clear hK K)
    (refine r_ph [ar b1 47 (rcl ⟨3, txn, prev, page, act, key, old, nw, next, im, tb, epoch, node⟩)] SX.p ?_); repeat' (first | (with_reducible first | refine d_seq fun K hK => ?_ | (refine hK _ _ ?_; clear hK K) | (refine SG.p ?_; try intro b)) | refine i_c ?_ ?_ <;> intro hc <;> try simp only [push_cast, seval] at hc | refine i_x ?_ | clear hK K)
    have T : Fq eN Tryz.prog 112 #[.pointer (some ⟨b, 0, none⟩), .int .i64 3] [ar b 47 [.int .i64 3, .int .i64 txn, .int .i64 prev, .int .i64 page, .int .i64 0, str key, str old, str nw, .int .i64 0, .slice none 0 0, .slice none 0 0, .int .i64 0, .int .i64 0]] [ar b 47 [.int .i64 3, .int .i64 txn, .int .i64 prev, .int .i64 page, .int .i64 0, str key, str [], str nw, .int .i64 0, .slice none 0 0, .slice none 0 0, .int .i64 0, .int .i64 0]] () := g109 b ⟨3, txn, prev, page, 0, key, old, nw, 0, (none, 0, 0), (none, 0, 0), 0, 0⟩ 3
    refine i_clq T ?_
    repeat' (first | (with_reducible first | refine d_seq fun K hK => ?_ | (refine hK _ _ ?_; clear hK K) | (refine SG.p ?_; try intro b)) | refine i_c ?_ ?_ <;> intro hc <;> try simp only [push_cast, seval] at hc | refine i_x ?_ | clear hK K)
    (refine i_ldn (e := e_api_Rec) (x := ⟨3, txn, prev, page, 0, key, [], nw, 0, (none, 0, 0), (none, 0, 0), 0, 0⟩) rfl rfl rfl ?_); repeat' (first | (with_reducible first | refine d_seq fun K hK => ?_ | (refine hK _ _ ?_; clear hK K) | (refine SG.p ?_; try intro b)) | refine i_c ?_ ?_ <;> intro hc <;> try simp only [push_cast, seval] at hc | refine i_x ?_ | clear hK K)
    (refine i_ldn (e := e_api_Rec) (x := ⟨3, txn, prev, page, 0, key, [], nw, 0, (none, 0, 0), (none, 0, 0), 0, 0⟩) rfl rfl rfl ?_); ((with_reducible first | apply i_ret0 | apply i_ret2 | apply i_ret3 | apply i_ret); exact rfl); rfl
  by_cases h4 : kind = 4
  · subst h4
    rw [if_pos (.inr (.inl rfl))]
    repeat' (first | (with_reducible first | refine d_seq fun K hK => ?_ | (refine hK _ _ ?_; clear hK K) | (refine SG.p ?_; try intro b)) | refine i_c ?_ ?_ <;> intro hc <;> try simp only [push_cast, seval] at hc | refine i_x ?_ | clear hK K)
    (refine r_ph [ar b1 47 (rcl ⟨4, txn, prev, page, act, key, old, nw, next, im, tb, epoch, node⟩)] SX.p ?_); repeat' (first | (with_reducible first | refine d_seq fun K hK => ?_ | (refine hK _ _ ?_; clear hK K) | (refine SG.p ?_; try intro b)) | refine i_c ?_ ?_ <;> intro hc <;> try simp only [push_cast, seval] at hc | refine i_x ?_ | clear hK K)
    have T : Fq eN Tryz.prog 112 #[.pointer (some ⟨b, 0, none⟩), .int .i64 4] [ar b 47 [.int .i64 4, .int .i64 txn, .int .i64 prev, .int .i64 page, .int .i64 0, str key, str old, str nw, .int .i64 0, .slice none 0 0, .slice none 0 0, .int .i64 0, .int .i64 0]] [ar b 47 [.int .i64 4, .int .i64 txn, .int .i64 prev, .int .i64 page, .int .i64 0, str key, str old, str [], .int .i64 0, .slice none 0 0, .slice none 0 0, .int .i64 0, .int .i64 0]] () := g109 b ⟨4, txn, prev, page, 0, key, old, nw, 0, (none, 0, 0), (none, 0, 0), 0, 0⟩ 4
    refine i_clq T ?_
    repeat' (first | (with_reducible first | refine d_seq fun K hK => ?_ | (refine hK _ _ ?_; clear hK K) | (refine SG.p ?_; try intro b)) | refine i_c ?_ ?_ <;> intro hc <;> try simp only [push_cast, seval] at hc | refine i_x ?_ | clear hK K)
    (refine i_ldn (e := e_api_Rec) (x := ⟨4, txn, prev, page, 0, key, old, [], 0, (none, 0, 0), (none, 0, 0), 0, 0⟩) rfl rfl rfl ?_); repeat' (first | (with_reducible first | refine d_seq fun K hK => ?_ | (refine hK _ _ ?_; clear hK K) | (refine SG.p ?_; try intro b)) | refine i_c ?_ ?_ <;> intro hc <;> try simp only [push_cast, seval] at hc | refine i_x ?_ | clear hK K)
    (refine i_ldn (e := e_api_Rec) (x := ⟨4, txn, prev, page, 0, key, old, [], 0, (none, 0, 0), (none, 0, 0), 0, 0⟩) rfl rfl rfl ?_); ((with_reducible first | apply i_ret0 | apply i_ret2 | apply i_ret3 | apply i_ret); exact rfl); rfl
  by_cases h5 : kind = 5
  · subst h5
    rw [if_pos (.inr (.inr rfl))]
    repeat' (first | (with_reducible first | refine d_seq fun K hK => ?_ | (refine hK _ _ ?_; clear hK K) | (refine SG.p ?_; try intro b)) | refine i_c ?_ ?_ <;> intro hc <;> try simp only [push_cast, seval] at hc | refine i_x ?_ | clear hK K)
    (refine r_ph [ar b1 47 (rcl ⟨5, txn, prev, page, act, key, old, nw, next, im, tb, epoch, node⟩)] SX.p ?_); repeat' (first | (with_reducible first | refine d_seq fun K hK => ?_ | (refine hK _ _ ?_; clear hK K) | (refine SG.p ?_; try intro b)) | refine i_c ?_ ?_ <;> intro hc <;> try simp only [push_cast, seval] at hc | refine i_x ?_ | clear hK K)
    have T : Fq eN Tryz.prog 112 #[.pointer (some ⟨b, 0, none⟩), .int .i64 5] [ar b 47 [.int .i64 5, .int .i64 txn, .int .i64 prev, .int .i64 page, .int .i64 0, str key, str old, str nw, .int .i64 0, .slice none 0 0, .slice none 0 0, .int .i64 0, .int .i64 0]] [ar b 47 [.int .i64 5, .int .i64 txn, .int .i64 prev, .int .i64 page, .int .i64 0, str key, str old, str nw, .int .i64 0, .slice none 0 0, .slice none 0 0, .int .i64 0, .int .i64 0]] () := g109 b ⟨5, txn, prev, page, 0, key, old, nw, 0, (none, 0, 0), (none, 0, 0), 0, 0⟩ 5
    refine i_clq T ?_
    repeat' (first | (with_reducible first | refine d_seq fun K hK => ?_ | (refine hK _ _ ?_; clear hK K) | (refine SG.p ?_; try intro b)) | refine i_c ?_ ?_ <;> intro hc <;> try simp only [push_cast, seval] at hc | refine i_x ?_ | clear hK K)
    (refine i_ldn (e := e_api_Rec) (x := ⟨5, txn, prev, page, 0, key, old, nw, 0, (none, 0, 0), (none, 0, 0), 0, 0⟩) rfl rfl rfl ?_); repeat' (first | (with_reducible first | refine d_seq fun K hK => ?_ | (refine hK _ _ ?_; clear hK K) | (refine SG.p ?_; try intro b)) | refine i_c ?_ ?_ <;> intro hc <;> try simp only [push_cast, seval] at hc | refine i_x ?_ | clear hK K)
    (refine i_ldn (e := e_api_Rec) (x := ⟨5, txn, prev, page, 0, key, old, nw, 0, (none, 0, 0), (none, 0, 0), 0, 0⟩) rfl rfl rfl ?_); ((with_reducible first | apply i_ret0 | apply i_ret2 | apply i_ret3 | apply i_ret); exact rfl); rfl
  rw [if_neg (by omega)]
  by_cases h6 : kind = 6
  · subst h6
    rw [if_pos rfl]
    repeat' (first | (with_reducible first | refine d_seq fun K hK => ?_ | (refine hK _ _ ?_; clear hK K) | (refine SG.p ?_; try intro b)) | refine i_c ?_ ?_ <;> intro hc <;> try simp only [push_cast, seval] at hc | refine i_x ?_ | clear hK K)
    (refine r_ph [ar b1 47 (rcl ⟨6, txn, prev, page, act, key, old, nw, next, im, tb, epoch, node⟩)] SX.p ?_); repeat' (first | (with_reducible first | refine d_seq fun K hK => ?_ | (refine hK _ _ ?_; clear hK K) | (refine SG.p ?_; try intro b)) | refine i_c ?_ ?_ <;> intro hc <;> try simp only [push_cast, seval] at hc | refine i_x ?_ | clear hK K)
    have T := g109 b ⟨6, txn, prev, page, act, key, old, nw, next, (none, 0, 0), (none, 0, 0), 0, 0⟩ act
    rw [show (⟨(rz 6).Kind, txn, prev, page, act, key, old, nw, next, (rz 6).Images, (rz 6).Table, (rz 6).Epoch, (rz 6).Node⟩ : api_Rec) = ⟨6, txn, prev, page, act, key, old, nw, next, (none, 0, 0), (none, 0, 0), 0, 0⟩ from rfl] at *
    generalize tdr ⟨6, txn, prev, page, act, key, old, nw, next, (none, 0, 0), (none, 0, 0), 0, 0⟩ act = y at *
    obtain ⟨y1, y2, y3, y4, y5, y6, y7, y8, y9, y10, y11, y12, y13⟩ := y
    refine i_clq T ?_
    repeat' (first | (with_reducible first | refine d_seq fun K hK => ?_ | (refine hK _ _ ?_; clear hK K) | (refine SG.p ?_; try intro b)) | refine i_c ?_ ?_ <;> intro hc <;> try simp only [push_cast, seval] at hc | refine i_x ?_ | clear hK K)
    with_reducible apply i_ldn (e := e_api_Rec) (n := 13) (x := ⟨y1, y2, y3, y4, y5, y6, y7, y8, y9, y10, y11, y12, y13⟩)
    · exact rfl
    · exact rfl
    · exact rfl
    (with_reducible first | apply i_ret0 | apply i_ret2 | apply i_ret3 | apply i_ret); exact rfl
    rfl
  rw [if_neg h6]
  by_cases h7 : kind = 7
  · subst h7
    rw [if_pos (.inl rfl)]
    repeat' (first | (with_reducible first | refine d_seq fun K hK => ?_ | (refine hK _ _ ?_; clear hK K) | (refine SG.p ?_; try intro b)) | refine i_c ?_ ?_ <;> intro hc <;> try simp only [push_cast, seval] at hc | refine i_x ?_ | clear hK K)
    (refine r_ph [ar b1 47 (rcl ⟨7, txn, prev, page, act, key, old, nw, next, im, tb, epoch, node⟩)] SX.p ?_); repeat' (first | (with_reducible first | refine d_seq fun K hK => ?_ | (refine hK _ _ ?_; clear hK K) | (refine SG.p ?_; try intro b)) | refine i_c ?_ ?_ <;> intro hc <;> try simp only [push_cast, seval] at hc | refine i_x ?_ | clear hK K)
    (refine i_ldn (e := e_api_Rec) (x := ⟨7, txn, prev, 0, 0, [], [], [], 0, (none, 0, 0), (none, 0, 0), 0, 0⟩) rfl rfl rfl ?_); repeat' (first | (with_reducible first | refine d_seq fun K hK => ?_ | (refine hK _ _ ?_; clear hK K) | (refine SG.p ?_; try intro b)) | refine i_c ?_ ?_ <;> intro hc <;> try simp only [push_cast, seval] at hc | refine i_x ?_ | clear hK K)
    (refine i_ldn (e := e_api_Rec) (x := ⟨7, txn, prev, 0, 0, [], [], [], 0, (none, 0, 0), (none, 0, 0), 0, 0⟩) rfl rfl rfl ?_); ((with_reducible first | apply i_ret0 | apply i_ret2 | apply i_ret3 | apply i_ret); exact rfl); rfl
  by_cases h8 : kind = 8
  · subst h8
    rw [if_pos (.inr rfl)]
    repeat' (first | (with_reducible first | refine d_seq fun K hK => ?_ | (refine hK _ _ ?_; clear hK K) | (refine SG.p ?_; try intro b)) | refine i_c ?_ ?_ <;> intro hc <;> try simp only [push_cast, seval] at hc | refine i_x ?_ | clear hK K)
    (refine r_ph [ar b1 47 (rcl ⟨8, txn, prev, page, act, key, old, nw, next, im, tb, epoch, node⟩)] SX.p ?_); repeat' (first | (with_reducible first | refine d_seq fun K hK => ?_ | (refine hK _ _ ?_; clear hK K) | (refine SG.p ?_; try intro b)) | refine i_c ?_ ?_ <;> intro hc <;> try simp only [push_cast, seval] at hc | refine i_x ?_ | clear hK K)
    (refine i_ldn (e := e_api_Rec) (x := ⟨8, txn, prev, 0, 0, [], [], [], 0, (none, 0, 0), (none, 0, 0), 0, 0⟩) rfl rfl rfl ?_); repeat' (first | (with_reducible first | refine d_seq fun K hK => ?_ | (refine hK _ _ ?_; clear hK K) | (refine SG.p ?_; try intro b)) | refine i_c ?_ ?_ <;> intro hc <;> try simp only [push_cast, seval] at hc | refine i_x ?_ | clear hK K)
    (refine i_ldn (e := e_api_Rec) (x := ⟨8, txn, prev, 0, 0, [], [], [], 0, (none, 0, 0), (none, 0, 0), 0, 0⟩) rfl rfl rfl ?_); ((with_reducible first | apply i_ret0 | apply i_ret2 | apply i_ret3 | apply i_ret); exact rfl); rfl
  rw [if_neg (by omega)]
  by_cases h9 : kind = 9
  · subst h9
    rw [if_pos rfl]
    repeat' (first | (with_reducible first | refine d_seq fun K hK => ?_ | (refine hK _ _ ?_; clear hK K) | (refine SG.p ?_; try intro b)) | refine i_c ?_ ?_ <;> intro hc <;> try simp only [push_cast, seval] at hc | refine i_x ?_ | clear hK K)
    (refine i_ldn (e := e_api_Rec) (x := ⟨9, 0, 0, 0, 0, [], [], [], 0, (none, 0, 0), tb, 0, 0⟩) rfl rfl rfl ?_); repeat' (first | (with_reducible first | refine d_seq fun K hK => ?_ | (refine hK _ _ ?_; clear hK K) | (refine SG.p ?_; try intro b)) | refine i_c ?_ ?_ <;> intro hc <;> try simp only [push_cast, seval] at hc | refine i_x ?_ | clear hK K)
    (refine i_ldn (e := e_api_Rec) (x := ⟨9, 0, 0, 0, 0, [], [], [], 0, (none, 0, 0), tb, 0, 0⟩) rfl rfl rfl ?_); ((with_reducible first | apply i_ret0 | apply i_ret2 | apply i_ret3 | apply i_ret); exact rfl); rfl
  rw [if_neg h9]
  by_cases h10 : kind = 10
  · subst h10
    rw [if_pos rfl]
    repeat' (first | (with_reducible first | refine d_seq fun K hK => ?_ | (refine hK _ _ ?_; clear hK K) | (refine SG.p ?_; try intro b)) | refine i_c ?_ ?_ <;> intro hc <;> try simp only [push_cast, seval] at hc | refine i_x ?_ | clear hK K)
    (refine r_ph [ar b1 47 (rcl ⟨10, txn, prev, page, act, key, old, nw, next, im, tb, epoch, node⟩)] SX.p ?_); repeat' (first | (with_reducible first | refine d_seq fun K hK => ?_ | (refine hK _ _ ?_; clear hK K) | (refine SG.p ?_; try intro b)) | refine i_c ?_ ?_ <;> intro hc <;> try simp only [push_cast, seval] at hc | refine i_x ?_ | clear hK K)
    (refine i_ldn (e := e_api_Rec) (x := ⟨10, 0, 0, 0, 0, [], [], [], 0, (none, 0, 0), (none, 0, 0), epoch, node⟩) rfl rfl rfl ?_); repeat' (first | (with_reducible first | refine d_seq fun K hK => ?_ | (refine hK _ _ ?_; clear hK K) | (refine SG.p ?_; try intro b)) | refine i_c ?_ ?_ <;> intro hc <;> try simp only [push_cast, seval] at hc | refine i_x ?_ | clear hK K)
    (refine i_ldn (e := e_api_Rec) (x := ⟨10, 0, 0, 0, 0, [], [], [], 0, (none, 0, 0), (none, 0, 0), epoch, node⟩) rfl rfl rfl ?_); ((with_reducible first | apply i_ret0 | apply i_ret2 | apply i_ret3 | apply i_ret); exact rfl); rfl
  rw [if_neg h10]
  repeat' (first | (with_reducible first | refine d_seq fun K hK => ?_ | (refine hK _ _ ?_; clear hK K) | (refine SG.p ?_; try intro b)) | refine i_c ?_ ?_ <;> intro hc <;> try simp only [push_cast, seval] at hc | refine i_x ?_ | clear hK K)
  all_goals try (first | contradiction | (simp only [ reduceCtorEq] at *; done) | (exfalso; omega))
  (refine i_ldn (e := e_api_Rec) (x := ⟨kind, 0, 0, 0, 0, [], [], [], 0, (none, 0, 0), (none, 0, 0), 0, 0⟩) rfl rfl rfl ?_); repeat' (first | (with_reducible first | refine d_seq fun K hK => ?_ | (refine hK _ _ ?_; clear hK K) | (refine SG.p ?_; try intro b)) | refine i_c ?_ ?_ <;> intro hc <;> try simp only [push_cast, seval] at hc | refine i_x ?_ | clear hK K)
  (refine i_ldn (e := e_api_Rec) (x := ⟨kind, 0, 0, 0, 0, [], [], [], 0, (none, 0, 0), (none, 0, 0), 0, 0⟩) rfl rfl rfl ?_); ((with_reducible first | apply i_ret0 | apply i_ret2 | apply i_ret3 | apply i_ret); exact rfl); rfl
def lnkc (x : Wt) (c : Rc) : Wt := layN (layN x c.txn 6) c.prev 6
def chgc0 (x : Wt) (c : Rc) (act : Int) : Wt := if act = 3 then layT (layN x c.page 2) c.key else layT (layT (layN x c.page 2) c.key) c.old
def chgc (x : Wt) (c : Rc) (act : Int) : Wt := if act = 4 then chgc0 x c act else layT (chgc0 x c act) c.nw
def tbg (x : Wt) (l : List api_Active) : Wt := l.foldl (fun x a => layN (layN x a.Txn 6) a.Last 6) x
def bfin (x : Wt) (e : Int) : Wt := if (if e = 0 then x.2 else e) = 0 then (if 4096 < x.1.length then ([], 3) else (x.1, 0)) else ([], if e = 0 then x.2 else e)
def Rc.body (c : Rc) : Wt :=
  if c.kind = 1 then (if c.imgs.length = 1 then bfin (ims (layN ([], 0) c.kind 1) c.imgs).1 (ims (layN ([], 0) c.kind 1) c.imgs).2 else ([], 4))
  else if c.kind = 2 then bfin (ims (layN ([], 0) c.kind 1) c.imgs).1 (ims (layN ([], 0) c.kind 1) c.imgs).2
  else if c.kind = 6 then (if c.act < 3 ∨ 5 < c.act then ([], 4) else bfin (chgc (layN (layN (lnkc (layN ([], 0) c.kind 1) c) c.next 6) c.act 1) c c.act) (cutP c.key c.old c.nw))
  else if c.kind = 3 ∨ c.kind = 4 ∨ c.kind = 5 then bfin (chgc (lnkc (layN ([], 0) c.kind 1) c) c c.kind) (cutP c.key c.old c.nw)
  else if c.kind = 7 ∨ c.kind = 8 then bfin (lnkc (layN ([], 0) c.kind 1) c) 0
  else if c.kind = 9 then bfin (tbg (layN (layN ([], 0) c.kind 1) (c.tbl.length : Int) 1) c.tbl) 0
  else if c.kind = 10 then bfin (layN (layN (layN ([], 0) c.kind 1) c.epoch 4) c.node 1) 0
  else ([], 1)
set_option maxHeartbeats 4000000 in
theorem g71 (A : HP) (r : api_Rec) (c : Rc) (h : RcAt A r c) : Fp (eT2 eS eI) Tryz.prog 85 #[v_api_Rec r] [A] c.body := fun L => by
  obtain ⟨e, hi, ht, li, lt⟩ := h
  obtain ⟨kind, txn, prev, page, act, key, old, nw, next, imgs, tbl, epoch, node⟩ := c
  obtain ⟨kind', txn', prev', page', act', key', old', nw', next', im, tb, epoch', node'⟩ := r
  simp only [Rc.of, Rc.mk.injEq] at e
  obtain ⟨rfl, rfl, rfl, rfl, rfl, rfl, rfl, rfl, rfl, _, _, rfl, rfl⟩ := e
  dsimp only at hi ht li lt
  have hin := hi.len2 cImg_len
  have htn := ht.len2 cAct_len
  obtain ⟨ip, iN, ic⟩ := im
  obtain ⟨tp, tN, tc⟩ := tb
  dsimp only at hin htn
  subst hin htn
  generalize hB : Rc.body _ = B
  unfold Rc.body at hB
  dsimp only at hB
  obtain ⟨rr, hrr⟩ : ∃ rr : api_Rec, rr = ⟨kind, txn, prev, page, act, key, old, nw, next, (ip, imgs.length, ic), (tp, tbl.length, tc), epoch, node⟩ := ⟨_, rfl⟩
  refine c85_fn rfl rfl ?_
  have K1 := layN_len ([], 0) kind 1
  dsimp only [List.length_nil] at K1
  refine d_seq ?_
  intro K0 hK0
  refine d_reg ?_
  simp only [go_sem]
  refine r_nwc ?_
  intro b1
  refine hK0 _ _ ?_
  clear hK0 K0
  refine d_seq ?_
  intro K0 hK0
  refine d_reg ?_
  simp only [go_sem]
  refine r_nwc ?_
  intro wb
  refine hK0 _ _ ?_
  clear hK0 K0
  refine d_seq ?_
  intro K0 hK0
  refine d_reg ?_
  simp only [go_sem]
  refine i_ld (e := eI) rfl ?_
  refine i_clq (gN _ ([], 0) kind 1 (by decide) (by decide) (by decide)) ?_
  refine hK0 _ _ ?_
  clear hK0 K0
  generalize layN ([], 0) kind 1 = x0 at *
  refine d_seq ?_
  intro K0 hK0
  refine d_reg ?_
  simp only [go_sem]
  refine hK0 _ _ ?_
  clear hK0 K0
  refine d_seq ?_
  intro K0 hK0
  have fin : ∀ (x : Wt) (e : Int) (tl : Env), bfin x e = B → E (wr wb x :: ar b1 47 [.int .i64 kind, .int .i64 txn, .int .i64 prev, .int .i64 page, .int .i64 act, str key, str old, str nw, .int .i64 next, .slice ip imgs.length ic, .slice tp tbl.length tc, .int .i64 epoch, .int .i64 node] :: A :: L) (K0 ((4, .pointer (some ⟨wb, 0, none⟩)) :: (5, .int .i64 e) :: tl)) := by
    intro x e tl hx
    subst hx
    refine hK0 _ _ ?_
    clear hK0 K0
    unfold bfin
    obtain ⟨t, f⟩ := x
    dsimp only
    by_cases he : e = 0
    · subst he
      rw [if_pos rfl]
      by_cases hf : f = 0
      · subst hf
        rw [if_pos rfl]
        by_cases hl : 4096 < t.length
        · rw [if_pos hl]
          repeat' (first | (with_reducible first | refine d_seq fun K hK => ?_ | (refine hK _ _ ?_; clear hK K) | (refine SG.p ?_; try intro b)) | refine i_c ?_ ?_ <;> intro hc <;> try simp only [push_cast, seval] at hc | refine i_x ?_ | clear hK K)
          refine i_clp (f96 wb (t, 0)) ?_
          repeat' (first | (with_reducible first | refine d_seq fun K hK => ?_ | (refine hK _ _ ?_; clear hK K) | (refine SG.p ?_; try intro b)) | refine i_c ?_ ?_ <;> intro hc <;> try simp only [push_cast, seval] at hc | refine i_x ?_ | clear hK K)
          all_goals try (first | contradiction | (simp only [ reduceCtorEq] at *; done) | (exfalso; omega))
          (with_reducible first | apply i_ret0 | apply i_ret2 | apply i_ret3 | apply i_ret); exact rfl
          rfl
        · rw [if_neg hl]
          repeat' (first | (with_reducible first | refine d_seq fun K hK => ?_ | (refine hK _ _ ?_; clear hK K) | (refine SG.p ?_; try intro b)) | refine i_c ?_ ?_ <;> intro hc <;> try simp only [push_cast, seval] at hc | refine i_x ?_ | clear hK K)
          refine i_clp (f96 wb (t, 0)) ?_
          repeat' (first | (with_reducible first | refine d_seq fun K hK => ?_ | (refine hK _ _ ?_; clear hK K) | (refine SG.p ?_; try intro b)) | refine i_c ?_ ?_ <;> intro hc <;> try simp only [push_cast, seval] at hc | refine i_x ?_ | clear hK K)
          all_goals try (first | contradiction | (simp only [ reduceCtorEq] at *; done) | (exfalso; omega))
          (with_reducible first | apply i_ret0 | apply i_ret2 | apply i_ret3 | apply i_ret); exact rfl
          rfl
      · rw [if_neg hf]
        repeat' (first | (with_reducible first | refine d_seq fun K hK => ?_ | (refine hK _ _ ?_; clear hK K) | (refine SG.p ?_; try intro b)) | refine i_c ?_ ?_ <;> intro hc <;> try simp only [push_cast, seval] at hc | refine i_x ?_ | clear hK K)
        refine i_clp (f96 wb (t, f)) ?_
        repeat' (first | (with_reducible first | refine d_seq fun K hK => ?_ | (refine hK _ _ ?_; clear hK K) | (refine SG.p ?_; try intro b)) | refine i_c ?_ ?_ <;> intro hc <;> try simp only [push_cast, seval] at hc | refine i_x ?_ | clear hK K)
        all_goals try (first | contradiction | (simp only [ reduceCtorEq] at *; done) | (exfalso; omega))
        (with_reducible first | apply i_ret0 | apply i_ret2 | apply i_ret3 | apply i_ret); exact rfl
        rfl
    · rw [if_neg he, if_neg he]
      repeat' (first | (with_reducible first | refine d_seq fun K hK => ?_ | (refine hK _ _ ?_; clear hK K) | (refine SG.p ?_; try intro b)) | refine i_c ?_ ?_ <;> intro hc <;> try simp only [push_cast, seval] at hc | refine i_x ?_ | clear hK K)
      refine i_clp (f96 wb (t, f)) ?_
      repeat' (first | (with_reducible first | refine d_seq fun K hK => ?_ | (refine hK _ _ ?_; clear hK K) | (refine SG.p ?_; try intro b)) | refine i_c ?_ ?_ <;> intro hc <;> try simp only [push_cast, seval] at hc | refine i_x ?_ | clear hK K)
      all_goals try (first | contradiction | (simp only [ reduceCtorEq] at *; done) | (exfalso; omega))
      (with_reducible first | apply i_ret0 | apply i_ret2 | apply i_ret3 | apply i_ret); exact rfl
      rfl
  clear hK0
  by_cases h1 : kind = 1
  · subst h1
    rw [if_pos rfl] at hB
    by_cases hl : imgs.length = 1
    · rw [if_pos hl] at hB
      repeat' (first | (with_reducible first | refine d_seq fun K hK => ?_ | (refine hK _ _ ?_; clear hK K) | (refine SG.p ?_; try intro b)) | refine i_c ?_ ?_ <;> intro hc <;> try simp only [push_cast, seval] at hc | refine i_x ?_ | clear hK K)
      all_goals try (first | contradiction | (simp only [ reduceCtorEq] at *; done) | (exfalso; omega))
      refine i_clq (g104 A wb x0 (ip, imgs.length, ic) imgs hi li (by omega)) ?_
      exact (fin _ _ _ hB).sub SX.p
    · rw [if_neg hl] at hB
      repeat' (first | (with_reducible first | refine d_seq fun K hK => ?_ | (refine hK _ _ ?_; clear hK K) | (refine SG.p ?_; try intro b)) | refine i_c ?_ ?_ <;> intro hc <;> try simp only [push_cast, seval] at hc | refine i_x ?_ | clear hK K)
      all_goals try (first | contradiction | (simp only [ reduceCtorEq] at *; done) | (exfalso; omega))
      subst hB
      (with_reducible first | apply i_ret0 | apply i_ret2 | apply i_ret3 | apply i_ret); exact rfl
      rfl
  rw [if_neg h1] at hB
  by_cases h2 : kind = 2
  · subst h2
    rw [if_pos rfl] at hB
    repeat' (first | (with_reducible first | refine d_seq fun K hK => ?_ | (refine hK _ _ ?_; clear hK K) | (refine SG.p ?_; try intro b)) | refine i_c ?_ ?_ <;> intro hc <;> try simp only [push_cast, seval] at hc | refine i_x ?_ | clear hK K)
    all_goals try (first | contradiction | (simp only [ reduceCtorEq] at *; done) | (exfalso; omega))
    refine i_clq (g104 A wb x0 (ip, imgs.length, ic) imgs hi li (by omega)) ?_
    exact (fin _ _ _ hB).sub SX.p
  rw [if_neg h2] at hB
  by_cases h6 : kind = 6
  · subst h6
    rw [if_pos rfl] at hB
    by_cases ha : act < 3 ∨ 5 < act
    · rw [if_pos ha] at hB
      repeat' (first | (with_reducible first | refine d_seq fun K hK => ?_ | (refine hK _ _ ?_; clear hK K) | (refine SG.p ?_; try intro b)) | refine i_c ?_ ?_ <;> intro hc <;> try simp only [push_cast, seval] at hc | refine i_x ?_ | clear hK K)
      all_goals try (first | contradiction | (simp only [ reduceCtorEq] at *; done) | (exfalso; omega))
      all_goals
        subst hB
        (with_reducible first | apply i_ret0 | apply i_ret2 | apply i_ret3 | apply i_ret); exact rfl
        rfl
    · rw [if_neg ha] at hB
      repeat' (first | (with_reducible first | refine d_seq fun K hK => ?_ | (refine hK _ _ ?_; clear hK K) | (refine SG.p ?_; try intro b)) | refine i_c ?_ ?_ <;> intro hc <;> try simp only [push_cast, seval] at hc | refine i_x ?_ | clear hK K)
      all_goals try (exfalso; omega)
      refine i_clp (g105 key old nw _) ?_
      have q1 := layN_len x0 txn 6
      have q2 := layN_len (layN x0 txn 6) prev 6
      have q3 := layN_len (layN (layN x0 txn 6) prev 6) next 6
      have q4 := layN_len (layN (layN (layN x0 txn 6) prev 6) next 6) act 1
      repeat' (first | (with_reducible first | refine d_seq fun K hK => ?_ | (refine hK _ _ ?_; clear hK K) | (refine SG.p ?_; try intro b)) | refine i_c ?_ ?_ <;> intro hc <;> try simp only [push_cast, seval] at hc | refine i_x ?_ | clear hK K)
      refine i_ldn (e := e_api_Rec) (x := ⟨6, txn, prev, page, act, key, old, nw, next, (ip, imgs.length, ic), (tp, tbl.length, tc), epoch, node⟩) rfl rfl rfl ?_
      refine i_clq (show Fq eN Tryz.prog 110 #[.pointer (some ⟨wb, 0, none⟩), v_api_Rec ⟨6, txn, prev, page, act, key, old, nw, next, (ip, imgs.length, ic), (tp, tbl.length, tc), epoch, node⟩] [wr wb x0] [wr wb (layN (layN x0 txn 6) prev 6)] () from g106 wb x0 _ (by omega)) ?_
      repeat' (first | (with_reducible first | refine d_seq fun K hK => ?_ | (refine hK _ _ ?_; clear hK K) | (refine SG.p ?_; try intro b)) | refine i_c ?_ ?_ <;> intro hc <;> try simp only [push_cast, seval] at hc | refine i_x ?_ | clear hK K)
      refine i_clq (gN wb (layN (layN x0 txn 6) prev 6) next 6 (by decide) (by decide) (by omega)) ?_
      repeat' (first | (with_reducible first | refine d_seq fun K hK => ?_ | (refine hK _ _ ?_; clear hK K) | (refine SG.p ?_; try intro b)) | refine i_c ?_ ?_ <;> intro hc <;> try simp only [push_cast, seval] at hc | refine i_x ?_ | clear hK K)
      refine i_clq (gN wb (layN (layN (layN x0 txn 6) prev 6) next 6) act 1 (by decide) (by decide) (by omega)) ?_
      repeat' (first | (with_reducible first | refine d_seq fun K hK => ?_ | (refine hK _ _ ?_; clear hK K) | (refine SG.p ?_; try intro b)) | refine i_c ?_ ?_ <;> intro hc <;> try simp only [push_cast, seval] at hc | refine i_x ?_ | clear hK K)
      refine i_ldn (e := e_api_Rec) (x := ⟨6, txn, prev, page, act, key, old, nw, next, (ip, imgs.length, ic), (tp, tbl.length, tc), epoch, node⟩) rfl rfl rfl ?_
      repeat' (first | (with_reducible first | refine d_seq fun K hK => ?_ | (refine hK _ _ ?_; clear hK K) | (refine SG.p ?_; try intro b)) | refine i_c ?_ ?_ <;> intro hc <;> try simp only [push_cast, seval] at hc | refine i_x ?_ | clear hK K)
      refine i_clq (g107 wb (layN (layN (layN (layN x0 txn 6) prev 6) next 6) act 1) ⟨6, txn, prev, page, act, key, old, nw, next, (ip, imgs.length, ic), (tp, tbl.length, tc), epoch, node⟩ act (by omega)) ?_
      repeat' (first | (with_reducible first | refine d_seq fun K hK => ?_ | (refine hK _ _ ?_; clear hK K) | (refine SG.p ?_; try intro b)) | refine i_c ?_ ?_ <;> intro hc <;> try simp only [push_cast, seval] at hc | refine i_x ?_ | clear hK K)
      exact (fin (chg (layN (layN (layN (layN x0 txn 6) prev 6) next 6) act 1) ⟨6, txn, prev, page, act, key, old, nw, next, (ip, imgs.length, ic), (tp, tbl.length, tc), epoch, node⟩ act) _ _ hB).sub SX.p
  rw [if_neg h6] at hB
  by_cases h345 : kind = 3 ∨ kind = 4 ∨ kind = 5
  · rw [if_pos h345] at hB
    have q1 := layN_len x0 txn 6
    have q2 := layN_len (layN x0 txn 6) prev 6
    repeat' (first | (with_reducible first | refine d_seq fun K hK => ?_ | (refine hK _ _ ?_; clear hK K) | (refine SG.p ?_; try intro b)) | refine i_c ?_ ?_ <;> intro hc <;> try simp only [push_cast, seval] at hc | refine i_x ?_ | clear hK K)
    all_goals try (exfalso; omega)
    all_goals
      refine i_clp (g105 key old nw _) ?_
      repeat' (first | (with_reducible first | refine d_seq fun K hK => ?_ | (refine hK _ _ ?_; clear hK K) | (refine SG.p ?_; try intro b)) | refine i_c ?_ ?_ <;> intro hc <;> try simp only [push_cast, seval] at hc | refine i_x ?_ | clear hK K)
      refine i_ldn (e := e_api_Rec) (x := ⟨kind, txn, prev, page, act, key, old, nw, next, (ip, imgs.length, ic), (tp, tbl.length, tc), epoch, node⟩) rfl rfl rfl ?_
      refine i_clq (show Fq eN Tryz.prog 110 #[.pointer (some ⟨wb, 0, none⟩), v_api_Rec ⟨kind, txn, prev, page, act, key, old, nw, next, (ip, imgs.length, ic), (tp, tbl.length, tc), epoch, node⟩] [wr wb x0] [wr wb (layN (layN x0 txn 6) prev 6)] () from g106 wb x0 _ (by omega)) ?_
      repeat' (first | (with_reducible first | refine d_seq fun K hK => ?_ | (refine hK _ _ ?_; clear hK K) | (refine SG.p ?_; try intro b)) | refine i_c ?_ ?_ <;> intro hc <;> try simp only [push_cast, seval] at hc | refine i_x ?_ | clear hK K)
      refine i_ldn (e := e_api_Rec) (x := ⟨kind, txn, prev, page, act, key, old, nw, next, (ip, imgs.length, ic), (tp, tbl.length, tc), epoch, node⟩) rfl rfl rfl ?_
      repeat' (first | (with_reducible first | refine d_seq fun K hK => ?_ | (refine hK _ _ ?_; clear hK K) | (refine SG.p ?_; try intro b)) | refine i_c ?_ ?_ <;> intro hc <;> try simp only [push_cast, seval] at hc | refine i_x ?_ | clear hK K)
      refine i_clq (g107 wb (layN (layN x0 txn 6) prev 6) ⟨kind, txn, prev, page, act, key, old, nw, next, (ip, imgs.length, ic), (tp, tbl.length, tc), epoch, node⟩ kind (by omega)) ?_
      repeat' (first | (with_reducible first | refine d_seq fun K hK => ?_ | (refine hK _ _ ?_; clear hK K) | (refine SG.p ?_; try intro b)) | refine i_c ?_ ?_ <;> intro hc <;> try simp only [push_cast, seval] at hc | refine i_x ?_ | clear hK K)
      exact (fin (chg (layN (layN x0 txn 6) prev 6) ⟨kind, txn, prev, page, act, key, old, nw, next, (ip, imgs.length, ic), (tp, tbl.length, tc), epoch, node⟩ kind) _ _ hB).sub SX.p
  rw [if_neg h345] at hB
  by_cases h78 : kind = 7 ∨ kind = 8
  · rw [if_pos h78] at hB
    repeat' (first | (with_reducible first | refine d_seq fun K hK => ?_ | (refine hK _ _ ?_; clear hK K) | (refine SG.p ?_; try intro b)) | refine i_c ?_ ?_ <;> intro hc <;> try simp only [push_cast, seval] at hc | refine i_x ?_ | clear hK K)
    all_goals try (exfalso; omega)
    all_goals
      refine i_ldn (e := e_api_Rec) (x := ⟨kind, txn, prev, page, act, key, old, nw, next, (ip, imgs.length, ic), (tp, tbl.length, tc), epoch, node⟩) rfl rfl rfl ?_
      refine i_clq (show Fq eN Tryz.prog 110 #[.pointer (some ⟨wb, 0, none⟩), v_api_Rec ⟨kind, txn, prev, page, act, key, old, nw, next, (ip, imgs.length, ic), (tp, tbl.length, tc), epoch, node⟩] [wr wb x0] [wr wb (layN (layN x0 txn 6) prev 6)] () from g106 wb x0 _ (by omega)) ?_
      repeat' (first | (with_reducible first | refine d_seq fun K hK => ?_ | (refine hK _ _ ?_; clear hK K) | (refine SG.p ?_; try intro b)) | refine i_c ?_ ?_ <;> intro hc <;> try simp only [push_cast, seval] at hc | refine i_x ?_ | clear hK K)
      exact (fin (layN (layN x0 txn 6) prev 6) _ _ hB).sub SX.p
  rw [if_neg h78] at hB
  by_cases h9 : kind = 9
  · rw [if_pos h9] at hB
    have q1 := layN_len x0 (tbl.length : Int) 1
    repeat' (first | (with_reducible first | refine d_seq fun K hK => ?_ | (refine hK _ _ ?_; clear hK K) | (refine SG.p ?_; try intro b)) | refine i_c ?_ ?_ <;> intro hc <;> try simp only [push_cast, seval] at hc | refine i_x ?_ | clear hK K)
    all_goals try (exfalso; omega)
    refine i_clq (gN wb x0 (tbl.length : Int) 1 (by decide) (by decide) (by omega)) ?_
    have hbig : 255 < tbl.length → (layN x0 (tbl.length : Int) 1).2 ≠ 0 := fun h => layN_big (by omega)
    generalize layN x0 (tbl.length : Int) 1 = x1 at *
    repeat' (first | (with_reducible first | refine d_seq fun K hK => ?_ | (refine hK _ _ ?_; clear hK K) | (refine SG.p ?_; try intro b)) | refine i_c ?_ ?_ <;> intro hc <;> try simp only [push_cast, seval] at hc | refine i_x ?_ | clear hK K)
    refine d_lp [4, 5, 102, 103, 104] (fun i : Nat => [(4, .pointer (some ⟨wb, 0, none⟩)), (5, .int .i64 0), (102, .slice tp tbl.length tc), (103, .int .i64 (tbl.length : Int)), (104, .int .i64 (i : Int))])
      (fun i => wr wb (tbg x1 (tbl.take i)) :: ar b1 47 [.int .i64 kind, .int .i64 txn, .int .i64 prev, .int .i64 page, .int .i64 act, str key, str old, str nw, .int .i64 next, .slice ip imgs.length ic, .slice tp tbl.length tc, .int .i64 epoch, .int .i64 node] :: A :: L) (fun i => i ≤ tbl.length ∧ ((255 < tbl.length ∧ tbg x1 (tbl.take i) = x1) ∨ (tbl.length ≤ 255 ∧ (tbg x1 (tbl.take i)).1.length ≤ 10 + 12 * i))) (fun i => tbl.length - i) 0 rfl ?_ ⟨by omega, by
        have e0 : (tbg x1 (tbl.take 0)).1.length = x1.1.length := rfl
        rcases Nat.lt_or_ge 255 tbl.length with h | h
        · exact .inl ⟨h, rfl⟩
        · exact .inr ⟨h, by omega⟩⟩ ?_
    · show Sub (wr wb x1 :: ar b1 47 _ :: A :: L) _
      exact SX.p
    rintro i ⟨hi', hx⟩
    have hx2 : (tbg x1 (tbl.take i)).1.length ≤ 100000 := by
      rcases hx with ⟨_, h⟩ | ⟨_, h⟩
      · rw [h]; omega
      · omega
    repeat' (first | (with_reducible first | refine d_seq fun K hK => ?_ | (refine hK _ _ ?_; clear hK K) | (refine SG.p ?_; try intro b)) | refine i_c ?_ ?_ <;> intro hc <;> try simp only [push_cast, seval] at hc | refine i_x ?_ | clear hK K)
    · have hlt : i < tbl.length := by omega
      obtain ⟨m, hm⟩ : ∃ m, tbl[i]? = some m := ⟨tbl[i], by simp [hlt]⟩
      have T : tbg x1 (tbl.take (i + 1)) = layN (layN (tbg x1 (tbl.take i)) m.Txn 6) m.Last 6 := by
        unfold tbg
        rw [List.take_succ_eq_append_getElem hlt, List.foldl_append]
        rw [List.getElem?_eq_getElem hlt] at hm
        simp only [Option.some.injEq] at hm
        rw [hm]
        rfl
      generalize tbg x1 (tbl.take i) = y at *
      have l1 := layN_len y m.Txn 6
      have l2 := layN_len (layN y m.Txn 6) m.Last 6
      rcases tp with _ | a
      · exact absurd rfl (ht.2.1 (by dsimp only; omega))
      · refine r_nn rfl ?_
        refine i_sn (x := m) (y := m) ht cAct_len hm rfl ?_
        repeat' (first | (with_reducible first | refine d_seq fun K hK => ?_ | (refine hK _ _ ?_; clear hK K) | (refine SG.p ?_; try intro b)) | refine i_c ?_ ?_ <;> intro hc <;> try simp only [push_cast, seval] at hc | refine i_x ?_ | clear hK K)
        refine i_clq (gN wb y m.Txn 6 (by decide) (by decide) (by omega)) ?_
        repeat' (first | (with_reducible first | refine d_seq fun K hK => ?_ | (refine hK _ _ ?_; clear hK K) | (refine SG.p ?_; try intro b)) | refine i_c ?_ ?_ <;> intro hc <;> try simp only [push_cast, seval] at hc | refine i_x ?_ | clear hK K)
        refine i_clq (gN wb (layN y m.Txn 6) m.Last 6 (by decide) (by decide) (by omega)) ?_
        repeat' (first | (with_reducible first | refine d_seq fun K hK => ?_ | (refine hK _ _ ?_; clear hK K) | (refine SG.p ?_; try intro b)) | refine i_c ?_ ?_ <;> intro hc <;> try simp only [push_cast, seval] at hc | refine i_x ?_ | clear hK K)
        rw [← T]
        rw [← T] at l2
        rw [w64 (by omega) (by omega)]
        exact i_bk (i + 1) rfl ⟨by omega, by
          rcases hx with ⟨h, rfl⟩ | ⟨h, h'⟩
          · exact .inl ⟨h, by rw [T, layN_err (hbig h), layN_err (hbig h)]⟩
          · exact .inr ⟨h, by omega⟩⟩ (by omega)
    · obtain rfl : i = tbl.length := by omega
      rw [List.take_length]
      exact (fin _ _ _ hB).sub SX.p
  rw [if_neg h9] at hB
  by_cases h10 : kind = 10
  · rw [if_pos h10] at hB
    have q1 := layN_len x0 epoch 4
    repeat' (first | (with_reducible first | refine d_seq fun K hK => ?_ | (refine hK _ _ ?_; clear hK K) | (refine SG.p ?_; try intro b)) | refine i_c ?_ ?_ <;> intro hc <;> try simp only [push_cast, seval] at hc | refine i_x ?_ | clear hK K)
    all_goals try (exfalso; omega)
    refine i_clq (gN wb x0 epoch 4 (by decide) (by decide) (by omega)) ?_
    repeat' (first | (with_reducible first | refine d_seq fun K hK => ?_ | (refine hK _ _ ?_; clear hK K) | (refine SG.p ?_; try intro b)) | refine i_c ?_ ?_ <;> intro hc <;> try simp only [push_cast, seval] at hc | refine i_x ?_ | clear hK K)
    refine i_clq (gN wb (layN x0 epoch 4) node 1 (by decide) (by decide) (by omega)) ?_
    repeat' (first | (with_reducible first | refine d_seq fun K hK => ?_ | (refine hK _ _ ?_; clear hK K) | (refine SG.p ?_; try intro b)) | refine i_c ?_ ?_ <;> intro hc <;> try simp only [push_cast, seval] at hc | refine i_x ?_ | clear hK K)
    exact (fin _ _ _ hB).sub SX.p
  rw [if_neg h10] at hB
  repeat' (first | (with_reducible first | refine d_seq fun K hK => ?_ | (refine hK _ _ ?_; clear hK K) | (refine SG.p ?_; try intro b)) | refine i_c ?_ ?_ <;> intro hc <;> try simp only [push_cast, seval] at hc | refine i_x ?_ | clear hK K)
  all_goals try (exfalso; omega)
  subst hB
  (with_reducible first | apply i_ret0 | apply i_ret2 | apply i_ret3 | apply i_ret); exact rfl
  rfl
def Rc.frame (c : Rc) : Wt := if c.clean.body.2 = 0 then (lowb (c.clean.body.1.length : Int) 2 ++ (lowb (sm c.clean.body.1) 4 ++ c.clean.body.1), 0) else ([], c.clean.body.2)
theorem bfin_le (x : Wt) (e : Int) : (bfin x e).1.length ≤ 4096 := by
  unfold bfin
  repeat' split
  all_goals first | omega | (simp; done) | (dsimp only; omega)
theorem Rc.body_le (c : Rc) : c.body.1.length ≤ 4096 := by
  unfold Rc.body
  repeat' split
  all_goals first | exact bfin_le _ _ | (simp; done)
theorem put2 {s : List UInt8} (h : s.length ≤ 4096) : putN [] (s.length : Int) 2 = (lowb (s.length : Int) 2, 0) := by
  unfold putN
  have p2 : ((256 ^ 2 : Nat) : Int) = 65536 := by decide
  rw [p2, if_neg (by omega)]
  rfl
theorem g18 (A : HP) (r : api_Rec) (c : Rc) (h : RcAt A r c) : Fp (eT2 eS eI) Tryz.prog 61 #[v_api_Rec r] [A] c.frame := fun L => by
  have hb := c.clean.body_le
  have F := g71 A (clr r) c.clean h.clr
  unfold Rc.frame
  generalize c.clean.body = x at *
  obtain ⟨s, e⟩ := x
  dsimp only at hb ⊢
  obtain ⟨kind, txn, prev, page, act, key, old, nw, next, im, tb, epoch, node⟩ := r
  have hl2 := lowb_len (s.length : Int) 2
  have hl4 := lowb_len (sm s) 4
  have P := f97 [] (s.length : Int) 2 (by decide) (by decide) (by decide)
  rw [put2 hb] at P
  have G := g72 ⟨kind, txn, prev, page, act, key, old, nw, next, im, tb, epoch, node⟩
  generalize clr ⟨kind, txn, prev, page, act, key, old, nw, next, im, tb, epoch, node⟩ = y at *
  refine c61_fn rfl rfl ?_
  by_cases he : e = 0
  · subst he
    rw [if_pos rfl]
    repeat' (first | (with_reducible first | refine d_seq fun K hK => ?_ | (refine hK _ _ ?_; clear hK K) | (refine SG.p ?_; try intro b)) | refine i_c ?_ ?_ <;> intro hc <;> try simp only [push_cast, seval] at hc | refine i_x ?_ | clear hK K)
    refine i_ldn (e := e_api_Rec) (x := ⟨kind, txn, prev, page, act, key, old, nw, next, im, tb, epoch, node⟩) rfl rfl rfl ?_
    refine i_clp G ?_
    refine i_clp F ?_
    repeat' (first | (with_reducible first | refine d_seq fun K hK => ?_ | (refine hK _ _ ?_; clear hK K) | (refine SG.p ?_; try intro b)) | refine i_c ?_ ?_ <;> intro hc <;> try simp only [push_cast, seval] at hc | refine i_x ?_ | clear hK K)
    all_goals try (first | contradiction | (simp only [ reduceCtorEq] at *; done) | (exfalso; omega))
    refine i_clp P ?_
    repeat' (first | (with_reducible first | refine d_seq fun K hK => ?_ | (refine hK _ _ ?_; clear hK K) | (refine SG.p ?_; try intro b)) | refine i_c ?_ ?_ <;> intro hc <;> try simp only [push_cast, seval] at hc | refine i_x ?_ | clear hK K)
    refine i_clp (g74 s (by omega)) ?_
    refine r_rq (by rw [List.length_append]; omega) ?_
    repeat' (first | (with_reducible first | refine d_seq fun K hK => ?_ | (refine hK _ _ ?_; clear hK K) | (refine SG.p ?_; try intro b)) | refine i_c ?_ ?_ <;> intro hc <;> try simp only [push_cast, seval] at hc | refine i_x ?_ | clear hK K)
    (with_reducible first | apply i_ret0 | apply i_ret2 | apply i_ret3 | apply i_ret); exact rfl
    rfl
  · rw [if_neg he]
    repeat' (first | (with_reducible first | refine d_seq fun K hK => ?_ | (refine hK _ _ ?_; clear hK K) | (refine SG.p ?_; try intro b)) | refine i_c ?_ ?_ <;> intro hc <;> try simp only [push_cast, seval] at hc | refine i_x ?_ | clear hK K)
    refine i_ldn (e := e_api_Rec) (x := ⟨kind, txn, prev, page, act, key, old, nw, next, im, tb, epoch, node⟩) rfl rfl rfl ?_
    refine i_clp G ?_
    refine i_clp F ?_
    repeat' (first | (with_reducible first | refine d_seq fun K hK => ?_ | (refine hK _ _ ?_; clear hK K) | (refine SG.p ?_; try intro b)) | refine i_c ?_ ?_ <;> intro hc <;> try simp only [push_cast, seval] at hc | refine i_x ?_ | clear hK K)
    all_goals try (first | contradiction | (simp only [ reduceCtorEq] at *; done) | (exfalso; omega))
    (with_reducible first | apply i_ret0 | apply i_ret2 | apply i_ret3 | apply i_ret); exact rfl
    rfl
end Go.Sp
