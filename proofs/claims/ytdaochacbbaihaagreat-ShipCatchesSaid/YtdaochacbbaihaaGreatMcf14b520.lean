/- Texts of a proof, one behind the other: Gha0 H1 H2 W5 W7 H3 Ghb0 Ghc0 Ghd0 H4 H5 H6 H7 Ghe0 H8 H9 H10. No condition. -/
import Derived.Test.YtdaochacbbaihaaGreatM6c1d23f4
import Derived.Test.YtdaochacbbaihaaGreatMcb885b55
namespace Go.Sp
open Go
set_option maxRecDepth 100000
set_option linter.unusedVariables false
open Go.Proofs
variable (K : Env → W) (k : Value → W) {e : Enc} {args : Array Value} {G : e.α → W} {L : List HP} {ρ : Env}
attribute [local instance] cI cB cP cA
noncomputable def c17 := cf Tryz.f17 22 [(0, [0, 1, 2]), (1, [0, 1, 2]), (2, []), (3, [0, 1, 2])] [(0, [0, 1, 2]), (1, [0, 1, 2, 16]), (2, [6]), (3, [6]), (1000000, [6])] [] []
@[go_sem] theorem c17_i : c17.li 0 = [0, 1, 2] ∧ c17.li 1 = [0, 1, 2] ∧ c17.li 2 = [] ∧ c17.li 3 = [0, 1, 2] := ⟨rfl, rfl, rfl, rfl⟩
@[go_sem] theorem c17_r0 (v0 : Option Addr) (v1 v2 : Int) : RP c17 0 [(0, v0), (1, v1), (2, v2)] K =
 (K [(0, v0), (1, v1), (2, v2)]) := by kernel_rfl
@[go_sem] theorem c17_r1 (v0 : Option Addr) (v1 v2 : Int) : RP c17 1 [(0, v0), (1, v1), (2, v2)] K =
 (cnd (v0.isNone) (K [(0, v0), (1, v1), (2, v2), (16, true)]) (cnd (decide (v2 < 0)) (K [(0, v0), (1, v1), (2, v2), (16, true)]) (K [(0, v0), (1, v1), (2, v2), (16, decide (2 ≤ v2))]))) := by kernel_rfl
@[go_sem] theorem c17_r2 : RP c17 2 [] K =
 (K [(6, .pointer none)]) := by kernel_rfl
@[go_sem] theorem c17_r3 (v0 : Option Addr) (v1 v2 : Int) : RP c17 3 [(0, v0), (1, v1), (2, v2)] K =
 (nwc #[.pointer ((⟨v0, v1, v2, false, (0 : Int), (0 : Int), (0 : Int)⟩ : ship_Ship).log), .int .i64 ((⟨v0, v1, v2, false, (0 : Int), (0 : Int), (0 : Int)⟩ : ship_Ship).epoch), .int .i64 ((⟨v0, v1, v2, false, (0 : Int), (0 : Int), (0 : Int)⟩ : ship_Ship).node), .bool ((⟨v0, v1, v2, false, (0 : Int), (0 : Int), (0 : Int)⟩ : ship_Ship).met), .int .i64 ((⟨v0, v1, v2, false, (0 : Int), (0 : Int), (0 : Int)⟩ : ship_Ship).next), .int .i64 ((⟨v0, v1, v2, false, (0 : Int), (0 : Int), (0 : Int)⟩ : ship_Ship).acked), .int .i64 ((⟨v0, v1, v2, false, (0 : Int), (0 : Int), (0 : Int)⟩ : ship_Ship).sent)] 62 fun y1_ => (K [(6, y1_)])) := by kernel_rfl
@[go_sem] theorem c17_o : c17.lo 1000000 = [6] := rfl
@[go_sem] theorem c17_e (v6 : Option Addr) : RTp c17 [(6, v6)] k = (k (v6)) := by kernel_rfl
theorem c17_ok : (c17.P.follows .mixedOrders && okc c17 c17.body) = true := by kernel_rfl
theorem c17_fn (hρ : envA 0 args.toList = ρ) (hs : Nat.ble args.size 22 = true) (h : E L (D c17 (.seq (.reg 0) (.seq (.seq (.reg 1) (.cond (.tmp 16) (.seq (.reg 2) (.ret)) (.skip))) (.seq (.reg 3) (.ret)))) (fnQ c17 e G) ρ)) : E L (cal e Tryz.prog 17 args G) :=
  d_fn (c := c17) Tryz.func17 (by kernel_rfl) (by kernel_rfl) (by kernel_rfl) c17_ok (by kernel_rfl) (by kernel_rfl) hρ hs h
noncomputable def c20 := cf Tryz.f20 32 [(0, [0, 1, 2]), (1, [0, 2, 4]), (2, []), (3, [0, 2, 4]), (4, [0, 2, 4, 20]), (5, [0, 4]), (6, [0, 2, 4, 20]), (7, [0, 2, 4]), (8, [])] [(0, [0, 2, 4]), (1, [0, 2, 4, 18]), (2, [6]), (3, [0, 2, 4, 20]), (4, [0, 2, 4, 20, 21]), (5, [6]), (6, [0, 2, 4, 26]), (7, [6]), (8, [6]), (1000000, [6])] [(1, (false, [(0, 1), (1, 3), (2, 1), (3, 1), (4, 0), (5, 1), (6, 1), (7, 1), (8, 0), (9, 1), (10, 1), (11, 1)]))] []
@[go_sem] theorem c20_i : c20.li 0 = [0, 1, 2] ∧ c20.li 1 = [0, 2, 4] ∧ c20.li 2 = [] ∧ c20.li 3 = [0, 2, 4] ∧ c20.li 4 = [0, 2, 4, 20] ∧ c20.li 5 = [0, 4] ∧ c20.li 6 = [0, 2, 4, 20] ∧ c20.li 7 = [0, 2, 4] ∧ c20.li 8 = [] := ⟨rfl, rfl, rfl, rfl, rfl, rfl, rfl, rfl, rfl⟩
@[go_sem] theorem c20_r0 (v0 : Option Addr) (v1 : api_Msg) (v2 : Int) : RP c20 0 [(0, v0), (1, v_api_Msg v1), (2, v2)] K =
 (nwc #[v1.Kind, v1.From, v1.To, v1.Epoch, v1.Before, v1.Start, v1.End, v1.Until, v1.Holder, str v1.Text] 55 fun y1_ => (K [(0, v0), (2, v2), (4, y1_)])) := by kernel_rfl
@[go_sem] theorem c20_r1 (v0 : Option Addr) (v2 : Int) (v4 : Addr) : RP c20 1 [(0, v0), (2, v2), (4, v4)] K =
 (cal eB Tryz.prog 46 #[v0] fun (y1_ : Bool) => (ph fun S1 => (cnd y1_ (K [(0, v0), (2, v2), (4, v4), (18, true)]) (ldq S1 eI (v4.add 1) fun (y2_ : Int) => (nn v0 fun y3_ => (ldq S1 eI (y3_.add 2) fun (y4_ : Int) => (K [(0, v0), (2, v2), (4, v4), (18, .bool (y2_ != (IntKind.wrap .i64 ((1 : Int) - y4_))))]))))))) := by kernel_rfl
@[go_sem] theorem c20_r2 : RP c20 2 [] K =
 (K [(6, .slice none 0 0)]) := by kernel_rfl
@[go_sem] theorem c20_r3 (v0 : Option Addr) (v2 : Int) (v4 : Addr) : RP c20 3 [(0, v0), (2, v2), (4, v4)] K =
 (ld eI v4 fun (y1_ : Int) => (K [(0, v0), (2, v2), (4, v4), (20, y1_)])) := by kernel_rfl
@[go_sem] theorem c20_r4 (v0 : Option Addr) (v2 : Int) (v4 : Addr) (v20 : Int) : RP c20 4 [(0, v0), (2, v2), (4, v4), (20, v20)] K =
 (K [(0, v0), (2, v2), (4, v4), (20, v20), (21, .bool (v20 == 1))]) := by kernel_rfl
@[go_sem] theorem c20_r5 (v0 : Option Addr) (v4 : Addr) : RP c20 5 [(0, v0), (4, v4)] K =
 (ldn e_api_Msg 10 v4 fun (y1_ : api_Msg) => (cal eSl Tryz.prog 47 #[v0, v_api_Msg y1_] fun (y2_ : (Option Addr × Nat × Nat)) => (K [(6, .slice y2_.1 y2_.2.1 y2_.2.2)]))) := by kernel_rfl
@[go_sem] theorem c20_r6 (v0 : Option Addr) (v2 : Int) (v4 : Addr) (v20 : Int) : RP c20 6 [(0, v0), (2, v2), (4, v4), (20, v20)] K =
 (K [(0, v0), (2, v2), (4, v4), (26, .bool (v20 == 3))]) := by kernel_rfl
@[go_sem] theorem c20_r7 (v0 : Option Addr) (v2 : Int) (v4 : Addr) : RP c20 7 [(0, v0), (2, v2), (4, v4)] K =
 (ldn e_api_Msg 10 v4 fun (y1_ : api_Msg) => (cal eSl Tryz.prog 48 #[v0, v_api_Msg y1_, v2] fun (y2_ : (Option Addr × Nat × Nat)) => (K [(6, .slice y2_.1 y2_.2.1 y2_.2.2)]))) := by kernel_rfl
@[go_sem] theorem c20_r8 : RP c20 8 [] K =
 (K [(6, .slice none 0 0)]) := by kernel_rfl
@[go_sem] theorem c20_o : c20.lo 1000000 = [6] := rfl
@[go_sem] theorem c20_e (v6p : Option Addr) (v6n v6c : Nat) : RTp c20 [(6, .slice v6p v6n v6c)] k = (k (.slice v6p v6n v6c)) := by kernel_rfl
theorem c20_ok : (c20.P.follows .mixedOrders && okc c20 c20.body) = true := by kernel_rfl
theorem c20_fn (hρ : envA 0 args.toList = ρ) (hs : Nat.ble args.size 32 = true) (h : E L (D c20 (.seq (.reg 0) (.seq (.seq (.reg 1) (.cond (.tmp 18) (.seq (.reg 2) (.ret)) (.skip))) (.seq (.seq (.reg 3) (.block 0 (.seq (.reg 4) (.cond (.tmp 21) (.seq (.reg 5) (.ret)) (.seq (.reg 6) (.cond (.tmp 26) (.seq (.reg 7) (.ret)) (.skip))))))) (.seq (.reg 8) (.ret))))) (fnQ c20 e G) ρ)) : E L (cal e Tryz.prog 20 args G) :=
  d_fn (c := c20) Tryz.func20 (by kernel_rfl) (by kernel_rfl) (by kernel_rfl) c20_ok (by kernel_rfl) (by kernel_rfl) hρ hs h
noncomputable def c22 := cf Tryz.f22 9 [(0, [0]), (1, [0]), (2, []), (3, [0])] [(0, [0]), (1, [0, 4]), (2, [2]), (3, [2]), (1000000, [2])] [] []
@[go_sem] theorem c22_i : c22.li 0 = [0] ∧ c22.li 1 = [0] ∧ c22.li 2 = [] ∧ c22.li 3 = [0] := ⟨rfl, rfl, rfl, rfl⟩
@[go_sem] theorem c22_r0 (v0 : Option Addr) : RP c22 0 [(0, v0)] K =
 (K [(0, v0)]) := by kernel_rfl
@[go_sem] theorem c22_r1 (v0 : Option Addr) : RP c22 1 [(0, v0)] K =
 (cal eB Tryz.prog 46 #[v0] fun (y1_ : Bool) => (K [(0, v0), (4, y1_)])) := by kernel_rfl
@[go_sem] theorem c22_r2 : RP c22 2 [] K =
 (K [(2, .int .i64 0)]) := by kernel_rfl
@[go_sem] theorem c22_r3 (v0 : Option Addr) : RP c22 3 [(0, v0)] K =
 (nn v0 fun y1_ => (ld eI (y1_.add 5) fun (y2_ : Int) => (K [(2, y2_)]))) := by kernel_rfl
@[go_sem] theorem c22_o : c22.lo 1000000 = [2] := rfl
@[go_sem] theorem c22_e (v2 : Int) : RTp c22 [(2, v2)] k = (k (v2)) := by kernel_rfl
theorem c22_ok : (c22.P.follows .mixedOrders && okc c22 c22.body) = true := by kernel_rfl
theorem c22_fn (hρ : envA 0 args.toList = ρ) (hs : Nat.ble args.size 9 = true) (h : E L (D c22 (.seq (.reg 0) (.seq (.seq (.reg 1) (.cond (.tmp 4) (.seq (.reg 2) (.ret)) (.skip))) (.seq (.reg 3) (.ret)))) (fnQ c22 e G) ρ)) : E L (cal e Tryz.prog 22 args G) :=
  d_fn (c := c22) Tryz.func22 (by kernel_rfl) (by kernel_rfl) (by kernel_rfl) c22_ok (by kernel_rfl) (by kernel_rfl) hρ hs h
noncomputable def c25 := cf Tryz.f25 14 [(0, [0]), (1, [0]), (2, []), (3, [0])] [(0, [0]), (1, [0, 5]), (2, [2, 3]), (3, [2, 3]), (1000000, [2, 3])] [(3, (true, [(0, 1), (1, 1), (2, 1), (3, 0), (4, 1), (5, 1), (6, 1), (7, 0), (8, 1), (9, 1)]))] []
@[go_sem] theorem c25_i : c25.li 0 = [0] ∧ c25.li 1 = [0] ∧ c25.li 2 = [] ∧ c25.li 3 = [0] := ⟨rfl, rfl, rfl, rfl⟩
@[go_sem] theorem c25_r0 (v0 : Option Addr) : RP c25 0 [(0, v0)] K =
 (K [(0, v0)]) := by kernel_rfl
@[go_sem] theorem c25_r1 (v0 : Option Addr) : RP c25 1 [(0, v0)] K =
 (cal eB Tryz.prog 46 #[v0] fun (y1_ : Bool) => (K [(0, v0), (5, y1_)])) := by kernel_rfl
@[go_sem] theorem c25_r2 : RP c25 2 [] K =
 (K [(2, .int .i64 0), (3, false)]) := by kernel_rfl
@[go_sem] theorem c25_r3 (v0 : Option Addr) : RP c25 3 [(0, v0)] K =
 (ph fun S0 => (nn v0 fun y1_ => (ldq S0 eI (y1_.add 4) fun (y2_ : Int) => (nn v0 fun y3_ => (ldq S0 eB (y3_.add 3) fun (y4_ : Bool) => (K [(2, y2_), (3, y4_)])))))) := by kernel_rfl
@[go_sem] theorem c25_o : c25.lo 1000000 = [2, 3] := rfl
@[go_sem] theorem c25_e (v2 : Int) (v3 : Bool) : RTp c25 [(2, v2), (3, v3)] k = (k (.tuple #[v2, v3])) := by kernel_rfl
theorem c25_ok : (c25.P.follows .mixedOrders && okc c25 c25.body) = true := by kernel_rfl
theorem c25_fn (hρ : envA 0 args.toList = ρ) (hs : Nat.ble args.size 14 = true) (h : E L (D c25 (.seq (.reg 0) (.seq (.seq (.reg 1) (.cond (.tmp 5) (.seq (.reg 2) (.ret)) (.skip))) (.seq (.reg 3) (.ret)))) (fnQ c25 e G) ρ)) : E L (cal e Tryz.prog 25 args G) :=
  d_fn (c := c25) Tryz.func25 (by kernel_rfl) (by kernel_rfl) (by kernel_rfl) c25_ok (by kernel_rfl) (by kernel_rfl) hρ hs h
noncomputable def c26 := cf Tryz.f26 25 [(0, [0]), (1, [0]), (2, []), (3, [0]), (4, [0]), (5, [0])] [(0, [0]), (1, [0, 3]), (2, [2]), (3, [0, 6]), (4, [2]), (5, [2]), (1000000, [2])] [] []
@[go_sem] theorem c26_i : c26.li 0 = [0] ∧ c26.li 1 = [0] ∧ c26.li 2 = [] ∧ c26.li 3 = [0] ∧ c26.li 4 = [0] ∧ c26.li 5 = [0] := ⟨rfl, rfl, rfl, rfl, rfl, rfl⟩
@[go_sem] theorem c26_r0 (v0 : Option Addr) : RP c26 0 [(0, v0)] K =
 (K [(0, v0)]) := by kernel_rfl
@[go_sem] theorem c26_r1 (v0 : Option Addr) : RP c26 1 [(0, v0)] K =
 (cal eB Tryz.prog 46 #[v0] fun (y1_ : Bool) => (K [(0, v0), (3, y1_)])) := by kernel_rfl
@[go_sem] theorem c26_r2 : RP c26 2 [] K =
 (K [(2, .slice none 0 0)]) := by kernel_rfl
@[go_sem] theorem c26_r3 (v0 : Option Addr) : RP c26 3 [(0, v0)] K =
 (nn v0 fun y1_ => (ld eB (y1_.add 3) fun (y2_ : Bool) => (K [(0, v0), (6, .bool (!y2_))]))) := by kernel_rfl
@[go_sem] theorem c26_r4 (v0 : Option Addr) : RP c26 4 [(0, v0)] K =
 (nn v0 fun y1_ => (ld eP y1_ fun (y2_ : Option Addr) => (cal eI Tryz.prog 19 #[y2_] fun (y3_ : Int) => (cal e_api_Msg Tryz.prog 52 #[v0, y3_] fun (y4_ : api_Msg) => (nwc #[y4_.Kind, y4_.From, y4_.To, y4_.Epoch, y4_.Before, y4_.Start, y4_.End, y4_.Until, y4_.Holder, str y4_.Text] 55 fun y5_ => (cal eSl Tryz.prog 51 #[.slice (some y5_) 1 1] fun (y6_ : (Option Addr × Nat × Nat)) => (K [(2, .slice y6_.1 y6_.2.1 y6_.2.2)]))))))) := by kernel_rfl
@[go_sem] theorem c26_r5 (v0 : Option Addr) : RP c26 5 [(0, v0)] K =
 (cal e_api_Msg Tryz.prog 53 #[v0] fun (y1_ : api_Msg) => (nwc #[y1_.Kind, y1_.From, y1_.To, y1_.Epoch, y1_.Before, y1_.Start, y1_.End, y1_.Until, y1_.Holder, str y1_.Text] 55 fun y2_ => (cal eSl Tryz.prog 51 #[.slice (some y2_) 1 1] fun (y3_ : (Option Addr × Nat × Nat)) => (K [(2, .slice y3_.1 y3_.2.1 y3_.2.2)])))) := by kernel_rfl
@[go_sem] theorem c26_o : c26.lo 1000000 = [2] := rfl
@[go_sem] theorem c26_e (v2p : Option Addr) (v2n v2c : Nat) : RTp c26 [(2, .slice v2p v2n v2c)] k = (k (.slice v2p v2n v2c)) := by kernel_rfl
theorem c26_ok : (c26.P.follows .mixedOrders && okc c26 c26.body) = true := by kernel_rfl
theorem c26_fn (hρ : envA 0 args.toList = ρ) (hs : Nat.ble args.size 25 = true) (h : E L (D c26 (.seq (.reg 0) (.seq (.block 0 (.seq (.reg 1) (.cond (.tmp 3) (.seq (.reg 2) (.ret)) (.seq (.reg 3) (.cond (.tmp 6) (.seq (.reg 4) (.ret)) (.skip)))))) (.seq (.reg 5) (.ret)))) (fnQ c26 e G) ρ)) : E L (cal e Tryz.prog 26 args G) :=
  d_fn (c := c26) Tryz.func26 (by kernel_rfl) (by kernel_rfl) (by kernel_rfl) c26_ok (by kernel_rfl) (by kernel_rfl) hρ hs h
noncomputable def c27 := cf Tryz.f27 9 [(0, [0]), (1, [0]), (2, []), (3, [0])] [(0, [0]), (1, [0, 4]), (2, [2]), (3, [2]), (1000000, [2])] [] []
@[go_sem] theorem c27_i : c27.li 0 = [0] ∧ c27.li 1 = [0] ∧ c27.li 2 = [] ∧ c27.li 3 = [0] := ⟨rfl, rfl, rfl, rfl⟩
@[go_sem] theorem c27_r0 (v0 : Option Addr) : RP c27 0 [(0, v0)] K =
 (K [(0, v0)]) := by kernel_rfl
@[go_sem] theorem c27_r1 (v0 : Option Addr) : RP c27 1 [(0, v0)] K =
 (cal eB Tryz.prog 46 #[v0] fun (y1_ : Bool) => (K [(0, v0), (4, y1_)])) := by kernel_rfl
@[go_sem] theorem c27_r2 : RP c27 2 [] K =
 (K [(2, .int .i64 0)]) := by kernel_rfl
@[go_sem] theorem c27_r3 (v0 : Option Addr) : RP c27 3 [(0, v0)] K =
 (nn v0 fun y1_ => (ld eI (y1_.add 6) fun (y2_ : Int) => (K [(2, y2_)]))) := by kernel_rfl
@[go_sem] theorem c27_o : c27.lo 1000000 = [2] := rfl
@[go_sem] theorem c27_e (v2 : Int) : RTp c27 [(2, v2)] k = (k (v2)) := by kernel_rfl
theorem c27_ok : (c27.P.follows .mixedOrders && okc c27 c27.body) = true := by kernel_rfl
theorem c27_fn (hρ : envA 0 args.toList = ρ) (hs : Nat.ble args.size 9 = true) (h : E L (D c27 (.seq (.reg 0) (.seq (.seq (.reg 1) (.cond (.tmp 4) (.seq (.reg 2) (.ret)) (.skip))) (.seq (.reg 3) (.ret)))) (fnQ c27 e G) ρ)) : E L (cal e Tryz.prog 27 args G) :=
  d_fn (c := c27) Tryz.func27 (by kernel_rfl) (by kernel_rfl) (by kernel_rfl) c27_ok (by kernel_rfl) (by kernel_rfl) hρ hs h
noncomputable def c46 := cf Tryz.f46 12 [(0, [0]), (1, [0])] [(0, [0]), (1, [2]), (1000000, [2])] [] []
@[go_sem] theorem c46_i : c46.li 0 = [0] ∧ c46.li 1 = [0] := ⟨rfl, rfl⟩
@[go_sem] theorem c46_r0 (v0 : Option Addr) : RP c46 0 [(0, v0)] K =
 (K [(0, v0)]) := by kernel_rfl
@[go_sem] theorem c46_r1 (v0 : Option Addr) : RP c46 1 [(0, v0)] K =
 (cnd (v0.isNone) (K [(2, true)]) (nn v0 fun y1_ => (ld eP y1_ fun (y2_ : Option Addr) => (K [(2, .bool (y2_.isNone))])))) := by kernel_rfl
@[go_sem] theorem c46_o : c46.lo 1000000 = [2] := rfl
@[go_sem] theorem c46_e (v2 : Bool) : RTp c46 [(2, v2)] k = (k (v2)) := by kernel_rfl
theorem c46_ok : (c46.P.follows .mixedOrders && okc c46 c46.body) = true := by kernel_rfl
theorem c46_fn (hρ : envA 0 args.toList = ρ) (hs : Nat.ble args.size 12 = true) (h : E L (D c46 (.seq (.reg 0) (.seq (.reg 1) (.ret))) (fnQ c46 e G) ρ)) : E L (cal e Tryz.prog 46 args G) :=
  d_fn (c := c46) Tryz.func46 (by kernel_rfl) (by kernel_rfl) (by kernel_rfl) c46_ok (by kernel_rfl) (by kernel_rfl) hρ hs h
noncomputable def c47 := cf Tryz.f47 63 [(0, [0, 1]), (1, [0, 3]), (2, [0, 3, 5, 6]), (3, [0, 3, 5, 6]), (4, [0, 3, 5, 6]), (5, [0, 5, 6, 7]), (6, [7]), (7, [0, 3]), (8, [0])] [(0, [0, 3]), (1, [0, 3, 5, 6]), (2, [0, 3, 5, 6, 33]), (3, [0, 3, 5, 6]), (4, [0, 5, 6, 7]), (5, [7]), (6, [4]), (7, [0]), (8, [4]), (1000000, [4])] [(1, (true, [(0, 1), (1, 1), (2, 1), (3, 0), (5, 1), (6, 0), (7, 1), (8, 1), (9, 1), (10, 0), (4, 2), (11, 2), (12, 4), (13, 1), (14, 1), (15, 1), (16, 1), (17, 1)])), (7, (true, [(0, 1), (1, 1), (2, 1), (3, 0), (4, 1), (5, 1), (6, 2), (7, 1), (8, 1), (9, 4)]))] []
@[go_sem] theorem c47_i : c47.li 0 = [0, 1] ∧ c47.li 1 = [0, 3] ∧ c47.li 2 = [0, 3, 5, 6] ∧ c47.li 3 = [0, 3, 5, 6] ∧ c47.li 4 = [0, 3, 5, 6] ∧ c47.li 5 = [0, 5, 6, 7] ∧ c47.li 6 = [7] ∧ c47.li 7 = [0, 3] ∧ c47.li 8 = [0] := ⟨rfl, rfl, rfl, rfl, rfl, rfl, rfl, rfl, rfl⟩
@[go_sem] theorem c47_r0 (v0 : Option Addr) (v1 : api_Msg) : RP c47 0 [(0, v0), (1, v_api_Msg v1)] K =
 (nwc #[v1.Kind, v1.From, v1.To, v1.Epoch, v1.Before, v1.Start, v1.End, v1.Until, v1.Holder, str v1.Text] 55 fun y1_ => (K [(0, v0), (3, y1_)])) := by kernel_rfl
@[go_sem] theorem c47_r1 (v0 : Option Addr) (v3 : Addr) : RP c47 1 [(0, v0), (3, v3)] K =
 (ph fun S0 => (nn v0 fun y1_ => (ldq S0 eP y1_ fun (y2_ : Option Addr) => (ldq S0 eI (v3.add 4) fun (y3_ : Int) => (nn v0 fun y4_ => (ldq S0 eP y4_ fun (y5_ : Option Addr) => (cal eSl Tryz.prog 74 #[y2_] fun (y6_ : (Option Addr × Nat × Nat)) => (kpn S0 fun S1 => (cal eI Tryz.prog 19 #[y5_] fun (y7_ : Int) => (kpn S1 fun S2 => (cal (eT2 eI eI) Tryz.prog 73 #[.slice y6_.1 y6_.2.1 y6_.2.2, y3_, y7_] fun (y8_ : (Int × Int)) => (K [(0, v0), (3, v3), (5, y8_.1), (6, y8_.2)])))))))))))) := by kernel_rfl
@[go_sem] theorem c47_r2 (v0 : Option Addr) (v3 : Addr) (v5 v6 : Int) : RP c47 2 [(0, v0), (3, v3), (5, v5), (6, v6)] K =
 (ld eI (v3.add 4) fun (y1_ : Int) => (cnd (v5 != y1_) (K [(0, v0), (3, v3), (5, v5), (6, v6), (33, true)]) (ld eI (v3.add 6) fun (y2_ : Int) => (K [(0, v0), (3, v3), (5, v5), (6, v6), (33, decide (v6 < y2_))])))) := by kernel_rfl
@[go_sem] theorem c47_r3 (v0 : Option Addr) (v3 : Addr) (v5 v6 : Int) : RP c47 3 [(0, v0), (3, v3), (5, v5), (6, v6)] K =
 (nn v0 fun y1_ => (st (y1_.add 3) (false) (K [(0, v0), (3, v3), (5, v5), (6, v6)]))) := by kernel_rfl
@[go_sem] theorem c47_r4 (v0 : Option Addr) (v3 : Addr) (v5 v6 : Int) : RP c47 4 [(0, v0), (3, v3), (5, v5), (6, v6)] K =
 (ldn e_api_Msg 10 v3 fun (y1_ : api_Msg) => (cal e_api_Msg Tryz.prog 75 #[v_api_Msg y1_, .int .i64 4] fun (y2_ : api_Msg) => (nwc #[.int .i64 0, .int .i64 0, .int .i64 0, .int .i64 0, .int .i64 0, .int .i64 0, .int .i64 0, .int .i64 0, .int .i64 0, str ([] : List UInt8)] 55 fun y3_ => (stl [y2_.Kind, y2_.From, y2_.To, y2_.Epoch, y2_.Before, y2_.Start, y2_.End, y2_.Until, y2_.Holder, str y2_.Text] y3_ 0 (K [(0, v0), (5, v5), (6, v6), (7, y3_)]))))) := by kernel_rfl
@[go_sem] theorem c47_r5 (v0 : Option Addr) (v5 v6 : Int) (v7 : Addr) : RP c47 5 [(0, v0), (5, v5), (6, v6), (7, v7)] K =
 (nn v0 fun y1_ => (ld eI (y1_.add 1) fun (y2_ : Int) => (st (v7.add 3) (y2_) (st (v7.add 4) (v5) (st (v7.add 5) (v6) (K [(7, v7)])))))) := by kernel_rfl
@[go_sem] theorem c47_r6 (v7 : Addr) : RP c47 6 [(7, v7)] K =
 (ldn e_api_Msg 10 v7 fun (y1_ : api_Msg) => (nwc #[y1_.Kind, y1_.From, y1_.To, y1_.Epoch, y1_.Before, y1_.Start, y1_.End, y1_.Until, y1_.Holder, str y1_.Text] 55 fun y2_ => (cal eSl Tryz.prog 51 #[.slice (some y2_) 1 1] fun (y3_ : (Option Addr × Nat × Nat)) => (K [(4, .slice y3_.1 y3_.2.1 y3_.2.2)])))) := by kernel_rfl
@[go_sem] theorem c47_r7 (v0 : Option Addr) (v3 : Addr) : RP c47 7 [(0, v0), (3, v3)] K =
 (ph fun S0 => (ldq S0 eI (v3.add 6) fun (y1_ : Int) => (nn v0 fun y2_ => (st (y2_.add 3) (true) (kpn S0 fun S1 => (nn v0 fun y3_ => (st (y3_.add 4) (y1_) (K [(0, v0)])))))))) := by kernel_rfl
@[go_sem] theorem c47_r8 (v0 : Option Addr) : RP c47 8 [(0, v0)] K =
 (cal e_api_Msg Tryz.prog 53 #[v0] fun (y1_ : api_Msg) => (nwc #[y1_.Kind, y1_.From, y1_.To, y1_.Epoch, y1_.Before, y1_.Start, y1_.End, y1_.Until, y1_.Holder, str y1_.Text] 55 fun y2_ => (cal eSl Tryz.prog 51 #[.slice (some y2_) 1 1] fun (y3_ : (Option Addr × Nat × Nat)) => (K [(4, .slice y3_.1 y3_.2.1 y3_.2.2)])))) := by kernel_rfl
@[go_sem] theorem c47_o : c47.lo 1000000 = [4] := rfl
@[go_sem] theorem c47_e (v4p : Option Addr) (v4n v4c : Nat) : RTp c47 [(4, .slice v4p v4n v4c)] k = (k (.slice v4p v4n v4c)) := by kernel_rfl
theorem c47_ok : (c47.P.follows .mixedOrders && okc c47 c47.body) = true := by kernel_rfl
theorem c47_fn (hρ : envA 0 args.toList = ρ) (hs : Nat.ble args.size 63 = true) (h : E L (D c47 (.seq (.reg 0) (.seq (.reg 1) (.seq (.seq (.reg 2) (.cond (.tmp 33) (.seq (.reg 3) (.seq (.reg 4) (.seq (.reg 5) (.seq (.reg 6) (.ret))))) (.skip))) (.seq (.reg 7) (.seq (.reg 8) (.ret)))))) (fnQ c47 e G) ρ)) : E L (cal e Tryz.prog 47 args G) :=
  d_fn (c := c47) Tryz.func47 (by kernel_rfl) (by kernel_rfl) (by kernel_rfl) c47_ok (by kernel_rfl) (by kernel_rfl) hρ hs h
noncomputable def c48 := cf Tryz.f48 65 [(0, [0, 1, 2]), (1, [0, 2, 4]), (2, []), (3, [0, 2, 4]), (4, [0, 4]), (5, [0, 4]), (6, [0]), (7, [0]), (8, [])] [(0, [0, 2, 4]), (1, [0, 2, 4, 28]), (2, [6]), (3, [0, 4, 32]), (4, [0, 4]), (5, [0]), (6, [0, 60]), (7, [6]), (8, [6]), (1000000, [6])] [(1, (true, [(0, 1), (1, 0), (2, 1), (3, 1), (4, 1), (5, 0), (6, 1), (7, 1), (8, 1), (9, 0), (10, 1), (11, 1), (12, 1), (13, 1), (14, 0), (15, 1), (16, 1), (17, 1), (18, 0), (19, 2), (20, 1), (21, 1)])), (4, (true, [(0, 1), (1, 1), (2, 1), (3, 1), (4, 0), (5, 1), (6, 0), (7, 1), (8, 1), (9, 1), (10, 4)])), (5, (true, [(0, 1), (1, 1), (2, 1), (3, 0), (4, 1), (5, 1), (6, 2), (7, 1), (8, 1), (9, 4)])), (6, (true, [(0, 1), (1, 1), (2, 1), (3, 0), (4, 1), (5, 1), (6, 1), (7, 0), (8, 2), (9, 1)]))] []
@[go_sem] theorem c48_i : c48.li 0 = [0, 1, 2] ∧ c48.li 1 = [0, 2, 4] ∧ c48.li 2 = [] ∧ c48.li 3 = [0, 2, 4] ∧ c48.li 4 = [0, 4] ∧ c48.li 5 = [0, 4] ∧ c48.li 6 = [0] ∧ c48.li 7 = [0] ∧ c48.li 8 = [] := ⟨rfl, rfl, rfl, rfl, rfl, rfl, rfl, rfl, rfl⟩
@[go_sem] theorem c48_r0 (v0 : Option Addr) (v1 : api_Msg) (v2 : Int) : RP c48 0 [(0, v0), (1, v_api_Msg v1), (2, v2)] K =
 (nwc #[v1.Kind, v1.From, v1.To, v1.Epoch, v1.Before, v1.Start, v1.End, v1.Until, v1.Holder, str v1.Text] 55 fun y1_ => (K [(0, v0), (2, v2), (4, y1_)])) := by kernel_rfl
@[go_sem] theorem c48_r1 (v0 : Option Addr) (v2 : Int) (v4 : Addr) : RP c48 1 [(0, v0), (2, v2), (4, v4)] K =
 (ph fun S0 => (ldq S0 eI (v4.add 3) fun (y1_ : Int) => (nn v0 fun y2_ => (ldq S0 eI (y2_.add 1) fun (y3_ : Int) => (cnd (y1_ != y3_) (kpn S0 fun S1 => (K [(0, v0), (2, v2), (4, v4), (28, true)])) (ldq S0 eI (v4.add 6) fun (y4_ : Int) => (cnd (decide (y4_ < 1)) (kpn S0 fun S2 => (K [(0, v0), (2, v2), (4, v4), (28, true)])) (ldq S0 eI (v4.add 6) fun (y5_ : Int) => (nn v0 fun y6_ => (ldq S0 eP y6_ fun (y7_ : Option Addr) => (cal eI Tryz.prog 19 #[y7_] fun (y8_ : Int) => (kpn S0 fun S3 => (K [(0, v0), (2, v2), (4, v4), (28, decide (y8_ < y5_))]))))))))))))) := by kernel_rfl
@[go_sem] theorem c48_r2 : RP c48 2 [] K =
 (K [(6, .slice none 0 0)]) := by kernel_rfl
@[go_sem] theorem c48_r3 (v0 : Option Addr) (v2 : Int) (v4 : Addr) : RP c48 3 [(0, v0), (2, v2), (4, v4)] K =
 (ld eI (v4.add 7) fun (y1_ : Int) => (K [(0, v0), (4, v4), (32, decide (v2 ≤ y1_))])) := by kernel_rfl
@[go_sem] theorem c48_r4 (v0 : Option Addr) (v4 : Addr) : RP c48 4 [(0, v0), (4, v4)] K =
 (ph fun S0 => (nn v0 fun y1_ => (ldq S0 eI (y1_.add 5) fun (y2_ : Int) => (ldq S0 eI (v4.add 6) fun (y3_ : Int) => (nn v0 fun y4_ => (st (y4_.add 5) (.int .i64 (if y2_ < y3_ then y3_ else y2_)) (K [(0, v0), (4, v4)]))))))) := by kernel_rfl
@[go_sem] theorem c48_r5 (v0 : Option Addr) (v4 : Addr) : RP c48 5 [(0, v0), (4, v4)] K =
 (ph fun S0 => (ldq S0 eI (v4.add 6) fun (y1_ : Int) => (nn v0 fun y2_ => (st (y2_.add 3) (true) (kpn S0 fun S1 => (nn v0 fun y3_ => (st (y3_.add 4) (y1_) (K [(0, v0)])))))))) := by kernel_rfl
@[go_sem] theorem c48_r6 (v0 : Option Addr) : RP c48 6 [(0, v0)] K =
 (ph fun S0 => (nn v0 fun y1_ => (ldq S0 eI (y1_.add 4) fun (y2_ : Int) => (nn v0 fun y3_ => (ldq S0 eP y3_ fun (y4_ : Option Addr) => (cal eI Tryz.prog 19 #[y4_] fun (y5_ : Int) => (kpn S0 fun S1 => (K [(0, v0), (60, decide (y2_ < y5_))])))))))) := by kernel_rfl
@[go_sem] theorem c48_r7 (v0 : Option Addr) : RP c48 7 [(0, v0)] K =
 (cal e_api_Msg Tryz.prog 53 #[v0] fun (y1_ : api_Msg) => (nwc #[y1_.Kind, y1_.From, y1_.To, y1_.Epoch, y1_.Before, y1_.Start, y1_.End, y1_.Until, y1_.Holder, str y1_.Text] 55 fun y2_ => (cal eSl Tryz.prog 51 #[.slice (some y2_) 1 1] fun (y3_ : (Option Addr × Nat × Nat)) => (K [(6, .slice y3_.1 y3_.2.1 y3_.2.2)])))) := by kernel_rfl
@[go_sem] theorem c48_r8 : RP c48 8 [] K =
 (K [(6, .slice none 0 0)]) := by kernel_rfl
@[go_sem] theorem c48_o : c48.lo 1000000 = [6] := rfl
@[go_sem] theorem c48_e (v6p : Option Addr) (v6n v6c : Nat) : RTp c48 [(6, .slice v6p v6n v6c)] k = (k (.slice v6p v6n v6c)) := by kernel_rfl
theorem c48_ok : (c48.P.follows .mixedOrders && okc c48 c48.body) = true := by kernel_rfl
theorem c48_fn (hρ : envA 0 args.toList = ρ) (hs : Nat.ble args.size 65 = true) (h : E L (D c48 (.seq (.reg 0) (.seq (.seq (.reg 1) (.cond (.tmp 28) (.seq (.reg 2) (.ret)) (.skip))) (.seq (.seq (.reg 3) (.cond (.tmp 32) (.reg 4) (.skip))) (.seq (.reg 5) (.seq (.seq (.reg 6) (.cond (.tmp 60) (.seq (.reg 7) (.ret)) (.skip))) (.seq (.reg 8) (.ret))))))) (fnQ c48 e G) ρ)) : E L (cal e Tryz.prog 48 args G) :=
  d_fn (c := c48) Tryz.func48 (by kernel_rfl) (by kernel_rfl) (by kernel_rfl) c48_ok (by kernel_rfl) (by kernel_rfl) hρ hs h
noncomputable def c51 := cf Tryz.f51 4 [(0, [0]), (1, [0])] [(0, [0]), (1, [2]), (1000000, [2])] [] []
@[go_sem] theorem c51_i : c51.li 0 = [0] ∧ c51.li 1 = [0] := ⟨rfl, rfl⟩
@[go_sem] theorem c51_r0 (v0p : Option Addr) (v0n v0c : Nat) : RP c51 0 [(0, .slice v0p v0n v0c)] K =
 (K [(0, .slice v0p v0n v0c)]) := by kernel_rfl
@[go_sem] theorem c51_r1 (v0p : Option Addr) (v0n v0c : Nat) : RP c51 1 [(0, .slice v0p v0n v0c)] K =
 (K [(2, .slice v0p v0n v0c)]) := by kernel_rfl
@[go_sem] theorem c51_o : c51.lo 1000000 = [2] := rfl
@[go_sem] theorem c51_e (v2p : Option Addr) (v2n v2c : Nat) : RTp c51 [(2, .slice v2p v2n v2c)] k = (k (.slice v2p v2n v2c)) := by kernel_rfl
theorem c51_ok : (c51.P.follows .mixedOrders && okc c51 c51.body) = true := by kernel_rfl
theorem c51_fn (hρ : envA 0 args.toList = ρ) (hs : Nat.ble args.size 4 = true) (h : E L (D c51 (.seq (.reg 0) (.seq (.reg 1) (.ret))) (fnQ c51 e G) ρ)) : E L (cal e Tryz.prog 51 args G) :=
  d_fn (c := c51) Tryz.func51 (by kernel_rfl) (by kernel_rfl) (by kernel_rfl) c51_ok (by kernel_rfl) (by kernel_rfl) hρ hs h
noncomputable def c52 := cf Tryz.f52 53 [(0, [0, 1]), (1, [0, 1, 4]), (2, [0, 1, 4, 5, 6]), (3, [0, 1, 4]), (4, [0, 1, 4, 5]), (5, [0, 1, 4, 5])] [(0, [0, 1, 4]), (1, [0, 1, 4, 5, 6]), (2, [0, 1, 4, 5, 17]), (3, [0, 1, 4, 5]), (4, [0, 1, 4, 5]), (5, [4]), (1000000, [4])] [(5, (true, [(0, 1), (1, 1), (2, 1), (3, 0), (4, 1), (5, 1), (6, 1), (7, 0), (8, 1), (9, 1), (10, 1), (11, 1), (12, 0), (13, 1), (14, 1), (15, 1), (16, 0), (18, 1), (20, 1), (21, 1), (22, 1), (23, 1), (24, 0), (26, 1), (17, 2), (19, 2), (25, 2), (27, 1), (28, 4)]))] []
@[go_sem] theorem c52_i : c52.li 0 = [0, 1] ∧ c52.li 1 = [0, 1, 4] ∧ c52.li 2 = [0, 1, 4, 5, 6] ∧ c52.li 3 = [0, 1, 4] ∧ c52.li 4 = [0, 1, 4, 5] ∧ c52.li 5 = [0, 1, 4, 5] := ⟨rfl, rfl, rfl, rfl, rfl, rfl⟩
@[go_sem] theorem c52_r0 (v0 : Option Addr) (v1 : Int) : RP c52 0 [(0, v0), (1, v1)] K =
 (nwc #[.int .i64 0, .int .i64 0, .int .i64 0, .int .i64 0, .int .i64 0, .int .i64 0, .int .i64 0, .int .i64 0, .int .i64 0, str ([] : List UInt8)] 55 fun y1_ => (K [(0, v0), (1, v1), (4, y1_)])) := by kernel_rfl
@[go_sem] theorem c52_r1 (v0 : Option Addr) (v1 : Int) (v4 : Addr) : RP c52 1 [(0, v0), (1, v1), (4, v4)] K =
 (nn v0 fun y1_ => (ld eP y1_ fun (y2_ : Option Addr) => (cal (eT2 eS eI) Tryz.prog 23 #[y2_, v1, .int .i64 1024] fun (y3_ : ((List UInt8) × Int)) => (K [(0, v0), (1, v1), (4, v4), (5, str y3_.1), (6, y3_.2)])))) := by kernel_rfl
@[go_sem] theorem c52_r2 (v0 : Option Addr) (v1 : Int) (v4 : Addr) (v5 : List UInt8) (v6 : Int) : RP c52 2 [(0, v0), (1, v1), (4, v4), (5, str v5), (6, v6)] K =
 (K [(0, v0), (1, v1), (4, v4), (5, str v5), (17, .bool (v6 != 0))]) := by kernel_rfl
@[go_sem] theorem c52_r3 (v0 : Option Addr) (v1 : Int) (v4 : Addr) : RP c52 3 [(0, v0), (1, v1), (4, v4)] K =
 (K [(0, v0), (1, v1), (4, v4), (5, str ([] : List UInt8))]) := by kernel_rfl
@[go_sem] theorem c52_r4 (v0 : Option Addr) (v1 : Int) (v4 : Addr) (v5 : List UInt8) : RP c52 4 [(0, v0), (1, v1), (4, v4), (5, str v5)] K =
 (nn v0 fun y1_ => (ld eI (y1_.add 6) fun (y2_ : Int) => (nn v0 fun y3_ => (st (y3_.add 6) (IntKind.wrap .i64 (y2_ + 1)) (K [(0, v0), (1, v1), (4, v4), (5, str v5)]))))) := by kernel_rfl
@[go_sem] theorem c52_r5 (v0 : Option Addr) (v1 : Int) (v4 : Addr) (v5 : List UInt8) : RP c52 5 [(0, v0), (1, v1), (4, v4), (5, str v5)] K =
 (ph fun S0 => (nn v0 fun y1_ => (ldq S0 eI (y1_.add 2) fun (y2_ : Int) => (nn v0 fun y3_ => (ldq S0 eI (y3_.add 2) fun (y4_ : Int) => (nn v0 fun y5_ => (ldq S0 eI (y5_.add 1) fun (y6_ : Int) => (nn v0 fun y7_ => (ldq S0 eP y7_ fun (y8_ : Option Addr) => (nn v0 fun y9_ => (ldq S0 eP y9_ fun (y10_ : Option Addr) => (cal eSl Tryz.prog 74 #[y8_] fun (y11_ : (Option Addr × Nat × Nat)) => (kpn S0 fun S1 => (cal eI Tryz.prog 79 #[.slice y11_.1 y11_.2.1 y11_.2.2, v1] fun (y12_ : Int) => (kpn S1 fun S2 => (cal eI Tryz.prog 19 #[y10_] fun (y13_ : Int) => (kpn S2 fun S3 => (stl [.int .i64 ((⟨(2 : Int), y2_, (IntKind.wrap .i64 ((1 : Int) - y4_)), y6_, y12_, v1, y13_, (0 : Int), (0 : Int), v5⟩ : api_Msg).Kind), .int .i64 ((⟨(2 : Int), y2_, (IntKind.wrap .i64 ((1 : Int) - y4_)), y6_, y12_, v1, y13_, (0 : Int), (0 : Int), v5⟩ : api_Msg).From), .int .i64 ((⟨(2 : Int), y2_, (IntKind.wrap .i64 ((1 : Int) - y4_)), y6_, y12_, v1, y13_, (0 : Int), (0 : Int), v5⟩ : api_Msg).To), .int .i64 ((⟨(2 : Int), y2_, (IntKind.wrap .i64 ((1 : Int) - y4_)), y6_, y12_, v1, y13_, (0 : Int), (0 : Int), v5⟩ : api_Msg).Epoch), .int .i64 ((⟨(2 : Int), y2_, (IntKind.wrap .i64 ((1 : Int) - y4_)), y6_, y12_, v1, y13_, (0 : Int), (0 : Int), v5⟩ : api_Msg).Before), .int .i64 ((⟨(2 : Int), y2_, (IntKind.wrap .i64 ((1 : Int) - y4_)), y6_, y12_, v1, y13_, (0 : Int), (0 : Int), v5⟩ : api_Msg).Start), .int .i64 ((⟨(2 : Int), y2_, (IntKind.wrap .i64 ((1 : Int) - y4_)), y6_, y12_, v1, y13_, (0 : Int), (0 : Int), v5⟩ : api_Msg).End), .int .i64 ((⟨(2 : Int), y2_, (IntKind.wrap .i64 ((1 : Int) - y4_)), y6_, y12_, v1, y13_, (0 : Int), (0 : Int), v5⟩ : api_Msg).Until), .int .i64 ((⟨(2 : Int), y2_, (IntKind.wrap .i64 ((1 : Int) - y4_)), y6_, y12_, v1, y13_, (0 : Int), (0 : Int), v5⟩ : api_Msg).Holder), str ((⟨(2 : Int), y2_, (IntKind.wrap .i64 ((1 : Int) - y4_)), y6_, y12_, v1, y13_, (0 : Int), (0 : Int), v5⟩ : api_Msg).Text)] v4 0 (K [(4, v4)]))))))))))))))))))) := by kernel_rfl
@[go_sem] theorem c52_o : c52.lo 1000000 = [4] := rfl
@[go_sem] theorem c52_e (v4 : Addr) : RTp c52 [(4, v4)] k = (ldn e_api_Msg 10 v4 fun (y1_ : api_Msg) => (k (v_api_Msg y1_))) := by kernel_rfl
theorem c52_ok : (c52.P.follows .mixedOrders && okc c52 c52.body) = true := by kernel_rfl
theorem c52_fn (hρ : envA 0 args.toList = ρ) (hs : Nat.ble args.size 53 = true) (h : E L (D c52 (.seq (.reg 0) (.seq (.reg 1) (.seq (.seq (.reg 2) (.cond (.tmp 17) (.reg 3) (.skip))) (.seq (.reg 4) (.seq (.reg 5) (.ret)))))) (fnQ c52 e G) ρ)) : E L (cal e Tryz.prog 52 args G) :=
  d_fn (c := c52) Tryz.func52 (by kernel_rfl) (by kernel_rfl) (by kernel_rfl) c52_ok (by kernel_rfl) (by kernel_rfl) hρ hs h
noncomputable def c53 := cf Tryz.f53 9 [(0, [0]), (1, [0, 2])] [(0, [0, 2]), (1, [2]), (1000000, [2])] [] []
@[go_sem] theorem c53_i : c53.li 0 = [0] ∧ c53.li 1 = [0, 2] := ⟨rfl, rfl⟩
@[go_sem] theorem c53_r0 (v0 : Option Addr) : RP c53 0 [(0, v0)] K =
 (nwc #[.int .i64 0, .int .i64 0, .int .i64 0, .int .i64 0, .int .i64 0, .int .i64 0, .int .i64 0, .int .i64 0, .int .i64 0, str ([] : List UInt8)] 55 fun y1_ => (K [(0, v0), (2, y1_)])) := by kernel_rfl
@[go_sem] theorem c53_r1 (v0 : Option Addr) (v2 : Addr) : RP c53 1 [(0, v0), (2, v2)] K =
 (nn v0 fun y1_ => (ld eI (y1_.add 4) fun (y2_ : Int) => (cal e_api_Msg Tryz.prog 52 #[v0, y2_] fun (y3_ : api_Msg) => (stl [y3_.Kind, y3_.From, y3_.To, y3_.Epoch, y3_.Before, y3_.Start, y3_.End, y3_.Until, y3_.Holder, str y3_.Text] v2 0 (K [(2, v2)]))))) := by kernel_rfl
@[go_sem] theorem c53_o : c53.lo 1000000 = [2] := rfl
@[go_sem] theorem c53_e (v2 : Addr) : RTp c53 [(2, v2)] k = (ldn e_api_Msg 10 v2 fun (y1_ : api_Msg) => (k (v_api_Msg y1_))) := by kernel_rfl
theorem c53_ok : (c53.P.follows .mixedOrders && okc c53 c53.body) = true := by kernel_rfl
theorem c53_fn (hρ : envA 0 args.toList = ρ) (hs : Nat.ble args.size 9 = true) (h : E L (D c53 (.seq (.reg 0) (.seq (.reg 1) (.ret))) (fnQ c53 e G) ρ)) : E L (cal e Tryz.prog 53 args G) :=
  d_fn (c := c53) Tryz.func53 (by kernel_rfl) (by kernel_rfl) (by kernel_rfl) c53_ok (by kernel_rfl) (by kernel_rfl) hρ hs h
noncomputable def c73 := cf Tryz.f73 42 [(0, [0, 1, 2]), (1, [0, 1, 2]), (2, [0, 1, 2, 8, 9]), (3, [0, 1, 2, 8, 9, 12, 13, 14]), (4, [0, 1, 2, 8, 9, 12, 13, 14]), (5, [0, 1, 2, 8, 9, 10, 11, 12, 13, 14]), (6, [0, 1, 2, 10, 11, 12, 13, 14]), (7, [0, 1, 2, 8, 9, 10, 12, 13, 14]), (8, [0, 1, 2, 8, 10, 12, 13, 14]), (9, [0, 1, 2, 8, 9, 12, 13, 14]), (10, [2, 8, 9])] [(0, [0, 1, 2]), (1, [0, 1, 2, 8, 9]), (2, [0, 1, 2, 8, 9, 12, 13, 14]), (3, [0, 1, 2, 8, 9, 12, 13, 14, 15]), (4, [0, 1, 2, 8, 9, 10, 11, 12, 13, 14]), (5, [0, 1, 2, 8, 9, 10, 11, 12, 13, 14, 22]), (6, [0, 1, 2, 8, 9, 10, 12, 13, 14]), (7, [0, 1, 2, 8, 9, 10, 12, 13, 14, 30]), (8, [0, 1, 2, 8, 9, 12, 13, 14]), (9, [0, 1, 2, 8, 9, 12, 13, 14]), (10, [6, 7]), (1000000, [6, 7])] [] []
@[go_sem] theorem c73_i : c73.li 0 = [0, 1, 2] ∧ c73.li 1 = [0, 1, 2] ∧ c73.li 2 = [0, 1, 2, 8, 9] ∧ c73.li 3 = [0, 1, 2, 8, 9, 12, 13, 14] ∧ c73.li 4 = [0, 1, 2, 8, 9, 12, 13, 14] ∧ c73.li 5 = [0, 1, 2, 8, 9, 10, 11, 12, 13, 14] ∧ c73.li 6 = [0, 1, 2, 10, 11, 12, 13, 14] ∧ c73.li 7 = [0, 1, 2, 8, 9, 10, 12, 13, 14] ∧ c73.li 8 = [0, 1, 2, 8, 10, 12, 13, 14] ∧ c73.li 9 = [0, 1, 2, 8, 9, 12, 13, 14] ∧ c73.li 10 = [2, 8, 9] := ⟨rfl, rfl, rfl, rfl, rfl, rfl, rfl, rfl, rfl, rfl, rfl⟩
@[go_sem] theorem c73_r0 (v0p : Option Addr) (v0n v0c : Nat) (v1 v2 : Int) : RP c73 0 [(0, .slice v0p v0n v0c), (1, v1), (2, v2)] K =
 (K [(0, .slice v0p v0n v0c), (1, v1), (2, v2)]) := by kernel_rfl
@[go_sem] theorem c73_r1 (v0p : Option Addr) (v0n v0c : Nat) (v1 v2 : Int) : RP c73 1 [(0, .slice v0p v0n v0c), (1, v1), (2, v2)] K =
 (K [(0, .slice v0p v0n v0c), (1, v1), (2, v2), (8, .int .i64 0), (9, .int .i64 1)]) := by kernel_rfl
@[go_sem] theorem c73_r2 (v0p : Option Addr) (v0n v0c : Nat) (v1 v2 v8 v9 : Int) : RP c73 2 [(0, .slice v0p v0n v0c), (1, v1), (2, v2), (8, v8), (9, v9)] K =
 (K [(0, .slice v0p v0n v0c), (1, v1), (2, v2), (8, v8), (9, v9), (12, .slice v0p v0n v0c), (13, .int .i64 (v0n : Int)), (14, .int .i64 0)]) := by kernel_rfl
@[go_sem] theorem c73_r3 (v0p : Option Addr) (v0n v0c : Nat) (v1 v2 v8 v9 : Int) (v12p : Option Addr) (v12n v12c : Nat) (v13 v14 : Int) : RP c73 3 [(0, .slice v0p v0n v0c), (1, v1), (2, v2), (8, v8), (9, v9), (12, .slice v12p v12n v12c), (13, v13), (14, v14)] K =
 (K [(0, .slice v0p v0n v0c), (1, v1), (2, v2), (8, v8), (9, v9), (12, .slice v12p v12n v12c), (13, v13), (14, v14), (15, decide (v14 < v13))]) := by kernel_rfl
@[go_sem] theorem c73_r4 (v0p : Option Addr) (v0n v0c : Nat) (v1 v2 v8 v9 : Int) (v12p : Option Addr) (v12n v12c : Nat) (v13 v14 : Int) : RP c73 4 [(0, .slice v0p v0n v0c), (1, v1), (2, v2), (8, v8), (9, v9), (12, .slice v12p v12n v12c), (13, v13), (14, v14)] K =
 (rq (0 ≤ v14 ∧ v14 < v12n) (nn v12p fun y1_ => (ldn e_api_Span 2 (Addr.add y1_ (v14.toNat * 2)) fun (y2_ : api_Span) => (nwc #[.int .i64 0, .int .i64 0] 161 fun y3_ => (stl [y2_.Epoch, y2_.Start] y3_ 0 (K [(0, .slice v0p v0n v0c), (1, v1), (2, v2), (8, v8), (9, v9), (10, v14), (11, y3_), (12, .slice v12p v12n v12c), (13, v13), (14, v14)])))))) := by kernel_rfl
@[go_sem] theorem c73_r5 (v0p : Option Addr) (v0n v0c : Nat) (v1 v2 v8 v9 v10 : Int) (v11 : Addr) (v12p : Option Addr) (v12n v12c : Nat) (v13 v14 : Int) : RP c73 5 [(0, .slice v0p v0n v0c), (1, v1), (2, v2), (8, v8), (9, v9), (10, v10), (11, v11), (12, .slice v12p v12n v12c), (13, v13), (14, v14)] K =
 (ld eI v11 fun (y1_ : Int) => (K [(0, .slice v0p v0n v0c), (1, v1), (2, v2), (8, v8), (9, v9), (10, v10), (11, v11), (12, .slice v12p v12n v12c), (13, v13), (14, v14), (22, decide (v1 < y1_))])) := by kernel_rfl
@[go_sem] theorem c73_r6 (v0p : Option Addr) (v0n v0c : Nat) (v1 v2 v10 : Int) (v11 : Addr) (v12p : Option Addr) (v12n v12c : Nat) (v13 v14 : Int) : RP c73 6 [(0, .slice v0p v0n v0c), (1, v1), (2, v2), (10, v10), (11, v11), (12, .slice v12p v12n v12c), (13, v13), (14, v14)] K =
 (ld eI v11 fun (y1_ : Int) => (K [(0, .slice v0p v0n v0c), (1, v1), (2, v2), (8, y1_), (9, v2), (10, v10), (12, .slice v12p v12n v12c), (13, v13), (14, v14)])) := by kernel_rfl
@[go_sem] theorem c73_r7 (v0p : Option Addr) (v0n v0c : Nat) (v1 v2 v8 v9 v10 : Int) (v12p : Option Addr) (v12n v12c : Nat) (v13 v14 : Int) : RP c73 7 [(0, .slice v0p v0n v0c), (1, v1), (2, v2), (8, v8), (9, v9), (10, v10), (12, .slice v12p v12n v12c), (13, v13), (14, v14)] K =
 (K [(0, .slice v0p v0n v0c), (1, v1), (2, v2), (8, v8), (9, v9), (10, v10), (12, .slice v12p v12n v12c), (13, v13), (14, v14), (30, decide (v10 < (IntKind.wrap .i64 ((v0n : Int) - 1))))]) := by kernel_rfl
@[go_sem] theorem c73_r8 (v0p : Option Addr) (v0n v0c : Nat) (v1 v2 v8 v10 : Int) (v12p : Option Addr) (v12n v12c : Nat) (v13 v14 : Int) : RP c73 8 [(0, .slice v0p v0n v0c), (1, v1), (2, v2), (8, v8), (10, v10), (12, .slice v12p v12n v12c), (13, v13), (14, v14)] K =
 (rq (0 ≤ (IntKind.wrap .i64 (v10 + 1)) ∧ (IntKind.wrap .i64 (v10 + 1)) < (v0n : Int)) (nn v0p fun y1_ => (ld eI ((Addr.add y1_ ((IntKind.wrap .i64 (v10 + 1)).toNat * 2)).add 1) fun (y2_ : Int) => (K [(0, .slice v0p v0n v0c), (1, v1), (2, v2), (8, v8), (9, y2_), (12, .slice v12p v12n v12c), (13, v13), (14, v14)])))) := by kernel_rfl
@[go_sem] theorem c73_r9 (v0p : Option Addr) (v0n v0c : Nat) (v1 v2 v8 v9 : Int) (v12p : Option Addr) (v12n v12c : Nat) (v13 v14 : Int) : RP c73 9 [(0, .slice v0p v0n v0c), (1, v1), (2, v2), (8, v8), (9, v9), (12, .slice v12p v12n v12c), (13, v13), (14, v14)] K =
 (K [(0, .slice v0p v0n v0c), (1, v1), (2, v2), (8, v8), (9, v9), (12, .slice v12p v12n v12c), (13, v13), (14, IntKind.wrap .i64 (v14 + 1))]) := by kernel_rfl
@[go_sem] theorem c73_r10 (v2 v8 v9 : Int) : RP c73 10 [(2, v2), (8, v8), (9, v9)] K =
 (K [(6, v8), (7, .int .i64 (if v2 < v9 then v2 else v9))]) := by kernel_rfl
@[go_sem] theorem c73_o : c73.lo 1000000 = [6, 7] := rfl
@[go_sem] theorem c73_e (v6 v7 : Int) : RTp c73 [(6, v6), (7, v7)] k = (k (.tuple #[v6, v7])) := by kernel_rfl
theorem c73_ok : (c73.P.follows .mixedOrders && okc c73 c73.body) = true := by kernel_rfl
theorem c73_fn (hρ : envA 0 args.toList = ρ) (hs : Nat.ble args.size 42 = true) (h : E L (D c73 (.seq (.reg 0) (.seq (.reg 1) (.seq (.seq (.reg 2) (.block 0 (.loop (.seq (.reg 3) (.seq (.cond (.tmp 15) (.skip) (.exit 0)) (.seq (.block 1 (.seq (.reg 4) (.seq (.seq (.reg 5) (.cond (.tmp 22) (.exit 0) (.skip))) (.seq (.reg 6) (.seq (.reg 7) (.cond (.tmp 30) (.reg 8) (.skip))))))) (.reg 9))))))) (.seq (.reg 10) (.ret))))) (fnQ c73 e G) ρ)) : E L (cal e Tryz.prog 73 args G) :=
  d_fn (c := c73) Tryz.func73 (by kernel_rfl) (by kernel_rfl) (by kernel_rfl) c73_ok (by kernel_rfl) (by kernel_rfl) hρ hs h
noncomputable def c74 := cf Tryz.f74 35 [(0, [0]), (1, [0]), (2, [0, 3]), (3, [3, 4, 5]), (4, [3, 5, 13, 14, 15]), (5, [3, 5, 13, 14, 15]), (6, [3, 5, 6, 7, 13, 14, 15]), (7, [3, 5, 6, 7, 13, 14, 15]), (8, [3, 5, 13, 14, 15]), (9, [3])] [(0, [0]), (1, [0, 3]), (2, [3, 4, 5]), (3, [3, 5, 13, 14, 15]), (4, [3, 5, 13, 14, 15, 16]), (5, [3, 5, 6, 7, 13, 14, 15]), (6, [3, 5, 6, 7, 13, 14, 15, 22]), (7, [3, 5, 13, 14, 15]), (8, [3, 5, 13, 14, 15]), (9, [2]), (1000000, [2])] [(7, (true, [(0, 1), (1, 1), (2, 0), (3, 1), (4, 1), (5, 1), (6, 0), (7, 1), (8, 4), (9, 4), (10, 1)]))] []
@[go_sem] theorem c74_i : c74.li 0 = [0] ∧ c74.li 1 = [0] ∧ c74.li 2 = [0, 3] ∧ c74.li 3 = [3, 4, 5] ∧ c74.li 4 = [3, 5, 13, 14, 15] ∧ c74.li 5 = [3, 5, 13, 14, 15] ∧ c74.li 6 = [3, 5, 6, 7, 13, 14, 15] ∧ c74.li 7 = [3, 5, 6, 7, 13, 14, 15] ∧ c74.li 8 = [3, 5, 13, 14, 15] ∧ c74.li 9 = [3] := ⟨rfl, rfl, rfl, rfl, rfl, rfl, rfl, rfl, rfl, rfl⟩
@[go_sem] theorem c74_r0 (v0 : Option Addr) : RP c74 0 [(0, v0)] K =
 (K [(0, v0)]) := by kernel_rfl
@[go_sem] theorem c74_r1 (v0 : Option Addr) : RP c74 1 [(0, v0)] K =
 (K [(0, v0), (3, .slice none 0 0)]) := by kernel_rfl
@[go_sem] theorem c74_r2 (v0 v3p : Option Addr) (v3n v3c : Nat) : RP c74 2 [(0, v0), (3, .slice v3p v3n v3c)] K =
 (cal (eT2 eSl eSl) Tryz.prog 99 #[v0] fun (y1_ : ((Option Addr × Nat × Nat) × (Option Addr × Nat × Nat))) => (K [(3, .slice v3p v3n v3c), (4, .slice y1_.1.1 y1_.1.2.1 y1_.1.2.2), (5, .slice y1_.2.1 y1_.2.2.1 y1_.2.2.2)])) := by kernel_rfl
@[go_sem] theorem c74_r3 (v3p : Option Addr) (v3n v3c : Nat) (v4p : Option Addr) (v4n v4c : Nat) (v5p : Option Addr) (v5n v5c : Nat) : RP c74 3 [(3, .slice v3p v3n v3c), (4, .slice v4p v4n v4c), (5, .slice v5p v5n v5c)] K =
 (K [(3, .slice v3p v3n v3c), (5, .slice v5p v5n v5c), (13, .slice v4p v4n v4c), (14, .int .i64 (v4n : Int)), (15, .int .i64 0)]) := by kernel_rfl
@[go_sem] theorem c74_r4 (v3p : Option Addr) (v3n v3c : Nat) (v5p : Option Addr) (v5n v5c : Nat) (v13p : Option Addr) (v13n v13c : Nat) (v14 v15 : Int) : RP c74 4 [(3, .slice v3p v3n v3c), (5, .slice v5p v5n v5c), (13, .slice v13p v13n v13c), (14, v14), (15, v15)] K =
 (K [(3, .slice v3p v3n v3c), (5, .slice v5p v5n v5c), (13, .slice v13p v13n v13c), (14, v14), (15, v15), (16, decide (v15 < v14))]) := by kernel_rfl
@[go_sem] theorem c74_r5 (v3p : Option Addr) (v3n v3c : Nat) (v5p : Option Addr) (v5n v5c : Nat) (v13p : Option Addr) (v13n v13c : Nat) (v14 v15 : Int) : RP c74 5 [(3, .slice v3p v3n v3c), (5, .slice v5p v5n v5c), (13, .slice v13p v13n v13c), (14, v14), (15, v15)] K =
 (rq (0 ≤ v15 ∧ v15 < v13n) (nn v13p fun y1_ => (ldn e_api_Rec 13 (Addr.add y1_ (v15.toNat * 13)) fun (y2_ : api_Rec) => (nwc #[.int .i64 0, .int .i64 0, .int .i64 0, .int .i64 0, .int .i64 0, str ([] : List UInt8), str ([] : List UInt8), str ([] : List UInt8), .int .i64 0, .slice none 0 0, .slice none 0 0, .int .i64 0, .int .i64 0] 47 fun y3_ => (stl [y2_.Kind, y2_.Txn, y2_.Prev, y2_.Page, y2_.Act, str y2_.Key, str y2_.Old, str y2_.New, y2_.Next, .slice y2_.Images.1 y2_.Images.2.1 y2_.Images.2.2, .slice y2_.Table.1 y2_.Table.2.1 y2_.Table.2.2, y2_.Epoch, y2_.Node] y3_ 0 (K [(3, .slice v3p v3n v3c), (5, .slice v5p v5n v5c), (6, v15), (7, y3_), (13, .slice v13p v13n v13c), (14, v14), (15, v15)])))))) := by kernel_rfl
@[go_sem] theorem c74_r6 (v3p : Option Addr) (v3n v3c : Nat) (v5p : Option Addr) (v5n v5c : Nat) (v6 : Int) (v7 : Addr) (v13p : Option Addr) (v13n v13c : Nat) (v14 v15 : Int) : RP c74 6 [(3, .slice v3p v3n v3c), (5, .slice v5p v5n v5c), (6, v6), (7, v7), (13, .slice v13p v13n v13c), (14, v14), (15, v15)] K =
 (ld eI v7 fun (y1_ : Int) => (K [(3, .slice v3p v3n v3c), (5, .slice v5p v5n v5c), (6, v6), (7, v7), (13, .slice v13p v13n v13c), (14, v14), (15, v15), (22, .bool (y1_ == 10))])) := by kernel_rfl
@[go_sem] theorem c74_r7 (v3p : Option Addr) (v3n v3c : Nat) (v5p : Option Addr) (v5n v5c : Nat) (v6 : Int) (v7 : Addr) (v13p : Option Addr) (v13n v13c : Nat) (v14 v15 : Int) : RP c74 7 [(3, .slice v3p v3n v3c), (5, .slice v5p v5n v5c), (6, v6), (7, v7), (13, .slice v13p v13n v13c), (14, v14), (15, v15)] K =
 (ph fun S0 => (ldq S0 eI (v7.add 11) fun (y1_ : Int) => (rq (0 ≤ v6 ∧ v6 < v5n) (nn v5p fun y2_ => (ldq S0 eI (Addr.add y2_ (v6.toNat * 1)) fun (y3_ : Int) => (nwc #[.int .i64 ((⟨y1_, y3_⟩ : api_Span).Epoch), .int .i64 ((⟨y1_, y3_⟩ : api_Span).Start)] 161 fun y4_ => (val eSl Tryz.prog (oB_append #[137, 137] 137 #[.slice v3p v3n v3c, .slice (some y4_) 1 1]) fun (y5_ : (Option Addr × Nat × Nat)) => (K [(3, .slice y5_.1 y5_.2.1 y5_.2.2), (5, .slice v5p v5n v5c), (13, .slice v13p v13n v13c), (14, v14), (15, v15)])))))))) := by kernel_rfl
@[go_sem] theorem c74_r8 (v3p : Option Addr) (v3n v3c : Nat) (v5p : Option Addr) (v5n v5c : Nat) (v13p : Option Addr) (v13n v13c : Nat) (v14 v15 : Int) : RP c74 8 [(3, .slice v3p v3n v3c), (5, .slice v5p v5n v5c), (13, .slice v13p v13n v13c), (14, v14), (15, v15)] K =
 (K [(3, .slice v3p v3n v3c), (5, .slice v5p v5n v5c), (13, .slice v13p v13n v13c), (14, v14), (15, IntKind.wrap .i64 (v15 + 1))]) := by kernel_rfl
@[go_sem] theorem c74_r9 (v3p : Option Addr) (v3n v3c : Nat) : RP c74 9 [(3, .slice v3p v3n v3c)] K =
 (K [(2, .slice v3p v3n v3c)]) := by kernel_rfl
@[go_sem] theorem c74_o : c74.lo 1000000 = [2] := rfl
@[go_sem] theorem c74_e (v2p : Option Addr) (v2n v2c : Nat) : RTp c74 [(2, .slice v2p v2n v2c)] k = (k (.slice v2p v2n v2c)) := by kernel_rfl
theorem c74_ok : (c74.P.follows .mixedOrders && okc c74 c74.body) = true := by kernel_rfl
theorem c74_fn (hρ : envA 0 args.toList = ρ) (hs : Nat.ble args.size 35 = true) (h : E L (D c74 (.seq (.reg 0) (.seq (.reg 1) (.seq (.reg 2) (.seq (.seq (.reg 3) (.block 0 (.loop (.seq (.reg 4) (.seq (.cond (.tmp 16) (.skip) (.exit 0)) (.seq (.block 1 (.seq (.reg 5) (.seq (.reg 6) (.cond (.tmp 22) (.reg 7) (.skip))))) (.reg 8))))))) (.seq (.reg 9) (.ret)))))) (fnQ c74 e G) ρ)) : E L (cal e Tryz.prog 74 args G) :=
  d_fn (c := c74) Tryz.func74 (by kernel_rfl) (by kernel_rfl) (by kernel_rfl) c74_ok (by kernel_rfl) (by kernel_rfl) hρ hs h
noncomputable def c79 := cf Tryz.f79 22 [(0, [0, 1]), (1, [0, 1]), (2, [0, 1, 5]), (3, [1, 5, 8, 9, 10]), (4, [1, 5, 8, 9, 10]), (5, [1, 5, 7, 8, 9, 10]), (6, [1, 7, 8, 9, 10]), (7, [1, 5, 8, 9, 10]), (8, [5])] [(0, [0, 1]), (1, [0, 1, 5]), (2, [1, 5, 8, 9, 10]), (3, [1, 5, 8, 9, 10, 11]), (4, [1, 5, 7, 8, 9, 10]), (5, [1, 5, 7, 8, 9, 10, 17]), (6, [1, 5, 8, 9, 10]), (7, [1, 5, 8, 9, 10]), (8, [4]), (1000000, [4])] [] []
@[go_sem] theorem c79_i : c79.li 0 = [0, 1] ∧ c79.li 1 = [0, 1] ∧ c79.li 2 = [0, 1, 5] ∧ c79.li 3 = [1, 5, 8, 9, 10] ∧ c79.li 4 = [1, 5, 8, 9, 10] ∧ c79.li 5 = [1, 5, 7, 8, 9, 10] ∧ c79.li 6 = [1, 7, 8, 9, 10] ∧ c79.li 7 = [1, 5, 8, 9, 10] ∧ c79.li 8 = [5] := ⟨rfl, rfl, rfl, rfl, rfl, rfl, rfl, rfl, rfl⟩
@[go_sem] theorem c79_r0 (v0p : Option Addr) (v0n v0c : Nat) (v1 : Int) : RP c79 0 [(0, .slice v0p v0n v0c), (1, v1)] K =
 (K [(0, .slice v0p v0n v0c), (1, v1)]) := by kernel_rfl
@[go_sem] theorem c79_r1 (v0p : Option Addr) (v0n v0c : Nat) (v1 : Int) : RP c79 1 [(0, .slice v0p v0n v0c), (1, v1)] K =
 (K [(0, .slice v0p v0n v0c), (1, v1), (5, .int .i64 0)]) := by kernel_rfl
@[go_sem] theorem c79_r2 (v0p : Option Addr) (v0n v0c : Nat) (v1 v5 : Int) : RP c79 2 [(0, .slice v0p v0n v0c), (1, v1), (5, v5)] K =
 (K [(1, v1), (5, v5), (8, .slice v0p v0n v0c), (9, .int .i64 (v0n : Int)), (10, .int .i64 0)]) := by kernel_rfl
@[go_sem] theorem c79_r3 (v1 v5 : Int) (v8p : Option Addr) (v8n v8c : Nat) (v9 v10 : Int) : RP c79 3 [(1, v1), (5, v5), (8, .slice v8p v8n v8c), (9, v9), (10, v10)] K =
 (K [(1, v1), (5, v5), (8, .slice v8p v8n v8c), (9, v9), (10, v10), (11, decide (v10 < v9))]) := by kernel_rfl
@[go_sem] theorem c79_r4 (v1 v5 : Int) (v8p : Option Addr) (v8n v8c : Nat) (v9 v10 : Int) : RP c79 4 [(1, v1), (5, v5), (8, .slice v8p v8n v8c), (9, v9), (10, v10)] K =
 (rq (0 ≤ v10 ∧ v10 < v8n) (nn v8p fun y1_ => (ldn e_api_Span 2 (Addr.add y1_ (v10.toNat * 2)) fun (y2_ : api_Span) => (nwc #[.int .i64 0, .int .i64 0] 161 fun y3_ => (stl [y2_.Epoch, y2_.Start] y3_ 0 (K [(1, v1), (5, v5), (7, y3_), (8, .slice v8p v8n v8c), (9, v9), (10, v10)])))))) := by kernel_rfl
@[go_sem] theorem c79_r5 (v1 v5 : Int) (v7 : Addr) (v8p : Option Addr) (v8n v8c : Nat) (v9 v10 : Int) : RP c79 5 [(1, v1), (5, v5), (7, v7), (8, .slice v8p v8n v8c), (9, v9), (10, v10)] K =
 (ld eI (v7.add 1) fun (y1_ : Int) => (K [(1, v1), (5, v5), (7, v7), (8, .slice v8p v8n v8c), (9, v9), (10, v10), (17, decide (y1_ < v1))])) := by kernel_rfl
@[go_sem] theorem c79_r6 (v1 : Int) (v7 : Addr) (v8p : Option Addr) (v8n v8c : Nat) (v9 v10 : Int) : RP c79 6 [(1, v1), (7, v7), (8, .slice v8p v8n v8c), (9, v9), (10, v10)] K =
 (ld eI v7 fun (y1_ : Int) => (K [(1, v1), (5, y1_), (8, .slice v8p v8n v8c), (9, v9), (10, v10)])) := by kernel_rfl
@[go_sem] theorem c79_r7 (v1 v5 : Int) (v8p : Option Addr) (v8n v8c : Nat) (v9 v10 : Int) : RP c79 7 [(1, v1), (5, v5), (8, .slice v8p v8n v8c), (9, v9), (10, v10)] K =
 (K [(1, v1), (5, v5), (8, .slice v8p v8n v8c), (9, v9), (10, IntKind.wrap .i64 (v10 + 1))]) := by kernel_rfl
@[go_sem] theorem c79_r8 (v5 : Int) : RP c79 8 [(5, v5)] K =
 (K [(4, v5)]) := by kernel_rfl
@[go_sem] theorem c79_o : c79.lo 1000000 = [4] := rfl
@[go_sem] theorem c79_e (v4 : Int) : RTp c79 [(4, v4)] k = (k (v4)) := by kernel_rfl
theorem c79_ok : (c79.P.follows .mixedOrders && okc c79 c79.body) = true := by kernel_rfl
theorem c79_fn (hρ : envA 0 args.toList = ρ) (hs : Nat.ble args.size 22 = true) (h : E L (D c79 (.seq (.reg 0) (.seq (.reg 1) (.seq (.seq (.reg 2) (.block 0 (.loop (.seq (.reg 3) (.seq (.cond (.tmp 11) (.skip) (.exit 0)) (.seq (.block 1 (.seq (.reg 4) (.seq (.reg 5) (.cond (.tmp 17) (.reg 6) (.skip))))) (.reg 7))))))) (.seq (.reg 8) (.ret))))) (fnQ c79 e G) ρ)) : E L (cal e Tryz.prog 79 args G) :=
  d_fn (c := c79) Tryz.func79 (by kernel_rfl) (by kernel_rfl) (by kernel_rfl) c79_ok (by kernel_rfl) (by kernel_rfl) hρ hs h
end Go.Sp
namespace Go.Sp
open Go Go.Proofs
set_option linter.unusedSimpArgs false
set_option linter.unusedVariables false
set_option maxRecDepth 10000
abbrev cSp (s : api_Span) : List Value := [.int .i64 s.Epoch, .int .i64 s.Start]
theorem cSp_len (s : api_Span) : (cSp s).length = 2 := rfl
def spn : List (Nat × Rc) → List api_Span
  | [] => []
  | x :: r => if x.2.kind = 10 then ⟨x.2.epoch, (x.1 : Int)⟩ :: spn r else spn r
theorem spn_app : ∀ a b, spn (a ++ b) = spn a ++ spn b
  | [], _ => rfl
  | x :: r, b => by
    have := spn_app r b
    rw [List.cons_append]
    simp only [spn]
    split
    · rw [this, List.cons_append]
    · exact this
theorem spn_len : ∀ a, (spn a).length ≤ a.length
  | [] => Nat.le_refl _
  | x :: r => by
    have := spn_len r
    unfold spn
    split <;> simp only [List.length_cons] <;> omega
abbrev cPl (x : Nat × Rc) : List Value := [.int .i64 (x.1 : Int)]
theorem pls_eq : ∀ B : List (Nat × Rc), (B.map fun x => Value.int .i64 (x.1 : Int)) = B.flatMap cPl
  | [] => rfl
  | x :: r => by rw [List.map_cons, List.flatMap_cons, pls_eq r]; rfl
theorem cPl_len (x : Nat × Rc) : (cPl x).length = 1 := rfl
set_option maxHeartbeats 1000000 in
theorem h74 (G : Lg) (sb : Nat) (hl : G.all.length ≤ 1000000) (hB : (recs G.all).length ≤ 1000000) : Fn eSl Tryz.prog 74 #[G.p] [lgp G sb] fun y X => X = [ow 161 2 y ((spn (recs G.all)).flatMap cSp), lgp G sb] := fun L => by
  refine c74_fn rfl rfl ?_
  repeat' (first | (with_reducible first | refine d_seq fun K hK => ?_ | (refine hK _ _ ?_; clear hK K) | (refine SG.p ?_; try intro b)) | refine i_c ?_ ?_ <;> intro hc <;> try simp only [push_cast, seval] at hc | refine i_x ?_ | clear hK K)
  refine i_cal (g25 G sb hl) ?_
  rintro ⟨⟨rp, rn, rc⟩, ⟨pp, pn, pc⟩⟩ X ⟨S, rs, rfl, hRL⟩
  generalize recs G.all = B at *
  dsimp only [List.cons_append, List.nil_append]
  rw [pls_eq]
  refine i_ow (t := 47) (sz := 13) (rp, rn, rc) fun hR => ?_
  refine i_ow (t := 3) (sz := 1) (pp, pn, pc) fun hP => ?_
  obtain rfl : rn = rs.length := hR.len rcl_len (by decide)
  obtain rfl : pn = B.length := hP.len cPl_len (by decide)
  have hn : rs.length = B.length := hRL.n.trans (by simp)
  repeat' (first | (with_reducible first | refine d_seq fun K hK => ?_ | (refine hK _ _ ?_; clear hK K) | (refine SG.p ?_; try intro b)) | refine i_c ?_ ?_ <;> intro hc <;> try simp only [push_cast, seval] at hc | refine i_x ?_ | clear hK K)
  refine r_nilow 161 2 ?_
  refine d_lp [3, 5, 13, 14, 15] (fun t : Nat × SlV => [(3, .slice t.2.1 t.2.2.1 t.2.2.2), (5, .slice pp B.length pc), (13, .slice rp rs.length rc), (14, .int .i64 (rs.length : Int)), (15, .int .i64 (t.1 : Int))])
    (fun t => ow 161 2 t.2 ((spn (B.take t.1)).flatMap cSp) :: ow 47 13 (rp, rs.length, rc) (rs.flatMap rcl) :: ow 3 1 (pp, B.length, pc) (B.flatMap cPl) :: lgp G sb :: L) (fun t => t.1 ≤ B.length ∧ t.2.2.1 ≤ t.1) (fun t => B.length - t.1) (0, (none, 0, 0)) rfl ?_ ⟨by dsimp only; omega, by dsimp only; omega⟩ ?_
  · show Sub (ow 161 2 (none, 0, 0) [] :: ow 47 13 (rp, rs.length, rc) (rs.flatMap rcl) :: ow 3 1 (pp, B.length, pc) (B.flatMap cPl) :: lgp G sb :: L) _
    exact SX.p
  rintro ⟨i, ⟨p, sn, sc⟩⟩ ⟨hi, hp⟩
  dsimp only at hi hp ⊢
  by_cases h8 : i < B.length
  · have hx : B[i]? = some B[i] := List.getElem?_eq_getElem h8
    have hr : rs[i]? = some rs[i] := List.getElem?_eq_getElem (by omega)
    have hc := hRL.g i rs[i] B[i].2 hr (by rw [List.getElem?_map, hx]; rfl)
    have hd : spn (B.take (i + 1)) = spn (B.take i) ++ spn [B[i]] := by rw [List.take_add_one, hx, spn_app]; rfl
    have hk : rs[i].Kind = B[i].2.kind := (congrArg Rc.kind hc.e).symm
    have he : rs[i].Epoch = B[i].2.epoch := (congrArg Rc.epoch hc.e).symm
    have hs1 : spn [B[i]] = if B[i].2.kind = 10 then [⟨B[i].2.epoch, (B[i].1 : Int)⟩] else [] := rfl
    rw [hs1] at hd
    clear hs1 hc
    generalize rs[i] = r at *
    generalize B[i] = x at *
    obtain ⟨ra, rfl⟩ := hR.ptr (by omega)
    obtain ⟨pa, rfl⟩ := hP.ptr (by omega)
    have ei : IntKind.wrap .i64 ((i : Int) + 1) = ((i + 1 : Nat) : Int) := by rw [w64 (by omega) (by omega)]; omega
    repeat' (first | (with_reducible first | refine d_seq fun K hK => ?_ | (refine hK _ _ ?_; clear hK K) | (refine SG.p ?_; try intro b)) | refine i_c ?_ ?_ <;> intro hc <;> try simp only [push_cast, seval] at hc | refine i_x ?_ | clear hK K)
    all_goals try (exfalso; omega)
    refine i_sn (y := r) hR rcl_len hr rfl ?_
    repeat' (first | (with_reducible first | refine d_seq fun K hK => ?_ | (refine hK _ _ ?_; clear hK K) | (refine SG.p ?_; try intro b)) | refine i_c ?_ ?_ <;> intro hc <;> try simp only [push_cast, seval] at hc | refine i_x ?_ | clear hK K)
    · rw [if_pos (by rw [← hk]; assumption)] at hd
      refine r_ph0 ?_
      repeat' (first | (with_reducible first | refine d_seq fun K hK => ?_ | (refine hK _ _ ?_; clear hK K) | (refine SG.p ?_; try intro b)) | refine i_c ?_ ?_ <;> intro hc <;> try simp only [push_cast, seval] at hc | refine i_x ?_ | clear hK K)
      rw [show pa.add i = pa.add (i * 1) by rw [Nat.mul_one]]
      refine r_s0q (e := eI) (y := (x.1 : Int)) hP cPl_len hx AX.p rfl ?_
      repeat' (first | (with_reducible first | refine d_seq fun K hK => ?_ | (refine hK _ _ ?_; clear hK K) | (refine SG.p ?_; try intro b)) | refine i_c ?_ ?_ <;> intro hc <;> try simp only [push_cast, seval] at hc | refine i_x ?_ | clear hK K)
      refine i_app (t := 161) (sz := 2) (m := 1) (news := [.int .i64 r.Epoch, .int .i64 (x.1 : Int)]) (p, sn, sc) 16 (by kernel_rfl) (by decide) rfl rfl (by dsimp only; omega) fun o' ho' _ => ?_
      have e : (spn (B.take i)).flatMap cSp ++ [.int .i64 r.Epoch, .int .i64 (x.1 : Int)] = (spn (B.take (i + 1))).flatMap cSp := by rw [hd, he]; simp
      rw [e]
      repeat' (first | (with_reducible first | refine d_seq fun K hK => ?_ | (refine hK _ _ ?_; clear hK K) | (refine SG.p ?_; try intro b)) | refine i_c ?_ ?_ <;> intro hc <;> try simp only [push_cast, seval] at hc | refine i_x ?_ | clear hK K)
      rw [ei]
      exact i_bk (i + 1, o') rfl ⟨by dsimp only; omega, by dsimp only at ho' ⊢; omega⟩ (by dsimp only; omega)
    · rw [if_neg (by rw [← hk]; assumption), List.append_nil] at hd
      rw [← hd, ei]
      exact i_bk (i + 1, (p, sn, sc)) rfl ⟨by dsimp only; omega, by dsimp only; omega⟩ (by dsimp only; omega)
  · obtain rfl : i = B.length := by omega
    repeat' (first | (with_reducible first | refine d_seq fun K hK => ?_ | (refine hK _ _ ?_; clear hK K) | (refine SG.p ?_; try intro b)) | refine i_c ?_ ?_ <;> intro hc <;> try simp only [push_cast, seval] at hc | refine i_x ?_ | clear hK K)
    all_goals try (exfalso; omega)
    rw [List.take_length]
    exact i_done (e := eSl) (p, sn, sc) [ow 161 2 (p, sn, sc) ((spn B).flatMap cSp), lgp G sb] rfl rfl
def bfr (p : Int) : Int → List api_Span → Int
  | a, [] => a
  | a, s :: r => bfr p (if s.Start < p then s.Epoch else a) r
def nxs (en : Int) : List api_Span → Int
  | [] => en
  | s :: _ => s.Start
def prt (e en : Int) : Int → Int → List api_Span → Int × Int
  | a, p, [] => (a, p)
  | a, p, s :: r => if e < s.Epoch then (a, p) else prt e en s.Epoch (nxs en r) r
section
variable {e : Enc} {L L' R : List HP} {A : HP} {a : Addr} {n c i : Nat} {xs : List api_Span} {x : api_Span} {k : Int → W}
theorem i_d1 (hR : Rs A (some a, n, c) 2 (xs.flatMap cSp)) (hx : xs[i]? = some x) [ha : AX L A L'] (h : E L (k x.Start)) : E L (ld eI ⟨(a.add (i * 2)).block, (a.add (i * 2)).off + 1, none⟩ k) := r_sk (e := eI) (y := x.Start) hR cSp_len hx ha.p rfl rfl h
end
section
variable {A : HP} {t : SlV} {l : List api_Span} (hR : Rs A t 2 (l.flatMap cSp)) (hl : l.length ≤ 1000000)
include hR hl
set_option maxHeartbeats 1000000 in
theorem h79 (p : Int) : Fp eI Tryz.prog 79 #[.slice t.1 t.2.1 t.2.2, .int .i64 p] [A] (bfr p 0 l) := fun L => by
  obtain ⟨sp, sn, sc⟩ := t
  obtain rfl : sn = l.length := hR.len cSp_len (by decide)
  refine c79_fn rfl rfl ?_
  repeat' (first | (with_reducible first | refine d_seq fun K hK => ?_ | (refine hK _ _ ?_; clear hK K) | (refine SG.p ?_; try intro b)) | refine i_c ?_ ?_ <;> intro hc <;> try simp only [push_cast, seval] at hc | refine i_x ?_ | clear hK K)
  refine d_lp [1, 5, 8, 9, 10] (fun t : Nat × Int => [(1, .int .i64 p), (5, .int .i64 t.2), (8, .slice sp l.length sc), (9, .int .i64 (l.length : Int)), (10, .int .i64 (t.1 : Int))])
    (fun _ => A :: L) (fun t => t.1 ≤ l.length ∧ bfr p t.2 (l.drop t.1) = bfr p 0 l) (fun t => l.length - t.1) (0, 0) rfl SX.p ⟨Nat.zero_le _, rfl⟩ ?_
  rintro ⟨i, o⟩ ⟨hi, ho⟩
  dsimp only at hi ho ⊢
  generalize bfr p 0 l = B at *
  by_cases h : i < l.length
  · have hx : l[i]? = some l[i] := List.getElem?_eq_getElem h
    rw [List.drop_eq_getElem_cons h] at ho
    obtain ⟨ad, rfl⟩ := hR.ptr (by omega)
    generalize l[i] = x at *
    have ei : IntKind.wrap .i64 ((i : Int) + 1) = ((i + 1 : Nat) : Int) := by rw [w64 (by omega) (by omega)]; omega
    unfold bfr at ho
    repeat' (first | (with_reducible first | refine d_seq fun K hK => ?_ | (refine hK _ _ ?_; clear hK K) | (refine SG.p ?_; try intro b)) | refine i_c ?_ ?_ <;> intro hc <;> try simp only [push_cast, seval] at hc | refine i_x ?_ | clear hK K)
    all_goals try (exfalso; omega)
    refine i_sn (y := x) hR cSp_len hx rfl ?_
    repeat' (first | (with_reducible first | refine d_seq fun K hK => ?_ | (refine hK _ _ ?_; clear hK K) | (refine SG.p ?_; try intro b)) | refine i_c ?_ ?_ <;> intro hc <;> try simp only [push_cast, seval] at hc | refine i_x ?_ | clear hK K)
    · rw [if_pos (by assumption)] at ho
      rw [ei]
      exact i_bk (i + 1, x.Epoch) rfl ⟨by dsimp only; omega, ho⟩ (by dsimp only; omega)
    · rw [if_neg (by omega)] at ho
      rw [ei]
      exact i_bk (i + 1, o) rfl ⟨by dsimp only; omega, ho⟩ (by dsimp only; omega)
  · rw [List.drop_eq_nil_of_le (by omega)] at ho
    repeat' (first | (with_reducible first | refine d_seq fun K hK => ?_ | (refine hK _ _ ?_; clear hK K) | (refine SG.p ?_; try intro b)) | refine i_c ?_ ?_ <;> intro hc <;> try simp only [push_cast, seval] at hc | refine i_x ?_ | clear hK K)
    all_goals try (exfalso; omega)
    (with_reducible first | apply i_ret0 | apply i_ret2 | apply i_ret3 | apply i_ret); exact rfl
    exact ho
set_option maxHeartbeats 1000000 in
theorem h73 (e en : Int) : Fp (eT2 eI eI) Tryz.prog 73 #[.slice t.1 t.2.1 t.2.2, .int .i64 e, .int .i64 en] [A] ((prt e en 0 1 l).1, if en < (prt e en 0 1 l).2 then en else (prt e en 0 1 l).2) := fun L => by
  obtain ⟨sp, sn, sc⟩ := t
  obtain rfl : sn = l.length := hR.len cSp_len (by decide)
  refine c73_fn rfl rfl ?_
  repeat' (first | (with_reducible first | refine d_seq fun K hK => ?_ | (refine hK _ _ ?_; clear hK K) | (refine SG.p ?_; try intro b)) | refine i_c ?_ ?_ <;> intro hc <;> try simp only [push_cast, seval] at hc | refine i_x ?_ | clear hK K)
  refine d_lp [0, 1, 2, 8, 9, 12, 13, 14] (fun t : Nat × Int × Int => [(0, .slice sp l.length sc), (1, .int .i64 e), (2, .int .i64 en), (8, .int .i64 t.2.1), (9, .int .i64 t.2.2), (12, .slice sp l.length sc), (13, .int .i64 (l.length : Int)), (14, .int .i64 (t.1 : Int))])
    (fun _ => A :: L) (fun t => t.1 ≤ l.length ∧ prt e en t.2.1 t.2.2 (l.drop t.1) = prt e en 0 1 l) (fun t => l.length - t.1) (0, 0, 1) rfl SX.p ⟨Nat.zero_le _, rfl⟩ ?_
  rintro ⟨i, a, p⟩ ⟨hi, ho⟩
  dsimp only at hi ho ⊢
  generalize prt e en 0 1 l = B at *
  by_cases h : i < l.length
  · have hx : l[i]? = some l[i] := List.getElem?_eq_getElem h
    rw [List.drop_eq_getElem_cons h] at ho
    obtain ⟨ad, rfl⟩ := hR.ptr (by omega)
    generalize l[i] = x at *
    have ei : IntKind.wrap .i64 ((i : Int) + 1) = ((i + 1 : Nat) : Int) := by rw [w64 (by omega) (by omega)]; omega
    have el : IntKind.wrap .i64 ((l.length : Int) - 1) = ((l.length - 1 : Nat) : Int) := by rw [w64 (by omega) (by omega)]; omega
    unfold prt at ho
    repeat' (first | (with_reducible first | refine d_seq fun K hK => ?_ | (refine hK _ _ ?_; clear hK K) | (refine SG.p ?_; try intro b)) | refine i_c ?_ ?_ <;> intro hc <;> try simp only [push_cast, seval] at hc | refine i_x ?_ | clear hK K)
    all_goals try (exfalso; omega)
    refine i_sn (y := x) hR cSp_len hx rfl ?_
    repeat' (first | (with_reducible first | refine d_seq fun K hK => ?_ | (refine hK _ _ ?_; clear hK K) | (refine SG.p ?_; try intro b)) | refine i_c ?_ ?_ <;> intro hc <;> try simp only [push_cast, seval] at hc | refine i_x ?_ | clear hK K)
    · rw [if_pos (by assumption)] at ho
      (with_reducible first | apply i_ret0 | apply i_ret2 | apply i_ret3 | apply i_ret); exact rfl
      rw [← ho]
    · rw [if_neg (by omega)] at ho
      rw [el] at *
      have h2 : i + 1 < l.length := by omega
      have hy : l[i + 1]? = some l[i + 1] := List.getElem?_eq_getElem h2
      have hs : nxs en (l.drop (i + 1)) = l[i + 1].Start := by rw [List.drop_eq_getElem_cons h2]; rfl
      rw [hs] at ho
      generalize l[i + 1] = y at *
      rw [ei]
      repeat' (first | (with_reducible first | refine d_seq fun K hK => ?_ | (refine hK _ _ ?_; clear hK K) | (refine SG.p ?_; try intro b)) | refine i_c ?_ ?_ <;> intro hc <;> try simp only [push_cast, seval] at hc | refine i_x ?_ | clear hK K)
      refine i_d1 hR hy ?_
      repeat' (first | (with_reducible first | refine d_seq fun K hK => ?_ | (refine hK _ _ ?_; clear hK K) | (refine SG.p ?_; try intro b)) | refine i_c ?_ ?_ <;> intro hc <;> try simp only [push_cast, seval] at hc | refine i_x ?_ | clear hK K)
      rw [ei]
      exact i_bk (i + 1, x.Epoch, y.Start) rfl ⟨by dsimp only; omega, ho⟩ (by dsimp only; omega)
    · rw [if_neg (by omega)] at ho
      rw [el] at *
      have hs : nxs en (l.drop (i + 1)) = en := by rw [List.drop_eq_nil_of_le (by omega)]; rfl
      rw [hs] at ho
      rw [ei]
      exact i_bk (i + 1, x.Epoch, en) rfl ⟨by dsimp only; omega, ho⟩ (by dsimp only; omega)
  · rw [List.drop_eq_nil_of_le (by omega)] at ho
    repeat' (first | (with_reducible first | refine d_seq fun K hK => ?_ | (refine hK _ _ ?_; clear hK K) | (refine SG.p ?_; try intro b)) | refine i_c ?_ ?_ <;> intro hc <;> try simp only [push_cast, seval] at hc | refine i_x ?_ | clear hK K)
    all_goals try (exfalso; omega)
    (with_reducible first | apply i_ret0 | apply i_ret2 | apply i_ret3 | apply i_ret); exact rfl
    rw [← ho]
    rfl
end
section
variable {L L' R : List HP} {G : W} {t : TypeId} {sz : Nat} {xs : List Value}
end
theorem frame_clean (c : Rc) : c.clean.frame = c.frame := by
  unfold Rc.frame
  rw [clean_idem]
abbrev PS := List (List UInt8 × Rc)
def flat (ps : PS) : List UInt8 := (ps.map (·.1)).flatten
abbrev l1 (q d : Nat) (r : Nat) (ps : PS) : Lg := ⟨q, 1, 30, r, flat ps, d, false⟩
theorem flat_app (a b : PS) : flat (a ++ b) = flat a ++ flat b := by simp [flat]
theorem flat_snoc (ps : PS) (f : List UInt8) (c : Rc) : flat (ps ++ [(f, c)]) = flat ps ++ f := by simp [flat]
theorem Prs.snoc {ps : PS} (h : Prs ps) {f : List UInt8} {c : Rc} (hs : c.short) (hc : c.frame = (f, 0)) : Prs (ps ++ [(f, c)]) := fun x hx => by
  rcases List.mem_append.1 hx with h1 | h1
  · exact h x h1
  · obtain rfl : x = (f, c) := by simpa using h1
    exact ⟨hs, hc⟩
theorem Prs.take {ps : PS} (h : Prs ps) (k : Nat) : Prs (ps.take k) := fun x hx => h x (List.mem_of_mem_take hx)
theorem flat_whole {ps : PS} (h : Prs ps) : whole (flat ps) = (flat ps).length := whole_frs h.frs
theorem flat_take (ps : PS) (k : Nat) : (flat ps).take (flat (ps.take k)).length = flat (ps.take k) := by
  have e : flat ps = flat (ps.take k) ++ flat (ps.drop k) := by rw [← flat_app, List.take_append_drop]
  rw [e, List.take_left' rfl]
theorem flat_le (ps : PS) (k : Nat) : (flat (ps.take k)).length ≤ (flat ps).length := by
  have := congrArg List.length (flat_take ps k)
  rw [List.length_take] at this
  omega
theorem flat_next (ps : PS) {i : Nat} {x : List UInt8 × Rc} (hx : ps[i]? = some x) : (flat (ps.take (i + 1))).length = (flat (ps.take i)).length + x.1.length := by
  rw [List.take_add_one, hx]
  show (flat (ps.take i ++ [x])).length = _
  rw [flat_app, List.length_append]
  simp [flat]
theorem flat_recs {ps : PS} (h : Prs ps) : recs (flat ps) = rl ps 0 := recs_prs h
theorem flat_cons (x : List UInt8 × Rc) (ps : PS) : flat (x :: ps) = x.1 ++ flat ps := by simp [flat]
abbrev siz (ps : PS) (i : Nat) : Nat := (flat (ps.take i)).length
theorem siz_all (ps : PS) : (flat ps).length = siz ps ps.length := by
  unfold siz
  rw [List.take_length]
theorem siz_lt {ps : PS} (h : Prs ps) {i : Nat} : ∀ {j : Nat}, i < j → j ≤ ps.length → siz ps i < siz ps j
  | 0, hij, _ => by omega
  | j + 1, hij, hj => by
    have hx : ps[j]? = some ps[j] := List.getElem?_eq_getElem (by omega)
    have e := flat_next ps hx
    obtain ⟨h1, h2⟩ := h ps[j] (List.getElem_mem _)
    have h7 := frame_len h1 h2
    rcases Nat.lt_or_ge i j with x | x
    · have := siz_lt h x (by omega)
      unfold siz at this ⊢
      omega
    · obtain rfl : i = j := by omega
      unfold siz
      omega
theorem drop_siz (ps : PS) (j : Nat) : (flat ps).drop (siz ps j) = flat (ps.drop j) := by
  have e : flat ps = flat (ps.take j) ++ flat (ps.drop j) := by rw [← flat_app, List.take_append_drop]
  rw [e]
  exact List.drop_left' rfl
def wnt (most : Int) : Bool → List UInt8 → PS → List UInt8
  | _, w, [] => w
  | b, w, x :: r => if b = true ∧ most - (w.length : Int) < (x.1.length : Int) then w else wnt most true (w ++ x.1) r
theorem frl_is (most : Int) : ∀ (r : PS) (s : List UInt8) (d : PS) (K : Nat), Prs r → s = flat (d ++ r) → (∀ x ∈ d, 0 < x.1.length) → r.length < K → frl s most K (flat d).length = (wnt most (!d.isEmpty) (flat d) r, 0)
  | [], s, d, K + 1, _, hs, hd, hK => by
    rw [List.append_nil] at hs
    subst hs
    unfold frl wnt
    rw [opn_nat (Nat.le_refl _), List.drop_length, if_neg opn0_nil, if_neg (by omega), List.take_length]
  | x :: r, s, d, K + 1, hr, hs, hd, hK => by
    obtain ⟨h1, h2⟩ := hr x (by simp)
    have h7 := frame_len h1 h2
    have e : s.drop (flat d).length = x.1 ++ flat r := by
      rw [hs, flat_app, List.drop_left' rfl, flat_cons]
    have et : s.take (flat d).length = flat d := by rw [hs, flat_app]; exact List.take_left' rfl
    have hl : (flat d).length ≤ s.length := by rw [hs, flat_app, List.length_append]; omega
    unfold frl wnt
    rw [opn_nat hl, e, opn0_frame h1 h2]
    dsimp only
    rw [if_pos rfl, et, Int.toNat_natCast]
    have hb : (!d.isEmpty) = true ↔ 0 < (flat d).length := by
      cases d with
      | nil => simp [flat]
      | cons y d =>
        have := hd y (by simp)
        rw [flat_cons, List.length_append]
        simp
        omega
    by_cases hc : (!d.isEmpty) = true ∧ most - ((flat d).length : Int) < (x.1.length : Int)
    · rw [if_pos hc, if_pos ⟨hb.1 hc.1, hc.2⟩]
    · rw [if_neg hc, if_neg (fun y => hc ⟨hb.2 y.1, y.2⟩)]
      have ih := frl_is most r s (d ++ [x]) K (fun y hy => hr y (by simp [hy])) (by rw [hs, List.append_assoc]; rfl) (fun y hy => by
        rcases List.mem_append.1 hy with h | h
        · exact hd y h
        · obtain rfl : y = x := by simpa using h
          omega) (by simp at hK; omega)
      have ef : flat (d ++ [x]) = flat d ++ x.1 := by rw [flat_app]; simp [flat]
      rw [ef, List.length_append] at ih
      rw [ih]
      have hne : (!(d ++ [x]).isEmpty) = true := by cases d <;> rfl
      rw [hne]
theorem frl_any (s : List UInt8) (most : Int) : ∀ (K a : Nat), frl s most K a = ([], 4) ∨ (frl s most K a).2 = 0
  | 0, a => .inr rfl
  | K + 1, a => by
    unfold frl
    split
    · split
      · exact .inr rfl
      · exact frl_any s most K _
    · split
      · exact .inl rfl
      · exact .inr rfl
theorem from_is {G : Lg} {ps : PS} (hall : G.all = flat ps) (h : Prs ps) {m j : Nat} (hd : G.durable = siz ps m) (hm : m ≤ ps.length) (hj : j ≤ m) (most : Int) :
    G.from ((1 + siz ps j : Nat) : Int) most = (wnt (if most < 0 then 0 else most) false [] ((ps.take m).drop j), 0) := by
  have hl : siz ps j ≤ siz ps m := by
    rcases Nat.lt_or_ge j m with x | x
    · exact Nat.le_of_lt (siz_lt h x hm)
    · obtain rfl : j = m := by omega
      exact Nat.le_refl _
  unfold Lg.from
  rw [if_neg (by rw [hd]; omega), hall, hd, flat_take]
  have e1 : (((1 + siz ps j : Nat) : Int) - 1).toNat = siz (ps.take m) j := by
    unfold siz
    rw [List.take_take, show min j m = j by omega]
    omega
  rw [e1, drop_siz]
  have hp : Prs ((ps.take m).drop j) := fun x hx => h x (List.mem_of_mem_take (List.mem_of_mem_drop hx))
  have hlen := frs_len hp.frs
  rw [List.length_map] at hlen
  exact frl_is _ ((ps.take m).drop j) (flat ((ps.take m).drop j)) [] _ hp rfl (fun x hx => by cases hx) (by
    have : (((ps.take m).drop j).map (·.1)).flatten.length = (flat ((ps.take m).drop j)).length := rfl
    omega)
structure Shp where
  q : Nat
  lq : Nat
  epoch : Int
  node : Int
  met : Bool
  next : Int
  acked : Int
  sent : Int
abbrev shp (s : Shp) : HP := ar s.q 62 [.pointer (some ⟨s.lq, 0, none⟩), .int .i64 s.epoch, .int .i64 s.node, .bool s.met, .int .i64 s.next, .int .i64 s.acked, .int .i64 s.sent]
abbrev Shp.p (s : Shp) : Value := .pointer (some ⟨s.q, 0, none⟩)
abbrev shz (q : Nat) : HP := ar q 62 [.pointer none, .int .i64 0, .int .i64 0, .bool false, .int .i64 0, .int .i64 0, .int .i64 0]
abbrev cMs (m : api_Msg) : List Value := [.int .i64 m.Kind, .int .i64 m.From, .int .i64 m.To, .int .i64 m.Epoch, .int .i64 m.Before, .int .i64 m.Start, .int .i64 m.End, .int .i64 m.Until, .int .i64 m.Holder, str m.Text]
theorem h46 (s : Shp) : Fp eB Tryz.prog 46 #[s.p] [shp s] false := fun L => by
  refine c46_fn rfl rfl ?_
  repeat' (first | (with_reducible first | refine d_seq fun K hK => ?_ | (refine hK _ _ ?_; clear hK K) | (refine SG.p ?_; try intro b) | refine SP.p ?_) | refine i_c ?_ ?_ <;> intro hc <;> try simp only [push_cast, seval] at hc | refine i_x ?_ | clear hK K)
  (with_reducible first | apply i_ret0 | apply i_ret2 | apply i_ret3 | apply i_ret); exact rfl
  rfl
theorem h46n : Fp eB Tryz.prog 46 #[.pointer none] [] true := fun L => by
  refine c46_fn rfl rfl ?_
  repeat' (first | (with_reducible first | refine d_seq fun K hK => ?_ | (refine hK _ _ ?_; clear hK K) | (refine SG.p ?_; try intro b) | refine SP.p ?_) | refine i_c ?_ ?_ <;> intro hc <;> try simp only [push_cast, seval] at hc | refine i_x ?_ | clear hK K)
  (with_reducible first | apply i_ret0 | apply i_ret2 | apply i_ret3 | apply i_ret); exact rfl
  rfl
theorem h46z (q : Nat) : Fp eB Tryz.prog 46 #[.pointer (some ⟨q, 0, none⟩)] [shz q] true := fun L => by
  refine c46_fn rfl rfl ?_
  repeat' (first | (with_reducible first | refine d_seq fun K hK => ?_ | (refine hK _ _ ?_; clear hK K) | (refine SG.p ?_; try intro b) | refine SP.p ?_) | refine i_c ?_ ?_ <;> intro hc <;> try simp only [push_cast, seval] at hc | refine i_x ?_ | clear hK K)
  (with_reducible first | apply i_ret0 | apply i_ret2 | apply i_ret3 | apply i_ret); exact rfl
  rfl
theorem h17 (lq : Nat) (epoch : Int) {node : Int} (h : 0 ≤ node ∧ node ≤ 1) : Fn eP Tryz.prog 17 #[.pointer (some ⟨lq, 0, none⟩), .int .i64 epoch, .int .i64 node] [] fun y X => ∃ q, y = some ⟨q, 0, none⟩ ∧ X = [shp ⟨q, lq, epoch, node, false, 0, 0, 0⟩] := fun L => by
  refine c17_fn rfl rfl ?_
  repeat' (first | (with_reducible first | refine d_seq fun K hK => ?_ | (refine hK _ _ ?_; clear hK K) | (refine SG.p ?_; try intro b)) | refine i_c ?_ ?_ <;> intro hc <;> try simp only [push_cast, seval] at hc | refine i_x ?_ | clear hK K)
  all_goals try (exfalso; omega)
  rename Nat => q
  exact i_done (e := eP) (some ⟨q, 0, none⟩) [shp ⟨q, lq, epoch, node, false, 0, 0, 0⟩] rfl ⟨q, rfl, rfl⟩
theorem h17x (lq : Nat) (epoch : Int) {node : Int} (h : node < 0 ∨ 1 < node) : Fp eP Tryz.prog 17 #[.pointer (some ⟨lq, 0, none⟩), .int .i64 epoch, .int .i64 node] [] none := fun L => by
  refine c17_fn rfl rfl ?_
  repeat' (first | (with_reducible first | refine d_seq fun K hK => ?_ | (refine hK _ _ ?_; clear hK K) | (refine SG.p ?_; try intro b)) | refine i_c ?_ ?_ <;> intro hc <;> try simp only [push_cast, seval] at hc | refine i_x ?_ | clear hK K)
  all_goals try (exfalso; omega)
  all_goals
    (with_reducible first | apply i_ret0 | apply i_ret2 | apply i_ret3 | apply i_ret); exact rfl
    rfl
theorem h17n (epoch node : Int) : Fp eP Tryz.prog 17 #[.pointer none, .int .i64 epoch, .int .i64 node] [] none := fun L => by
  refine c17_fn rfl rfl ?_
  repeat' (first | (with_reducible first | refine d_seq fun K hK => ?_ | (refine hK _ _ ?_; clear hK K) | (refine SG.p ?_; try intro b)) | refine i_c ?_ ?_ <;> intro hc <;> try simp only [push_cast, seval] at hc | refine i_x ?_ | clear hK K)
  (with_reducible first | apply i_ret0 | apply i_ret2 | apply i_ret3 | apply i_ret); exact rfl
  rfl
theorem h25n : Fp (eT2 eI eB) Tryz.prog 25 #[.pointer none] [] (0, false) := fun L => by
  refine c25_fn rfl rfl ?_
  repeat' (first | (with_reducible first | refine d_seq fun K hK => ?_ | (refine hK _ _ ?_; clear hK K) | (refine SG.p ?_; try intro b)) | refine i_c ?_ ?_ <;> intro hc <;> try simp only [push_cast, seval] at hc | refine i_x ?_ | clear hK K)
  refine i_clp h46n ?_
  repeat' (first | (with_reducible first | refine d_seq fun K hK => ?_ | (refine hK _ _ ?_; clear hK K) | (refine SG.p ?_; try intro b)) | refine i_c ?_ ?_ <;> intro hc <;> try simp only [push_cast, seval] at hc | refine i_x ?_ | clear hK K)
  all_goals try contradiction
  (with_reducible first | apply i_ret0 | apply i_ret2 | apply i_ret3 | apply i_ret); exact rfl
  rfl
theorem h22n : Fp eI Tryz.prog 22 #[.pointer none] [] 0 := fun L => by
  refine c22_fn rfl rfl ?_
  repeat' (first | (with_reducible first | refine d_seq fun K hK => ?_ | (refine hK _ _ ?_; clear hK K) | (refine SG.p ?_; try intro b)) | refine i_c ?_ ?_ <;> intro hc <;> try simp only [push_cast, seval] at hc | refine i_x ?_ | clear hK K)
  refine i_clp h46n ?_
  repeat' (first | (with_reducible first | refine d_seq fun K hK => ?_ | (refine hK _ _ ?_; clear hK K) | (refine SG.p ?_; try intro b)) | refine i_c ?_ ?_ <;> intro hc <;> try simp only [push_cast, seval] at hc | refine i_x ?_ | clear hK K)
  all_goals try contradiction
  (with_reducible first | apply i_ret0 | apply i_ret2 | apply i_ret3 | apply i_ret); exact rfl
  rfl
theorem h27z (q : Nat) : Fp eI Tryz.prog 27 #[.pointer (some ⟨q, 0, none⟩)] [shz q] 0 := fun L => by
  refine c27_fn rfl rfl ?_
  repeat' (first | (with_reducible first | refine d_seq fun K hK => ?_ | (refine hK _ _ ?_; clear hK K) | (refine SG.p ?_; try intro b)) | refine i_c ?_ ?_ <;> intro hc <;> try simp only [push_cast, seval] at hc | refine i_x ?_ | clear hK K)
  refine i_clp (h46z q) ?_
  repeat' (first | (with_reducible first | refine d_seq fun K hK => ?_ | (refine hK _ _ ?_; clear hK K) | (refine SG.p ?_; try intro b)) | refine i_c ?_ ?_ <;> intro hc <;> try simp only [push_cast, seval] at hc | refine i_x ?_ | clear hK K)
  all_goals try contradiction
  (with_reducible first | apply i_ret0 | apply i_ret2 | apply i_ret3 | apply i_ret); exact rfl
  rfl
theorem h26n : Fp eSl Tryz.prog 26 #[.pointer none] [] (none, 0, 0) := fun L => by
  refine c26_fn rfl rfl ?_
  repeat' (first | (with_reducible first | refine d_seq fun K hK => ?_ | (refine hK _ _ ?_; clear hK K) | (refine SG.p ?_; try intro b)) | refine i_c ?_ ?_ <;> intro hc <;> try simp only [push_cast, seval] at hc | refine i_x ?_ | clear hK K)
  refine i_clp h46n ?_
  repeat' (first | (with_reducible first | refine d_seq fun K hK => ?_ | (refine hK _ _ ?_; clear hK K) | (refine SG.p ?_; try intro b)) | refine i_c ?_ ?_ <;> intro hc <;> try simp only [push_cast, seval] at hc | refine i_x ?_ | clear hK K)
  all_goals try contradiction
  exact i_ret (e := eSl) (x := (none, 0, 0)) rfl rfl
theorem h26z (q : Nat) : Fp eSl Tryz.prog 26 #[.pointer (some ⟨q, 0, none⟩)] [shz q] (none, 0, 0) := fun L => by
  refine c26_fn rfl rfl ?_
  repeat' (first | (with_reducible first | refine d_seq fun K hK => ?_ | (refine hK _ _ ?_; clear hK K) | (refine SG.p ?_; try intro b)) | refine i_c ?_ ?_ <;> intro hc <;> try simp only [push_cast, seval] at hc | refine i_x ?_ | clear hK K)
  refine i_clp (h46z q) ?_
  repeat' (first | (with_reducible first | refine d_seq fun K hK => ?_ | (refine hK _ _ ?_; clear hK K) | (refine SG.p ?_; try intro b)) | refine i_c ?_ ?_ <;> intro hc <;> try simp only [push_cast, seval] at hc | refine i_x ?_ | clear hK K)
  all_goals try contradiction
  exact i_ret (e := eSl) (x := (none, 0, 0)) rfl rfl
theorem h20n (m : api_Msg) (now : Int) : Fp eSl Tryz.prog 20 #[.pointer none, v_api_Msg m, .int .i64 now] [] (none, 0, 0) := fun L => by
  refine c20_fn rfl rfl ?_
  repeat' (first | (with_reducible first | refine d_seq fun K hK => ?_ | (refine hK _ _ ?_; clear hK K) | (refine SG.p ?_; try intro b)) | refine i_c ?_ ?_ <;> intro hc <;> try simp only [push_cast, seval] at hc | refine i_x ?_ | clear hK K)
  refine i_clp h46n ?_
  repeat' (first | (with_reducible first | refine d_seq fun K hK => ?_ | (refine hK _ _ ?_; clear hK K) | (refine SG.p ?_; try intro b) | refine SP.p ?_) | refine i_c ?_ ?_ <;> intro hc <;> try simp only [push_cast, seval] at hc | refine i_x ?_ | clear hK K)
  all_goals try contradiction
  exact i_ret (e := eSl) (x := (none, 0, 0)) rfl rfl
theorem h20z (q : Nat) (m : api_Msg) (now : Int) : Fp eSl Tryz.prog 20 #[.pointer (some ⟨q, 0, none⟩), v_api_Msg m, .int .i64 now] [shz q] (none, 0, 0) := fun L => by
  refine c20_fn rfl rfl ?_
  repeat' (first | (with_reducible first | refine d_seq fun K hK => ?_ | (refine hK _ _ ?_; clear hK K) | (refine SG.p ?_; try intro b)) | refine i_c ?_ ?_ <;> intro hc <;> try simp only [push_cast, seval] at hc | refine i_x ?_ | clear hK K)
  refine i_clp (h46z q) ?_
  repeat' (first | (with_reducible first | refine d_seq fun K hK => ?_ | (refine hK _ _ ?_; clear hK K) | (refine SG.p ?_; try intro b) | refine SP.p ?_) | refine i_c ?_ ?_ <;> intro hc <;> try simp only [push_cast, seval] at hc | refine i_x ?_ | clear hK K)
  all_goals try contradiction
  exact i_ret (e := eSl) (x := (none, 0, 0)) rfl rfl
theorem h51 (p : Option Addr) (n c : Nat) : Fp eSl Tryz.prog 51 #[.slice p n c] [] (p, n, c) := fun L => by
  refine c51_fn rfl rfl ?_
  repeat' (first | (with_reducible first | refine d_seq fun K hK => ?_ | (refine hK _ _ ?_; clear hK K) | (refine SG.p ?_; try intro b)) | refine i_c ?_ ?_ <;> intro hc <;> try simp only [push_cast, seval] at hc | refine i_x ?_ | clear hK K)
  exact i_ret (e := eSl) (x := (p, n, c)) rfl rfl
def pmsg (s : Shp) (G : Lg) (at' : Int) : api_Msg := ⟨2, s.node, IntKind.wrap .i64 (1 - s.node), s.epoch, bfr at' 0 (spn (recs G.all)), at', ((G.durable + 1 : Nat) : Int), 0, 0, (G.from at' 1024).1⟩
abbrev Shp.sn (s : Shp) : Shp := { s with sent := IntKind.wrap .i64 (s.sent + 1) }
theorem from_e (G : Lg) (a m : Int) (h : (G.from a m).2 ≠ 0) : (G.from a m).1 = [] := by
  unfold Lg.from at *
  split
  · rfl
  · rename_i h0
    rw [if_neg h0] at h
    dsimp only at h ⊢
    rcases frl_any ((G.all.take G.durable).drop (a - 1).toNat) (if m < 0 then 0 else m) (((G.all.take G.durable).drop (a - 1).toNat).length + 1) 0 with e | e
    · rw [e]
    · exact absurd e h
set_option maxHeartbeats 1000000 in
theorem h52 (s : Shp) (G : Lg) (sb : Nat) (hq : s.lq = G.q) (hl : G.all.length ≤ 1000000) (hB : (recs G.all).length ≤ 1000000) (hd : G.durable ≤ G.all.length) (a : Int) : Fq e_api_Msg Tryz.prog 52 #[s.p, .int .i64 a] [shp s, lgp G sb] [shp s.sn, lgp G sb] (pmsg s G a) := fun L => by
  obtain ⟨q, lq, ep, nd, mt, nx, ac, se⟩ := s
  obtain rfl : lq = G.q := hq
  have FR := g39 G sb hl hd a 1024 (by unfold wf64; omega)
  have SP := h74 G sb hl hB
  have DU := g29 G sb (by omega)
  have hn := spn_len (recs G.all)
  have fe := from_e G a 1024
  unfold pmsg
  refine c52_fn rfl rfl ?_
  generalize G.from a 1024 = fr at *
  generalize spn (recs G.all) = sp at *
  obtain ⟨t, e⟩ := fr
  dsimp only at fe ⊢
  repeat' (first | (with_reducible first | refine d_seq fun K hK => ?_ | (refine hK _ _ ?_; clear hK K) | (refine SG.p ?_; try intro b)) | refine i_c ?_ ?_ <;> intro hc <;> try simp only [push_cast, seval] at hc | refine i_x ?_ | clear hK K)
  refine i_clp FR ?_
  repeat' (first | (with_reducible first | refine d_seq fun K hK => ?_ | (refine hK _ _ ?_; clear hK K) | (refine SG.p ?_; try intro b)) | refine i_c ?_ ?_ <;> intro hc <;> try simp only [push_cast, seval] at hc | refine i_x ?_ | clear hK K)
  · obtain rfl := fe (by assumption)
    (refine r_ph0 ?_; (repeat' (first | (with_reducible first | refine d_seq fun K hK => ?_ | (refine hK _ _ ?_; clear hK K) | (refine SG.p ?_; try intro b)) | refine i_c ?_ ?_ <;> intro hc <;> try simp only [push_cast, seval] at hc | refine i_x ?_ | clear hK K)); refine i_cal SP ?_; rintro ⟨p, sn, sc⟩ X rfl; dsimp only [List.cons_append, List.nil_append]; refine i_ow (t := 161) (sz := 2) (p, sn, sc) fun hR => ?_; (repeat' (first | (with_reducible first | refine d_seq fun K hK => ?_ | (refine hK _ _ ?_; clear hK K) | (refine SG.p ?_; try intro b)) | refine i_c ?_ ?_ <;> intro hc <;> try simp only [push_cast, seval] at hc | refine i_x ?_ | clear hK K)); refine i_clp (h79 hR (by omega) a) ?_; (repeat' (first | (with_reducible first | refine d_seq fun K hK => ?_ | (refine hK _ _ ?_; clear hK K) | (refine SG.p ?_; try intro b)) | refine i_c ?_ ?_ <;> intro hc <;> try simp only [push_cast, seval] at hc | refine i_x ?_ | clear hK K)); refine i_clp DU ?_; (repeat' (first | (with_reducible first | refine d_seq fun K hK => ?_ | (refine hK _ _ ?_; clear hK K) | (refine SG.p ?_; try intro b)) | refine i_c ?_ ?_ <;> intro hc <;> try simp only [push_cast, seval] at hc | refine i_x ?_ | clear hK K)); refine i_ldn (e := e_api_Msg) (x := ⟨2, nd, IntKind.wrap .i64 (1 - nd), ep, bfr a 0 sp, a, ((G.durable + 1 : Nat) : Int), 0, 0, []⟩) rfl rfl rfl ?_; ((with_reducible first | apply i_ret0 | apply i_ret2 | apply i_ret3 | apply i_ret); exact rfl); rfl)
  · (refine r_ph0 ?_; (repeat' (first | (with_reducible first | refine d_seq fun K hK => ?_ | (refine hK _ _ ?_; clear hK K) | (refine SG.p ?_; try intro b)) | refine i_c ?_ ?_ <;> intro hc <;> try simp only [push_cast, seval] at hc | refine i_x ?_ | clear hK K)); refine i_cal SP ?_; rintro ⟨p, sn, sc⟩ X rfl; dsimp only [List.cons_append, List.nil_append]; refine i_ow (t := 161) (sz := 2) (p, sn, sc) fun hR => ?_; (repeat' (first | (with_reducible first | refine d_seq fun K hK => ?_ | (refine hK _ _ ?_; clear hK K) | (refine SG.p ?_; try intro b)) | refine i_c ?_ ?_ <;> intro hc <;> try simp only [push_cast, seval] at hc | refine i_x ?_ | clear hK K)); refine i_clp (h79 hR (by omega) a) ?_; (repeat' (first | (with_reducible first | refine d_seq fun K hK => ?_ | (refine hK _ _ ?_; clear hK K) | (refine SG.p ?_; try intro b)) | refine i_c ?_ ?_ <;> intro hc <;> try simp only [push_cast, seval] at hc | refine i_x ?_ | clear hK K)); refine i_clp DU ?_; (repeat' (first | (with_reducible first | refine d_seq fun K hK => ?_ | (refine hK _ _ ?_; clear hK K) | (refine SG.p ?_; try intro b)) | refine i_c ?_ ?_ <;> intro hc <;> try simp only [push_cast, seval] at hc | refine i_x ?_ | clear hK K)); refine i_ldn (e := e_api_Msg) (x := ⟨2, nd, IntKind.wrap .i64 (1 - nd), ep, bfr a 0 sp, a, ((G.durable + 1 : Nat) : Int), 0, 0, t⟩) rfl rfl rfl ?_; ((with_reducible first | apply i_ret0 | apply i_ret2 | apply i_ret3 | apply i_ret); exact rfl); rfl)
theorem h26 (s : Shp) (G : Lg) (sb : Nat) (hq : s.lq = G.q) (hl : G.all.length ≤ 1000000) (hB : (recs G.all).length ≤ 1000000) (hd : G.durable ≤ G.all.length) (hm : s.met = false) : Fn eSl Tryz.prog 26 #[s.p] [shp s, lgp G sb] fun y X => ∃ b, y = (some ⟨b, 0, none⟩, 1, 1) ∧ X = [ar b 55 (cMs (pmsg s G ((G.durable + 1 : Nat) : Int))), shp s.sn, lgp G sb] := fun L => by
  have P := h52 s G sb hq hl hB hd ((G.durable + 1 : Nat) : Int)
  have DU := g29 G sb (by omega)
  have N := h46 s
  generalize pmsg s G ((G.durable + 1 : Nat) : Int) = m at *
  obtain ⟨q, lq, ep, nd, mt, nx, ac, se⟩ := s
  obtain rfl : lq = G.q := hq
  obtain rfl : mt = false := hm
  refine c26_fn rfl rfl ?_
  repeat' (first | (with_reducible first | refine d_seq fun K hK => ?_ | (refine hK _ _ ?_; clear hK K) | (refine SG.p ?_; try intro b)) | refine i_c ?_ ?_ <;> intro hc <;> try simp only [push_cast, seval] at hc | refine i_x ?_ | clear hK K)
  refine i_clp N ?_
  repeat' (first | (with_reducible first | refine d_seq fun K hK => ?_ | (refine hK _ _ ?_; clear hK K) | (refine SG.p ?_; try intro b)) | refine i_c ?_ ?_ <;> intro hc <;> try simp only [push_cast, seval] at hc | refine i_x ?_ | clear hK K)
  all_goals try contradiction
  refine i_clp DU ?_
  repeat' (first | (with_reducible first | refine d_seq fun K hK => ?_ | (refine hK _ _ ?_; clear hK K) | (refine SG.p ?_; try intro b)) | refine i_c ?_ ?_ <;> intro hc <;> try simp only [push_cast, seval] at hc | refine i_x ?_ | clear hK K)
  refine i_clq P ?_
  repeat' (first | (with_reducible first | refine d_seq fun K hK => ?_ | (refine hK _ _ ?_; clear hK K) | (refine SG.p ?_; try intro b)) | refine i_c ?_ ?_ <;> intro hc <;> try simp only [push_cast, seval] at hc | refine i_x ?_ | clear hK K)
  rename_i b
  refine i_clp (h51 (some ⟨b, 0, none⟩) 1 1) ?_
  repeat' (first | (with_reducible first | refine d_seq fun K hK => ?_ | (refine hK _ _ ?_; clear hK K) | (refine SG.p ?_; try intro b)) | refine i_c ?_ ?_ <;> intro hc <;> try simp only [push_cast, seval] at hc | refine i_x ?_ | clear hK K)
  exact i_done (e := eSl) (some ⟨b, 0, none⟩, 1, 1) [ar b 55 (cMs m), shp (Shp.sn ⟨q, G.q, ep, nd, false, nx, ac, se⟩), lgp G sb] rfl ⟨b, rfl, rfl⟩
theorem h53 (s : Shp) (G : Lg) (sb : Nat) (hq : s.lq = G.q) (hl : G.all.length ≤ 1000000) (hB : (recs G.all).length ≤ 1000000) (hd : G.durable ≤ G.all.length) : Fq e_api_Msg Tryz.prog 53 #[s.p] [shp s, lgp G sb] [shp s.sn, lgp G sb] (pmsg s G s.next) := fun L => by
  have P := h52 s G sb hq hl hB hd s.next
  generalize pmsg s G s.next = m at *
  refine c53_fn rfl rfl ?_
  repeat' (first | (with_reducible first | refine d_seq fun K hK => ?_ | (refine hK _ _ ?_; clear hK K) | (refine SG.p ?_; try intro b)) | refine i_c ?_ ?_ <;> intro hc <;> try simp only [push_cast, seval] at hc | refine i_x ?_ | clear hK K)
  refine i_clq P ?_
  repeat' (first | (with_reducible first | refine d_seq fun K hK => ?_ | (refine hK _ _ ?_; clear hK K) | (refine SG.p ?_; try intro b)) | refine i_c ?_ ?_ <;> intro hc <;> try simp only [push_cast, seval] at hc | refine i_x ?_ | clear hK K)
  (with_reducible first | apply i_ret0 | apply i_ret2 | apply i_ret3 | apply i_ret); exact rfl
  rfl
theorem h47 (s : Shp) (G : Lg) (sb : Nat) (hq : s.lq = G.q) (hl : G.all.length ≤ 1000000) (hB : (recs G.all).length ≤ 1000000) (hd : G.durable ≤ G.all.length) (m : api_Msg)
    (h1 : (prt m.Before ((G.durable + 1 : Nat) : Int) 0 1 (spn (recs G.all))).1 = m.Before) (h2 : m.End ≤ (prt m.Before ((G.durable + 1 : Nat) : Int) 0 1 (spn (recs G.all))).2) (h3 : m.End ≤ ((G.durable + 1 : Nat) : Int)) :
    Fn eSl Tryz.prog 47 #[s.p, v_api_Msg m] [shp s, lgp G sb] fun y X => ∃ b, y = (some ⟨b, 0, none⟩, 1, 1) ∧ X = [ar b 55 (cMs (pmsg s G m.End)), shp { s with met := true, next := m.End, sent := IntKind.wrap .i64 (s.sent + 1) }, lgp G sb] := fun L => by
  have P := h53 { s with met := true, next := m.End } G sb hq hl hB hd
  have DU := g29 G sb (by omega)
  have SN := h74 G sb hl hB
  have hn := spn_len (recs G.all)
  have e : pmsg { s with met := true, next := m.End } G m.End = pmsg s G m.End := rfl
  dsimp only at P
  rw [e] at P
  clear e
  generalize pmsg s G m.End = M at *
  generalize spn (recs G.all) = sp at *
  obtain ⟨q, lq, ep, nd, mt, nx, ac, se⟩ := s
  obtain rfl : lq = G.q := hq
  refine c47_fn rfl rfl ?_
  repeat' (first | (with_reducible first | refine d_seq fun K hK => ?_ | (refine hK _ _ ?_; clear hK K) | (refine SG.p ?_; try intro b)) | refine i_c ?_ ?_ <;> intro hc <;> try simp only [push_cast, seval] at hc | refine i_x ?_ | clear hK K)
  refine r_ph0 ?_
  repeat' (first | (with_reducible first | refine d_seq fun K hK => ?_ | (refine hK _ _ ?_; clear hK K) | (refine SG.p ?_; try intro b)) | refine i_c ?_ ?_ <;> intro hc <;> try simp only [push_cast, seval] at hc | refine i_x ?_ | clear hK K)
  refine i_cal SN ?_
  rintro ⟨p, sn, sc⟩ X rfl
  dsimp only [List.cons_append, List.nil_append]
  refine i_ow (t := 161) (sz := 2) (p, sn, sc) fun hR => ?_
  repeat' (first | (with_reducible first | refine d_seq fun K hK => ?_ | (refine hK _ _ ?_; clear hK K) | (refine SG.p ?_; try intro b)) | refine i_c ?_ ?_ <;> intro hc <;> try simp only [push_cast, seval] at hc | refine i_x ?_ | clear hK K)
  refine i_clp DU ?_
  repeat' (first | (with_reducible first | refine d_seq fun K hK => ?_ | (refine hK _ _ ?_; clear hK K) | (refine SG.p ?_; try intro b)) | refine i_c ?_ ?_ <;> intro hc <;> try simp only [push_cast, seval] at hc | refine i_x ?_ | clear hK K)
  refine i_clp (h73 hR (by omega) m.Before ((G.durable + 1 : Nat) : Int)) ?_
  rw [h1]
  have h4 : ¬ (if ((G.durable + 1 : Nat) : Int) < (prt m.Before ((G.durable + 1 : Nat) : Int) 0 1 sp).2 then ((G.durable + 1 : Nat) : Int) else (prt m.Before ((G.durable + 1 : Nat) : Int) 0 1 sp).2) < m.End := by
    split <;> omega
  generalize (if ((G.durable + 1 : Nat) : Int) < (prt m.Before ((G.durable + 1 : Nat) : Int) 0 1 sp).2 then ((G.durable + 1 : Nat) : Int) else (prt m.Before ((G.durable + 1 : Nat) : Int) 0 1 sp).2) = z at *
  repeat' (first | (with_reducible first | refine d_seq fun K hK => ?_ | (refine hK _ _ ?_; clear hK K) | (refine SG.p ?_; try intro b)) | refine i_c ?_ ?_ <;> intro hc <;> try simp only [push_cast, seval] at hc | refine i_x ?_ | clear hK K)
  all_goals try contradiction
  all_goals try (exfalso; omega)
  refine r_ph [ar b 55 (cMs m)] SX.p ?_
  repeat' (first | (with_reducible first | refine d_seq fun K hK => ?_ | (refine hK _ _ ?_; clear hK K) | (refine SG.p ?_; try intro b)) | refine i_c ?_ ?_ <;> intro hc <;> try simp only [push_cast, seval] at hc | refine i_x ?_ | clear hK K)
  refine i_clq P ?_
  repeat' (first | (with_reducible first | refine d_seq fun K hK => ?_ | (refine hK _ _ ?_; clear hK K) | (refine SG.p ?_; try intro b)) | refine i_c ?_ ?_ <;> intro hc <;> try simp only [push_cast, seval] at hc | refine i_x ?_ | clear hK K)
  rename_i b
  refine i_clp (h51 (some ⟨b, 0, none⟩) 1 1) ?_
  repeat' (first | (with_reducible first | refine d_seq fun K hK => ?_ | (refine hK _ _ ?_; clear hK K) | (refine SG.p ?_; try intro b)) | refine i_c ?_ ?_ <;> intro hc <;> try simp only [push_cast, seval] at hc | refine i_x ?_ | clear hK K)
  exact i_done (e := eSl) (some ⟨b, 0, none⟩, 1, 1) [ar b 55 (cMs M), shp ⟨q, G.q, ep, nd, true, m.End, ac, IntKind.wrap .i64 (se + 1)⟩, lgp G sb] rfl ⟨b, rfl, rfl⟩
end Go.Sp
namespace Go.Sp
open Go
set_option maxRecDepth 100000
set_option linter.unusedVariables false
open Go.Proofs
variable (K : Env → W) (k : Value → W) {e : Enc} {args : Array Value} {G : e.α → W} {L : List HP} {ρ : Env}
attribute [local instance] cI cB cP cA
noncomputable def c15 := cf Tryz.f15 49 [(0, [0, 1]), (1, [0, 1]), (2, [0, 1, 5, 6]), (3, []), (4, [0, 1, 5]), (5, [0, 1, 7, 8]), (6, []), (7, [0, 1, 7]), (8, [0, 1, 7, 9]), (9, [0, 1, 7, 9]), (10, [0, 1, 7, 9]), (11, [7])] [(0, [0, 1]), (1, [0, 1, 5, 6]), (2, [0, 1, 5, 19]), (3, [4]), (4, [0, 1, 7, 8]), (5, [0, 1, 7, 30]), (6, [4]), (7, [0, 1, 7, 9]), (8, [0, 1, 7, 9, 39]), (9, [0, 1, 7, 9]), (10, [0, 1, 7, 9]), (11, [4]), (1000000, [4])] [] []
@[go_sem] theorem c15_i : c15.li 0 = [0, 1] ∧ c15.li 1 = [0, 1] ∧ c15.li 2 = [0, 1, 5, 6] ∧ c15.li 3 = [] ∧ c15.li 4 = [0, 1, 5] ∧ c15.li 5 = [0, 1, 7, 8] ∧ c15.li 6 = [] ∧ c15.li 7 = [0, 1, 7] ∧ c15.li 8 = [0, 1, 7, 9] ∧ c15.li 9 = [0, 1, 7, 9] ∧ c15.li 10 = [0, 1, 7, 9] ∧ c15.li 11 = [7] := ⟨rfl, rfl, rfl, rfl, rfl, rfl, rfl, rfl, rfl, rfl, rfl, rfl⟩
@[go_sem] theorem c15_r0 (v0p : Option Addr) (v0n v0c : Nat) (v1 : Int) : RP c15 0 [(0, .slice v0p v0n v0c), (1, v1)] K =
 (K [(0, .slice v0p v0n v0c), (1, v1)]) := by kernel_rfl
@[go_sem] theorem c15_r1 (v0p : Option Addr) (v0n v0c : Nat) (v1 : Int) : RP c15 1 [(0, .slice v0p v0n v0c), (1, v1)] K =
 (cal (eT2 eP eI) Tryz.prog 6 #[.int .i64 200] fun (y1_ : ((Option Addr) × Int)) => (K [(0, .slice v0p v0n v0c), (1, v1), (5, y1_.1), (6, y1_.2)])) := by kernel_rfl
@[go_sem] theorem c15_r2 (v0p : Option Addr) (v0n v0c : Nat) (v1 : Int) (v5 : Option Addr) (v6 : Int) : RP c15 2 [(0, .slice v0p v0n v0c), (1, v1), (5, v5), (6, v6)] K =
 (cnd (v6 != 0) (K [(0, .slice v0p v0n v0c), (1, v1), (5, v5), (19, true)]) (K [(0, .slice v0p v0n v0c), (1, v1), (5, v5), (19, .bool (v5.isNone))])) := by kernel_rfl
@[go_sem] theorem c15_r3 : RP c15 3 [] K =
 (K [(4, .pointer none)]) := by kernel_rfl
@[go_sem] theorem c15_r4 (v0p : Option Addr) (v0n v0c : Nat) (v1 : Int) (v5 : Option Addr) : RP c15 4 [(0, .slice v0p v0n v0c), (1, v1), (5, v5)] K =
 (cal (eT2 eP eI) Tryz.prog 7 #[v5, .int .i64 0, .int .i64 200, .int .i64 1] fun (y1_ : ((Option Addr) × Int)) => (K [(0, .slice v0p v0n v0c), (1, v1), (7, y1_.1), (8, y1_.2)])) := by kernel_rfl
@[go_sem] theorem c15_r5 (v0p : Option Addr) (v0n v0c : Nat) (v1 : Int) (v7 : Option Addr) (v8 : Int) : RP c15 5 [(0, .slice v0p v0n v0c), (1, v1), (7, v7), (8, v8)] K =
 (cnd (v8 != 0) (K [(0, .slice v0p v0n v0c), (1, v1), (7, v7), (30, true)]) (K [(0, .slice v0p v0n v0c), (1, v1), (7, v7), (30, .bool (v7.isNone))])) := by kernel_rfl
@[go_sem] theorem c15_r6 : RP c15 6 [] K =
 (K [(4, .pointer none)]) := by kernel_rfl
@[go_sem] theorem c15_r7 (v0p : Option Addr) (v0n v0c : Nat) (v1 : Int) (v7 : Option Addr) : RP c15 7 [(0, .slice v0p v0n v0c), (1, v1), (7, v7)] K =
 (K [(0, .slice v0p v0n v0c), (1, v1), (7, v7), (9, .int .i64 0)]) := by kernel_rfl
@[go_sem] theorem c15_r8 (v0p : Option Addr) (v0n v0c : Nat) (v1 : Int) (v7 : Option Addr) (v9 : Int) : RP c15 8 [(0, .slice v0p v0n v0c), (1, v1), (7, v7), (9, v9)] K =
 (cnd (decide (v9 < v0n)) (K [(0, .slice v0p v0n v0c), (1, v1), (7, v7), (9, v9), (39, decide (v9 < v1))]) (K [(0, .slice v0p v0n v0c), (1, v1), (7, v7), (9, v9), (39, false)])) := by kernel_rfl
@[go_sem] theorem c15_r9 (v0p : Option Addr) (v0n v0c : Nat) (v1 : Int) (v7 : Option Addr) (v9 : Int) : RP c15 9 [(0, .slice v0p v0n v0c), (1, v1), (7, v7), (9, v9)] K =
 (K [(0, .slice v0p v0n v0c), (1, v1), (7, v7), (9, IntKind.wrap .i64 (v9 + 1))]) := by kernel_rfl
@[go_sem] theorem c15_r10 (v0p : Option Addr) (v0n v0c : Nat) (v1 : Int) (v7 : Option Addr) (v9 : Int) : RP c15 10 [(0, .slice v0p v0n v0c), (1, v1), (7, v7), (9, v9)] K =
 (rq (0 ≤ v9 ∧ v9 < v0n) (nn v0p fun y1_ => (ldn e_api_Rec 13 (Addr.add y1_ (v9.toNat * 13)) fun (y2_ : api_Rec) => (cal (eT2 eI eI) Tryz.prog 32 #[v7, v_api_Rec y2_] fun (y3_ : (Int × Int)) => (K [(0, .slice v0p v0n v0c), (1, v1), (7, v7), (9, v9)]))))) := by kernel_rfl
@[go_sem] theorem c15_r11 (v7 : Option Addr) : RP c15 11 [(7, v7)] K =
 (K [(4, v7)]) := by kernel_rfl
@[go_sem] theorem c15_o : c15.lo 1000000 = [4] := rfl
@[go_sem] theorem c15_e (v4 : Option Addr) : RTp c15 [(4, v4)] k = (k (v4)) := by kernel_rfl
theorem c15_ok : (c15.P.follows .mixedOrders && okc c15 c15.body) = true := by kernel_rfl
theorem c15_fn (hρ : envA 0 args.toList = ρ) (hs : Nat.ble args.size 49 = true) (h : E L (D c15 (.seq (.reg 0) (.seq (.reg 1) (.seq (.seq (.reg 2) (.cond (.tmp 19) (.seq (.reg 3) (.ret)) (.skip))) (.seq (.reg 4) (.seq (.seq (.reg 5) (.cond (.tmp 30) (.seq (.reg 6) (.ret)) (.skip))) (.seq (.seq (.reg 7) (.block 0 (.loop (.seq (.seq (.reg 8) (.cond (.tmp 39) (.skip) (.exit 0))) (.seq (.block 1 (.reg 10)) (.reg 9)))))) (.seq (.reg 11) (.ret)))))))) (fnQ c15 e G) ρ)) : E L (cal e Tryz.prog 15 args G) :=
  d_fn (c := c15) Tryz.func15 (by kernel_rfl) (by kernel_rfl) (by kernel_rfl) c15_ok (by kernel_rfl) (by kernel_rfl) hρ hs h
end Go.Sp
namespace Go.Sp
open Go
set_option maxRecDepth 100000
set_option linter.unusedVariables false
open Go.Proofs
variable (K : Env → W) (k : Value → W) {e : Enc} {args : Array Value} {G : e.α → W} {L : List HP} {ρ : Env}
attribute [local instance] cI cB cP cA
noncomputable def c24 := cf Tryz.f24 47 [(0, []), (1, []), (2, [1]), (3, []), (4, [1]), (5, [1, 2]), (6, [1, 3])] [(0, []), (1, [1]), (2, [1, 13]), (3, [0]), (4, [1, 2]), (5, [1, 3]), (6, [0]), (1000000, [0])] [(6, (true, [(0, 1), (1, 1), (2, 1), (3, 1), (4, 1), (5, 1), (6, 1), (7, 0), (8, 1), (9, 1), (10, 1), (11, 1), (12, 1), (13, 1), (14, 0), (15, 1), (16, 1), (17, 1), (18, 1), (19, 1), (20, 1), (21, 0), (22, 1), (23, 1), (24, 2), (25, 1), (26, 1), (27, 1), (28, 1)]))] []
@[go_sem] theorem c24_i : c24.li 0 = [] ∧ c24.li 1 = [] ∧ c24.li 2 = [1] ∧ c24.li 3 = [] ∧ c24.li 4 = [1] ∧ c24.li 5 = [1, 2] ∧ c24.li 6 = [1, 3] := ⟨rfl, rfl, rfl, rfl, rfl, rfl, rfl⟩
@[go_sem] theorem c24_r0 : RP c24 0 [] K =
 (K []) := by kernel_rfl
@[go_sem] theorem c24_r1 : RP c24 1 [] K =
 (nwc #[.int .i64 ((⟨(10 : Int), (0 : Int), (0 : Int), (0 : Int), (0 : Int), ([] : List UInt8), ([] : List UInt8), ([] : List UInt8), (0 : Int), (none, 0, 0), (none, 0, 0), (1 : Int), (0 : Int)⟩ : api_Rec).Kind), .int .i64 ((⟨(10 : Int), (0 : Int), (0 : Int), (0 : Int), (0 : Int), ([] : List UInt8), ([] : List UInt8), ([] : List UInt8), (0 : Int), (none, 0, 0), (none, 0, 0), (1 : Int), (0 : Int)⟩ : api_Rec).Txn), .int .i64 ((⟨(10 : Int), (0 : Int), (0 : Int), (0 : Int), (0 : Int), ([] : List UInt8), ([] : List UInt8), ([] : List UInt8), (0 : Int), (none, 0, 0), (none, 0, 0), (1 : Int), (0 : Int)⟩ : api_Rec).Prev), .int .i64 ((⟨(10 : Int), (0 : Int), (0 : Int), (0 : Int), (0 : Int), ([] : List UInt8), ([] : List UInt8), ([] : List UInt8), (0 : Int), (none, 0, 0), (none, 0, 0), (1 : Int), (0 : Int)⟩ : api_Rec).Page), .int .i64 ((⟨(10 : Int), (0 : Int), (0 : Int), (0 : Int), (0 : Int), ([] : List UInt8), ([] : List UInt8), ([] : List UInt8), (0 : Int), (none, 0, 0), (none, 0, 0), (1 : Int), (0 : Int)⟩ : api_Rec).Act), str ((⟨(10 : Int), (0 : Int), (0 : Int), (0 : Int), (0 : Int), ([] : List UInt8), ([] : List UInt8), ([] : List UInt8), (0 : Int), (none, 0, 0), (none, 0, 0), (1 : Int), (0 : Int)⟩ : api_Rec).Key), str ((⟨(10 : Int), (0 : Int), (0 : Int), (0 : Int), (0 : Int), ([] : List UInt8), ([] : List UInt8), ([] : List UInt8), (0 : Int), (none, 0, 0), (none, 0, 0), (1 : Int), (0 : Int)⟩ : api_Rec).Old), str ((⟨(10 : Int), (0 : Int), (0 : Int), (0 : Int), (0 : Int), ([] : List UInt8), ([] : List UInt8), ([] : List UInt8), (0 : Int), (none, 0, 0), (none, 0, 0), (1 : Int), (0 : Int)⟩ : api_Rec).New), .int .i64 ((⟨(10 : Int), (0 : Int), (0 : Int), (0 : Int), (0 : Int), ([] : List UInt8), ([] : List UInt8), ([] : List UInt8), (0 : Int), (none, 0, 0), (none, 0, 0), (1 : Int), (0 : Int)⟩ : api_Rec).Next), .slice (((⟨(10 : Int), (0 : Int), (0 : Int), (0 : Int), (0 : Int), ([] : List UInt8), ([] : List UInt8), ([] : List UInt8), (0 : Int), (none, 0, 0), (none, 0, 0), (1 : Int), (0 : Int)⟩ : api_Rec).Images).1) (((⟨(10 : Int), (0 : Int), (0 : Int), (0 : Int), (0 : Int), ([] : List UInt8), ([] : List UInt8), ([] : List UInt8), (0 : Int), (none, 0, 0), (none, 0, 0), (1 : Int), (0 : Int)⟩ : api_Rec).Images).2.1) (((⟨(10 : Int), (0 : Int), (0 : Int), (0 : Int), (0 : Int), ([] : List UInt8), ([] : List UInt8), ([] : List UInt8), (0 : Int), (none, 0, 0), (none, 0, 0), (1 : Int), (0 : Int)⟩ : api_Rec).Images).2.2), .slice (((⟨(10 : Int), (0 : Int), (0 : Int), (0 : Int), (0 : Int), ([] : List UInt8), ([] : List UInt8), ([] : List UInt8), (0 : Int), (none, 0, 0), (none, 0, 0), (1 : Int), (0 : Int)⟩ : api_Rec).Table).1) (((⟨(10 : Int), (0 : Int), (0 : Int), (0 : Int), (0 : Int), ([] : List UInt8), ([] : List UInt8), ([] : List UInt8), (0 : Int), (none, 0, 0), (none, 0, 0), (1 : Int), (0 : Int)⟩ : api_Rec).Table).2.1) (((⟨(10 : Int), (0 : Int), (0 : Int), (0 : Int), (0 : Int), ([] : List UInt8), ([] : List UInt8), ([] : List UInt8), (0 : Int), (none, 0, 0), (none, 0, 0), (1 : Int), (0 : Int)⟩ : api_Rec).Table).2.2), .int .i64 ((⟨(10 : Int), (0 : Int), (0 : Int), (0 : Int), (0 : Int), ([] : List UInt8), ([] : List UInt8), ([] : List UInt8), (0 : Int), (none, 0, 0), (none, 0, 0), (1 : Int), (0 : Int)⟩ : api_Rec).Epoch), .int .i64 ((⟨(10 : Int), (0 : Int), (0 : Int), (0 : Int), (0 : Int), ([] : List UInt8), ([] : List UInt8), ([] : List UInt8), (0 : Int), (none, 0, 0), (none, 0, 0), (1 : Int), (0 : Int)⟩ : api_Rec).Node)] 47 fun y1_ => (cal eP Tryz.prog 15 #[.slice (some y1_) 1 1, .int .i64 1] fun (y2_ : Option Addr) => (K [(1, y2_)]))) := by kernel_rfl
@[go_sem] theorem c24_r2 (v1 : Option Addr) : RP c24 2 [(1, v1)] K =
 (cnd (v1.isNone) (K [(1, v1), (13, true)]) (cal eI Tryz.prog 16 #[v1] fun (y1_ : Int) => (K [(1, v1), (13, .bool (y1_ != 0))]))) := by kernel_rfl
@[go_sem] theorem c24_r3 : RP c24 3 [] K =
 (K [(0, false)]) := by kernel_rfl
@[go_sem] theorem c24_r4 (v1 : Option Addr) : RP c24 4 [(1, v1)] K =
 (cal eP Tryz.prog 17 #[v1, .int .i64 1, .int .i64 0] fun (y1_ : Option Addr) => (K [(1, v1), (2, y1_)])) := by kernel_rfl
@[go_sem] theorem c24_r5 (v1 v2 : Option Addr) : RP c24 5 [(1, v1), (2, v2)] K =
 (cal eSl Tryz.prog 20 #[v2, v_api_Msg (⟨(1 : Int), (1 : Int), (0 : Int), (0 : Int), (0 : Int), (0 : Int), (1 : Int), (0 : Int), (0 : Int), ([] : List UInt8)⟩ : api_Msg), .int .i64 0] fun (y1_ : (Option Addr × Nat × Nat)) => (K [(1, v1), (3, .slice y1_.1 y1_.2.1 y1_.2.2)])) := by kernel_rfl
@[go_sem] theorem c24_r6 (v1 v3p : Option Addr) (v3n v3c : Nat) : RP c24 6 [(1, v1), (3, .slice v3p v3n v3c)] K =
 (ph fun S0 => (cnd ((v3n : Int) == 1) (rq (0 ≤ (0 : Int) ∧ (0 : Int) < (v3n : Int)) (nn v3p fun y1_ => (ldq S0 eI (Addr.add y1_ 0) fun (y2_ : Int) => (cnd (y2_ == 2) (rq (0 ≤ (0 : Int) ∧ (0 : Int) < (v3n : Int)) (nn v3p fun y3_ => (ldq S0 eI ((Addr.add y3_ 0).add 5) fun (y4_ : Int) => (cnd (y4_ == 1) (rq (0 ≤ (0 : Int) ∧ (0 : Int) < (v3n : Int)) (nn v3p fun y5_ => (ldq S0 eS ((Addr.add y5_ 0).add 9) fun (y6_ : List UInt8) => (cal eI Tryz.prog 18 #[v1] fun (y7_ : Int) => (kpn S0 fun S1 => (K [(0, .bool ((y6_.length : Int) == (IntKind.wrap .i64 (y7_ - 1))))])))))) (kpn S0 fun S2 => (K [(0, false)])))))) (kpn S0 fun S3 => (K [(0, false)])))))) (kpn S0 fun S4 => (K [(0, false)])))) := by kernel_rfl
@[go_sem] theorem c24_o : c24.lo 1000000 = [0] := rfl
@[go_sem] theorem c24_e (v0 : Bool) : RTp c24 [(0, v0)] k = (k (v0)) := by kernel_rfl
theorem c24_ok : (c24.P.follows .mixedOrders && okc c24 c24.body) = true := by kernel_rfl
theorem c24_fn (hρ : envA 0 args.toList = ρ) (hs : Nat.ble args.size 47 = true) (h : E L (D c24 (.seq (.reg 0) (.seq (.reg 1) (.seq (.seq (.reg 2) (.cond (.tmp 13) (.seq (.reg 3) (.ret)) (.skip))) (.seq (.reg 4) (.seq (.reg 5) (.seq (.reg 6) (.ret))))))) (fnQ c24 e G) ρ)) : E L (cal e Tryz.prog 24 args G) :=
  d_fn (c := c24) Tryz.func24 (by kernel_rfl) (by kernel_rfl) (by kernel_rfl) c24_ok (by kernel_rfl) (by kernel_rfl) hρ hs h
end Go.Sp
namespace Go.Sp
open Go
set_option maxRecDepth 100000
set_option linter.unusedVariables false
open Go.Proofs
variable (K : Env → W) (k : Value → W) {e : Enc} {args : Array Value} {G : e.α → W} {L : List HP} {ρ : Env}
attribute [local instance] cI cB cP cA
noncomputable def c5 := cf Tryz.f5 88 [(0, [0, 1, 2]), (1, [0, 2, 4]), (2, [0, 2, 4, 7]), (3, [0, 2, 4, 7, 8]), (4, [0, 2, 4, 7, 8, 9]), (5, [0, 2, 4, 7, 8, 9, 10]), (6, [0, 2, 4, 7, 8, 9, 10, 11, 12])] [(0, [0, 2, 4]), (1, [0, 2, 4, 7]), (2, [0, 2, 4, 7, 8]), (3, [0, 2, 4, 7, 8, 9]), (4, [0, 2, 4, 7, 8, 9, 10]), (5, [0, 2, 4, 7, 8, 9, 10, 11, 12]), (6, [6]), (1000000, [6])] [(6, (false, [(0, 1), (1, 1), (2, 1), (3, 1), (4, 3), (5, 1), (6, 1), (7, 1), (8, 1), (9, 1), (10, 1), (11, 1), (12, 1), (13, 1), (14, 1), (15, 1), (16, 1), (17, 1), (18, 1), (19, 1), (20, 0), (21, 1), (24, 0), (25, 1), (29, 1), (36, 1), (41, 1), (22, 2), (23, 1), (26, 4), (27, 1), (28, 1), (30, 4), (31, 1), (32, 1), (33, 4), (34, 1), (35, 1), (37, 4), (38, 1), (39, 4), (40, 1), (42, 1), (43, 1), (44, 1), (45, 1), (46, 1), (47, 1), (48, 1), (49, 1), (50, 1), (51, 1), (52, 1), (53, 1), (54, 1), (55, 1), (56, 1), (57, 1), (58, 4), (59, 1), (60, 1), (61, 1), (62, 1), (63, 1), (64, 4), (65, 1), (66, 1)]))] []
@[go_sem] theorem c5_i : c5.li 0 = [0, 1, 2] ∧ c5.li 1 = [0, 2, 4] ∧ c5.li 2 = [0, 2, 4, 7] ∧ c5.li 3 = [0, 2, 4, 7, 8] ∧ c5.li 4 = [0, 2, 4, 7, 8, 9] ∧ c5.li 5 = [0, 2, 4, 7, 8, 9, 10] ∧ c5.li 6 = [0, 2, 4, 7, 8, 9, 10, 11, 12] := ⟨rfl, rfl, rfl, rfl, rfl, rfl, rfl⟩
@[go_sem] theorem c5_r0 (v0 : Int) (v1 : api_Msg) (v2 : Int) : RP c5 0 [(0, v0), (1, v_api_Msg v1), (2, v2)] K =
 (nwc #[v1.Kind, v1.From, v1.To, v1.Epoch, v1.Before, v1.Start, v1.End, v1.Until, v1.Holder, str v1.Text] 55 fun y1_ => (K [(0, v0), (2, v2), (4, y1_)])) := by kernel_rfl
@[go_sem] theorem c5_r1 (v0 v2 : Int) (v4 : Addr) : RP c5 1 [(0, v0), (2, v2), (4, v4)] K =
 (cal eP Tryz.prog 15 #[.slice none 0 0, .int .i64 0] fun (y1_ : Option Addr) => (K [(0, v0), (2, v2), (4, v4), (7, y1_)])) := by kernel_rfl
@[go_sem] theorem c5_r2 (v0 v2 : Int) (v4 : Addr) (v7 : Option Addr) : RP c5 2 [(0, v0), (2, v2), (4, v4), (7, v7)] K =
 (cal eP Tryz.prog 17 #[v7, .int .i64 1, v0] fun (y1_ : Option Addr) => (K [(0, v0), (2, v2), (4, v4), (7, v7), (8, y1_)])) := by kernel_rfl
@[go_sem] theorem c5_r3 (v0 v2 : Int) (v4 : Addr) (v7 v8 : Option Addr) : RP c5 3 [(0, v0), (2, v2), (4, v4), (7, v7), (8, v8)] K =
 (K [(0, v0), (2, v2), (4, v4), (7, v7), (8, v8), (9, .pointer none)]) := by kernel_rfl
@[go_sem] theorem c5_r4 (v0 v2 : Int) (v4 : Addr) (v7 v8 v9 : Option Addr) : RP c5 4 [(0, v0), (2, v2), (4, v4), (7, v7), (8, v8), (9, v9)] K =
 (nwc #[.pointer none, .int .i64 0, .int .i64 0, false, .int .i64 0, .int .i64 0, .int .i64 0] 62 fun y1_ => (K [(0, v0), (2, v2), (4, v4), (7, v7), (8, v8), (9, v9), (10, y1_)])) := by kernel_rfl
@[go_sem] theorem c5_r5 (v0 v2 : Int) (v4 : Addr) (v7 v8 v9 : Option Addr) (v10 : Addr) : RP c5 5 [(0, v0), (2, v2), (4, v4), (7, v7), (8, v8), (9, v9), (10, v10)] K =
 (cal (eT2 eI eB) Tryz.prog 25 #[v9] fun (y1_ : (Int × Bool)) => (K [(0, v0), (2, v2), (4, v4), (7, v7), (8, v8), (9, v9), (10, v10), (11, y1_.1), (12, y1_.2)])) := by kernel_rfl
@[go_sem] theorem c5_r6 (v0 v2 : Int) (v4 : Addr) (v7 v8 v9 : Option Addr) (v10 : Addr) (v11 : Int) (v12 : Bool) : RP c5 6 [(0, v0), (2, v2), (4, v4), (7, v7), (8, v8), (9, v9), (10, v10), (11, v11), (12, v12)] K =
 (cnd (!v7.isNone) (cal eP Tryz.prog 17 #[.pointer none, .int .i64 1, v0] fun (y1_ : Option Addr) => (ph fun S1 => (cnd (y1_.isNone) (cnd (v0 == 0) (cnd ((!v8.isNone) == true) (ldnq S1 e_api_Msg 10 v4 fun (y2_ : api_Msg) => (ldnq S1 e_api_Msg 10 v4 fun (y3_ : api_Msg) => (cal eSl Tryz.prog 20 #[v9, v_api_Msg y2_, v2] fun (y4_ : (Option Addr × Nat × Nat)) => (kpn S1 fun S2 => (cal eSl Tryz.prog 20 #[v10, v_api_Msg y3_, v2] fun (y5_ : (Option Addr × Nat × Nat)) => (cal eSl Tryz.prog 26 #[v9] fun (y6_ : (Option Addr × Nat × Nat)) => (cal eSl Tryz.prog 26 #[v10] fun (y7_ : (Option Addr × Nat × Nat)) => (cal eI Tryz.prog 22 #[v9] fun (y8_ : Int) => (cal eI Tryz.prog 27 #[v10] fun (y9_ : Int) => (cnd ((IntKind.wrap .i64 ((IntKind.wrap .i64 ((IntKind.wrap .i64 ((IntKind.wrap .i64 ((IntKind.wrap .i64 ((IntKind.wrap .i64 ((y4_.2.1 : Int) + (y5_.2.1 : Int))) + (y6_.2.1 : Int))) + (y7_.2.1 : Int))) + y8_)) + y9_)) + v11)) == 0) (cnd (!v12) (cnd (decide (v0 < 0)) (cal eB Tryz.prog 24 #[] fun (y10_ : Bool) => (K [(6, y10_)])) (cnd (decide (1 < v0)) (cal eB Tryz.prog 24 #[] fun (y11_ : Bool) => (K [(6, y11_)])) (cal eSl Tryz.prog 26 #[v8] fun (y12_ : (Option Addr × Nat × Nat)) => (cnd ((y12_.2.1 : Int) == 1) (cal eB Tryz.prog 24 #[] fun (y13_ : Bool) => (K [(6, y13_)])) (K [(6, false)]))))) (K [(6, false)])) (K [(6, false)]))))))))))) (kpn S1 fun S3 => (K [(6, false)]))) (cnd ((!v8.isNone) == (v0 == 1)) (ldnq S1 e_api_Msg 10 v4 fun (y14_ : api_Msg) => (ldnq S1 e_api_Msg 10 v4 fun (y15_ : api_Msg) => (cal eSl Tryz.prog 20 #[v9, v_api_Msg y14_, v2] fun (y16_ : (Option Addr × Nat × Nat)) => (kpn S1 fun S4 => (cal eSl Tryz.prog 20 #[v10, v_api_Msg y15_, v2] fun (y17_ : (Option Addr × Nat × Nat)) => (cal eSl Tryz.prog 26 #[v9] fun (y18_ : (Option Addr × Nat × Nat)) => (cal eSl Tryz.prog 26 #[v10] fun (y19_ : (Option Addr × Nat × Nat)) => (cal eI Tryz.prog 22 #[v9] fun (y20_ : Int) => (cal eI Tryz.prog 27 #[v10] fun (y21_ : Int) => (cnd ((IntKind.wrap .i64 ((IntKind.wrap .i64 ((IntKind.wrap .i64 ((IntKind.wrap .i64 ((IntKind.wrap .i64 ((IntKind.wrap .i64 ((y16_.2.1 : Int) + (y17_.2.1 : Int))) + (y18_.2.1 : Int))) + (y19_.2.1 : Int))) + y20_)) + y21_)) + v11)) == 0) (cnd (!v12) (cnd (decide (v0 < 0)) (cal eB Tryz.prog 24 #[] fun (y22_ : Bool) => (K [(6, y22_)])) (cnd (decide (1 < v0)) (cal eB Tryz.prog 24 #[] fun (y23_ : Bool) => (K [(6, y23_)])) (cal eSl Tryz.prog 26 #[v8] fun (y24_ : (Option Addr × Nat × Nat)) => (cnd ((y24_.2.1 : Int) == 1) (cal eB Tryz.prog 24 #[] fun (y25_ : Bool) => (K [(6, y25_)])) (K [(6, false)]))))) (K [(6, false)])) (K [(6, false)]))))))))))) (kpn S1 fun S5 => (K [(6, false)])))) (kpn S1 fun S6 => (K [(6, false)]))))) (ph fun S7 => (kpn S7 fun S8 => (K [(6, false)])))) := by kernel_rfl
@[go_sem] theorem c5_o : c5.lo 1000000 = [6] := rfl
@[go_sem] theorem c5_e (v6 : Bool) : RTp c5 [(6, v6)] k = (k (v6)) := by kernel_rfl
theorem c5_ok : (c5.P.follows .mixedOrders && okc c5 c5.body) = true := by kernel_rfl
theorem c5_fn (hρ : envA 0 args.toList = ρ) (hs : Nat.ble args.size 88 = true) (h : E L (D c5 (.seq (.reg 0) (.seq (.reg 1) (.seq (.reg 2) (.seq (.reg 3) (.seq (.reg 4) (.seq (.reg 5) (.seq (.reg 6) (.ret)))))))) (fnQ c5 e G) ρ)) : E L (cal e Tryz.prog 5 args G) :=
  d_fn (c := c5) Tryz.func5 (by kernel_rfl) (by kernel_rfl) (by kernel_rfl) c5_ok (by kernel_rfl) (by kernel_rfl) hρ hs h
end Go.Sp
namespace Go.Sp
open Go Go.Proofs
set_option linter.unusedSimpArgs false
set_option linter.unusedVariables false
set_option maxRecDepth 10000
theorem h20h (s : Shp) (G : Lg) (sb : Nat) (hq : s.lq = G.q) (hl : G.all.length ≤ 1000000) (hB : (recs G.all).length ≤ 1000000) (hd : G.durable ≤ G.all.length) (m : api_Msg) (now : Int) (hk : m.Kind = 1) (hf : m.From = IntKind.wrap .i64 (1 - s.node))
    (h1 : (prt m.Before ((G.durable + 1 : Nat) : Int) 0 1 (spn (recs G.all))).1 = m.Before) (h2 : m.End ≤ (prt m.Before ((G.durable + 1 : Nat) : Int) 0 1 (spn (recs G.all))).2) (h3 : m.End ≤ ((G.durable + 1 : Nat) : Int)) :
    Fn eSl Tryz.prog 20 #[s.p, v_api_Msg m, .int .i64 now] [shp s, lgp G sb] fun y X => ∃ b, y = (some ⟨b, 0, none⟩, 1, 1) ∧ X = [ar b 55 (cMs (pmsg s G m.End)), shp { s with met := true, next := m.End, sent := IntKind.wrap .i64 (s.sent + 1) }, lgp G sb] := fun L => by
  have P := h47 s G sb hq hl hB hd m h1 h2 h3
  have N := h46 s
  generalize pmsg s G m.End = M at *
  clear h1 h2
  obtain ⟨k, fr, tt, ep, be, sta, en, un, ho, tx⟩ := m
  obtain rfl : k = 1 := hk
  obtain rfl : fr = _ := hf
  refine c20_fn rfl rfl ?_
  repeat' (first | (with_reducible first | refine d_seq fun K hK => ?_ | (refine hK _ _ ?_; clear hK K) | (refine SG.p ?_; try intro b)) | refine i_c ?_ ?_ <;> intro hc <;> try simp only [push_cast, seval] at hc | refine i_x ?_ | clear hK K)
  refine i_clp N ?_
  repeat' (first | (with_reducible first | refine d_seq fun K hK => ?_ | (refine hK _ _ ?_; clear hK K) | (refine SG.p ?_; try intro b) | refine SP.p ?_) | refine i_c ?_ ?_ <;> intro hc <;> try simp only [push_cast, seval] at hc | refine i_x ?_ | clear hK K)
  all_goals try contradiction
  refine i_ldn (e := e_api_Msg) (x := ⟨1, IntKind.wrap .i64 (1 - s.node), tt, ep, be, sta, en, un, ho, tx⟩) rfl rfl rfl ?_
  refine i_cal P ?_
  rintro y X ⟨b, rfl, rfl⟩
  dsimp only [List.cons_append, List.nil_append]
  repeat' (first | (with_reducible first | refine d_seq fun K hK => ?_ | (refine hK _ _ ?_; clear hK K) | (refine SG.p ?_; try intro b)) | refine i_c ?_ ?_ <;> intro hc <;> try simp only [push_cast, seval] at hc | refine i_x ?_ | clear hK K)
  exact i_done (e := eSl) (some ⟨b, 0, none⟩, 1, 1) [ar b 55 (cMs M), shp { s with met := true, next := en, sent := IntKind.wrap .i64 (s.sent + 1) }, lgp G sb] rfl ⟨b, rfl, rfl⟩
def apl (G : Lg) : List Rc → Lg
  | [] => G
  | c :: r => apl (G.append c).2 r
theorem append_q (G : Lg) (c : Rc) : (G.append c).2.q = G.q := by
  unfold Lg.append Lg.add
  split
  · rfl
  split
  · split <;> rfl
  · rfl
theorem apl_app (G : Lg) : ∀ (a b : List Rc), apl G (a ++ b) = apl (apl G a) b := by
  intro a
  induction a generalizing G with
  | nil => intro b; rfl
  | cons c r ih => intro b; exact ih _ b
theorem apl_q : ∀ (cs : List Rc) (G : Lg), (apl G cs).q = G.q
  | [], _ => rfl
  | c :: r, G => (apl_q r _).trans (append_q G c)
abbrev lg0 (q : Nat) : Lg := ⟨q, 0, 200, 1, [], 0, false⟩
set_option maxHeartbeats 1000000 in
theorem h15n : Fn eP Tryz.prog 15 #[.slice none 0 0, .int .i64 0] [] fun y X => ∃ (q sb : Nat) (Y : Dk) (ρ : Nat → Nat), y = some ⟨q, 0, none⟩ ∧ X = [lgp (lg0 q) sb, dk Y] ∧ Wi Y sb 200 (lg0 q) ρ ∧ Y.es = [] := fun L => by
  refine c15_fn rfl rfl ?_
  repeat' (first | (with_reducible first | refine d_seq fun K hK => ?_ | (refine hK _ _ ?_; clear hK K) | (refine SG.p ?_; try intro b)) | refine i_c ?_ ?_ <;> intro hc <;> try simp only [push_cast, seval] at hc | refine i_x ?_ | clear hK K)
  refine i_cal (F25 200 (by decide) (by decide)) ?_
  rintro y X ⟨sb, bb, mb, rfl, rfl⟩
  have hc0 : (Dk.new sb bb mb 200).calm sb 200 := Dk.calm.new (by decide) (by decide)
  have hz : ∀ m, m < 200 → at4 ((Dk.new sb bb mb 200).get ((0 + m : Nat) : Int)) = 0 := fun m hm => by rw [new_get (by omega)]; exact at4_nil
  generalize Dk.new sb bb mb 200 = Z at *
  repeat' (first | (with_reducible first | refine d_seq fun K hK => ?_ | (refine hK _ _ ?_; clear hK K) | (refine SG.p ?_; try intro b)) | refine i_c ?_ ?_ <;> intro hc <;> try simp only [push_cast, seval] at hc | refine i_x ?_ | clear hK K)
  all_goals try contradiction
  refine i_cal (wopen0 hc0 hz (by decide) (by decide) (by decide) (by decide : 1 ≤ 1) (by decide)) ?_
  rintro y X ⟨q, Y, ρ, rfl, rfl, hW, hE⟩
  dsimp only [List.cons_append, List.nil_append]
  repeat' (first | (with_reducible first | refine d_seq fun K hK => ?_ | (refine hK _ _ ?_; clear hK K) | (refine SG.p ?_; try intro b)) | refine i_c ?_ ?_ <;> intro hc <;> try simp only [push_cast, seval] at hc | refine i_x ?_ | clear hK K)
  all_goals try contradiction
  refine d_lp [0, 1, 7, 9] (fun _ : Unit => [(0, .slice none 0 0), (1, .int .i64 0), (7, .pointer (some ⟨q, 0, none⟩)), (9, .int .i64 0)])
    (fun _ => lgp (lg0 q) sb :: dk Y :: L) (fun _ => True) (fun _ => 0) () rfl SX.p trivial ?_
  intro _ _
  repeat' (first | (with_reducible first | refine d_seq fun K hK => ?_ | (refine hK _ _ ?_; clear hK K) | (refine SG.p ?_; try intro b)) | refine i_c ?_ ?_ <;> intro hc <;> try simp only [push_cast, seval] at hc | refine i_x ?_ | clear hK K)
  all_goals try (exfalso; omega)
  all_goals exact i_done (e := eP) (some ⟨q, 0, none⟩) [lgp (lg0 q) sb, dk Y] rfl ⟨q, sb, Y, ρ, rfl, rfl, hW, hE⟩
set_option maxHeartbeats 2000000 in
theorem h15 {A S : HP} {t : SlV} {rs : List api_Rec} {cs : List Rc} (hR : Rs A t 13 (rs.flatMap rcl)) (hC : RL S rs cs) (hn : rs.length ≤ 1000000) (k : Nat) : Fn eP Tryz.prog 15 #[.slice t.1 t.2.1 t.2.2, .int .i64 (k : Int)] [A, S] fun y X => ∃ (q sb : Nat) (Y : Dk) (ρ : Nat → Nat), y = some ⟨q, 0, none⟩ ∧ X = [lgp (apl (lg0 q) (cs.take k)) sb, dk Y, A, S] ∧ Wi Y sb 200 (apl (lg0 q) (cs.take k)) ρ ∧ Y.es = [] := fun L => by
  obtain ⟨sp, sn, sc⟩ := t
  obtain rfl : sn = rs.length := hR.len rcl_len (by decide)
  have hcn := hC.n
  refine c15_fn rfl rfl ?_
  repeat' (first | (with_reducible first | refine d_seq fun K hK => ?_ | (refine hK _ _ ?_; clear hK K) | (refine SG.p ?_; try intro b)) | refine i_c ?_ ?_ <;> intro hc <;> try simp only [push_cast, seval] at hc | refine i_x ?_ | clear hK K)
  refine i_cal (F25 200 (by decide) (by decide)) ?_
  rintro y X ⟨sb, bb, mb, rfl, rfl⟩
  have hc0 : (Dk.new sb bb mb 200).calm sb 200 := Dk.calm.new (by decide) (by decide)
  have hz : ∀ m, m < 200 → at4 ((Dk.new sb bb mb 200).get ((0 + m : Nat) : Int)) = 0 := fun m hm => by rw [new_get (by omega)]; exact at4_nil
  generalize Dk.new sb bb mb 200 = Z at *
  repeat' (first | (with_reducible first | refine d_seq fun K hK => ?_ | (refine hK _ _ ?_; clear hK K) | (refine SG.p ?_; try intro b)) | refine i_c ?_ ?_ <;> intro hc <;> try simp only [push_cast, seval] at hc | refine i_x ?_ | clear hK K)
  all_goals try contradiction
  refine i_cal (wopen0 hc0 hz (by decide) (by decide) (by decide) (by decide : 1 ≤ 1) (by decide)) ?_
  rintro y X ⟨q, Y, ρ, rfl, rfl, hW, hE⟩
  dsimp only [List.cons_append, List.nil_append]
  repeat' (first | (with_reducible first | refine d_seq fun K hK => ?_ | (refine hK _ _ ?_; clear hK K) | (refine SG.p ?_; try intro b)) | refine i_c ?_ ?_ <;> intro hc <;> try simp only [push_cast, seval] at hc | refine i_x ?_ | clear hK K)
  all_goals try contradiction
  refine d_lp [0, 1, 7, 9] (fun i : Nat => [(0, .slice sp rs.length sc), (1, .int .i64 (k : Int)), (7, .pointer (some ⟨q, 0, none⟩)), (9, .int .i64 (i : Int))])
    (fun i => lgp (apl (lg0 q) (cs.take i)) sb :: dk Y :: A :: S :: L) (fun i => i ≤ rs.length ∧ i ≤ k ∧ Wi Y sb 200 (apl (lg0 q) (cs.take i)) ρ) (fun i => rs.length - i) 0 rfl ?_ ⟨Nat.zero_le _, Nat.zero_le _, hW⟩ ?_
  · show Sub (lgp (lg0 q) sb :: dk Y :: A :: S :: L) _
    exact SX.p
  rintro i ⟨hi, hk, hWi⟩
  by_cases h : i < rs.length ∧ i < k
  · have hx : rs[i]? = some rs[i] := List.getElem?_eq_getElem h.1
    have hy : cs[i]? = some (cs[i]'(by omega)) := List.getElem?_eq_getElem (by omega)
    have hr := hC.g i _ _ hx hy
    have he : apl (lg0 q) (cs.take (i + 1)) = ((apl (lg0 q) (cs.take i)).append (cs[i]'(by omega))).2 := by
      rw [List.take_add_one, hy, apl_app]
      rfl
    generalize cs[i]'(by omega) = c at *
    generalize rs[i] = r at *
    obtain ⟨ad, rfl⟩ := hR.ptr (by omega)
    have AP := wappend hWi S r c hr
    have hW2 := hWi.app c
    have hpq := apl_q (cs.take i) (lg0 q)
    rw [← he] at AP hW2
    unfold Lg.p at AP
    rw [hpq] at AP
    have ei : IntKind.wrap .i64 ((i : Int) + 1) = ((i + 1 : Nat) : Int) := by rw [w64 (by omega) (by omega)]; omega
    repeat' (first | (with_reducible first | refine d_seq fun K hK => ?_ | (refine hK _ _ ?_; clear hK K) | (refine SG.p ?_; try intro b)) | refine i_c ?_ ?_ <;> intro hc <;> try simp only [push_cast, seval] at hc | refine i_x ?_ | clear hK K)
    all_goals try (exfalso; omega)
    refine i_sn (y := r) hR rcl_len hx rfl ?_
    refine i_clq AP ?_
    repeat' (first | (with_reducible first | refine d_seq fun K hK => ?_ | (refine hK _ _ ?_; clear hK K) | (refine SG.p ?_; try intro b)) | refine i_c ?_ ?_ <;> intro hc <;> try simp only [push_cast, seval] at hc | refine i_x ?_ | clear hK K)
    rw [ei]
    exact i_bk (i + 1) rfl ⟨by omega, by omega, hW2⟩ (by omega)
  · have he : cs.take i = cs.take k := by
      rcases Nat.lt_or_ge i k with x | x
      · rw [List.take_of_length_le (by omega), List.take_of_length_le (by omega)]
      · rw [show i = k by omega]
    rw [he] at hWi ⊢
    repeat' (first | (with_reducible first | refine d_seq fun K hK => ?_ | (refine hK _ _ ?_; clear hK K) | (refine SG.p ?_; try intro b)) | refine i_c ?_ ?_ <;> intro hc <;> try simp only [push_cast, seval] at hc | refine i_x ?_ | clear hK K)
    all_goals try (exfalso; omega)
    all_goals exact i_done (e := eP) (some ⟨q, 0, none⟩) [lgp (apl (lg0 q) (cs.take k)) sb, dk Y, A, S] rfl ⟨q, sb, Y, ρ, rfl, rfl, hWi, hE⟩
abbrev epR : api_Rec := ⟨10, 0, 0, 0, 0, [], [], [], 0, (none, 0, 0), (none, 0, 0), 1, 0⟩
abbrev epC : Rc := { Rc.z 10 with epoch := 1 }
theorem ep_at (A : HP) : RcAt A epR epC := ⟨rfl, Rs_nil, Rs_nil, by simp [epC, Rc.z], by simp [epC, Rc.z]⟩
theorem ep_frame : ∃ f, epC.frame = (f, 0) ∧ f.length = 12 := by
  have hc : epC.clean = epC := rfl
  have p1 : fitN 10 1 := ⟨by decide, by decide⟩
  have p4 : fitN 1 4 := ⟨by decide, by decide⟩
  have p0 : fitN 0 1 := ⟨by decide, by decide⟩
  have hb : epC.body = (lowb 10 1 ++ lowb 1 4 ++ lowb 0 1, 0) := by
    have e : epC.body = bfin (layN (layN (layN ([], 0) 10 1) 1 4) 0 1) 0 := rfl
    rw [e, layN_go p1, layN_go p4, layN_go p0]
    unfold bfin
    rw [if_pos rfl, if_pos rfl, if_neg (by simp only [List.length_append, lowb_len, List.length_nil]; omega)]
    simp
  refine ⟨_, by unfold Rc.frame; rw [hc, hb, if_pos rfl], ?_⟩
  simp only [List.length_append, lowb_len]
theorem epC_short : epC.short := ⟨by simp [epC, Rc.z], by simp [epC, Rc.z]⟩
theorem ep_log (q : Nat) {f : List UInt8} (hf : epC.frame = (f, 0)) (hl : f.length = 12) : apl (lg0 q) ([epC].take 1) = ⟨q, 0, 200, 1, f, 0, false⟩ := by
  show ((lg0 q).append epC).2 = _
  rw [append_is rfl, hf, if_pos rfl, if_pos (by simp [hl])]
  rfl
set_option maxHeartbeats 2000000 in
theorem h24 : Fp eB Tryz.prog 24 #[] [] true := fun L => by
  obtain ⟨f, hf, hl⟩ := ep_frame
  refine c24_fn rfl rfl ?_
  repeat' (first | (with_reducible first | refine d_seq fun K hK => ?_ | (refine hK _ _ ?_; clear hK K) | (refine SG.p ?_; try intro b)) | refine i_c ?_ ?_ <;> intro hc <;> try simp only [push_cast, seval] at hc | refine i_x ?_ | clear hK K)
  refine r_nilow 161 2 ?_
  have hR : Rs (ar b 47 (rcl epR)) (some ⟨b, 0, none⟩, 1, 1) 13 ([epR].flatMap rcl) := by
    have := Rs_ar (b := b) (t := 47) (c := 1) (m := 1) (sz := 13) (cs := rcl epR) rfl
    simpa using this
  have hC : RL (ow 161 2 (none, 0, 0) []) [epR] [epC] := ⟨rfl, fun i r c h1 h2 => by
    rcases i with _ | i
    · simp only [List.getElem?_cons_zero, Option.some.injEq] at h1 h2
      subst h1 h2
      exact ep_at _
    · cases h1⟩
  refine i_cal (h15 hR hC (by decide) 1) ?_
  rintro y X ⟨q, sb, Y, ρ, rfl, rfl, hW, hE⟩
  rw [ep_log q hf hl] at *
  dsimp only [List.cons_append, List.nil_append]
  obtain ⟨Y', ρ', FL, hW', _⟩ := wflush hW
  repeat' (first | (with_reducible first | refine d_seq fun K hK => ?_ | (refine hK _ _ ?_; clear hK K) | (refine SG.p ?_; try intro b)) | refine i_c ?_ ?_ <;> intro hc <;> try simp only [push_cast, seval] at hc | refine i_x ?_ | clear hK K)
  all_goals try contradiction
  refine i_clq FL ?_
  repeat' (first | (with_reducible first | refine d_seq fun K hK => ?_ | (refine hK _ _ ?_; clear hK K) | (refine SG.p ?_; try intro b)) | refine i_c ?_ ?_ <;> intro hc <;> try simp only [push_cast, seval] at hc | refine i_x ?_ | clear hK K)
  all_goals try contradiction
  have hP : Prs [(f, epC)] := fun x hx => by
    obtain rfl : x = (f, epC) := by simpa using hx
    exact ⟨epC_short, hf⟩
  have hfl : flat [(f, epC)] = f := by simp [flat]
  have hrec : recs f = [(1, epC)] := by
    have := flat_recs hP
    rw [hfl] at this
    exact this
  refine i_cal (h17 q 1 (node := 0) (by decide)) ?_
  rintro y X ⟨sq, rfl, rfl⟩
  dsimp only [List.cons_append, List.nil_append]
  repeat' (first | (with_reducible first | refine d_seq fun K hK => ?_ | (refine hK _ _ ?_; clear hK K) | (refine SG.p ?_; try intro b)) | refine i_c ?_ ?_ <;> intro hc <;> try simp only [push_cast, seval] at hc | refine i_x ?_ | clear hK K)
  have EN := g28 { q := q, base := 0, sectors := 200, run := 1, all := f, durable := f.length, dead := false } sb (by dsimp only; omega)
  have hsp : spn [(1, epC)] = [⟨1, 1⟩] := rfl
  have TK := h20h ⟨sq, q, 1, 0, false, 0, 0, 0⟩ { q := q, base := 0, sectors := 200, run := 1, all := f, durable := f.length, dead := false } sb rfl (by dsimp only; omega) (by dsimp only; rw [hrec]; decide) (by dsimp only; omega)
    ⟨1, 1, 0, 0, 0, 0, 1, 0, 0, []⟩ 0 rfl rfl (by dsimp only; rw [hrec, hsp]; rfl) (by dsimp only; rw [hrec, hsp]; simp [prt]) (by dsimp only; omega)
  have hfr := from_is (G := { q := q, base := 0, sectors := 200, run := 1, all := f, durable := f.length, dead := false }) (ps := [(f, epC)]) hfl.symm hP (m := 1) (j := 0) (by show _ = (flat [(f, epC)]).length; rw [hfl]) (Nat.le_refl 1) (Nat.zero_le 1) 1024
  have hw : wnt (if (1024 : Int) < 0 then 0 else 1024) false [] (List.drop 0 (List.take 1 [(f, epC)])) = f := by simp [wnt]
  rw [hw] at hfr
  have hs0 : ((1 + siz [(f, epC)] 0 : Nat) : Int) = 1 := rfl
  rw [hs0] at hfr
  refine i_cal TK ?_
  rintro y X ⟨mb, rfl, rfl⟩
  unfold pmsg
  rw [hfr]
  dsimp only [List.cons_append, List.nil_append]
  repeat' (first | (with_reducible first | refine d_seq fun K hK => ?_ | (refine hK _ _ ?_; clear hK K) | (refine SG.p ?_; try intro b) | refine SP.p ?_) | refine i_c ?_ ?_ <;> intro hc <;> try simp only [push_cast, seval] at hc | refine i_x ?_ | clear hK K)
  all_goals try contradiction
  refine i_clp EN ?_
  repeat' (first | (with_reducible first | refine d_seq fun K hK => ?_ | (refine hK _ _ ?_; clear hK K) | (refine SG.p ?_; try intro b)) | refine i_c ?_ ?_ <;> intro hc <;> try simp only [push_cast, seval] at hc | refine i_x ?_ | clear hK K)
  (with_reducible first | apply i_ret0 | apply i_ret2 | apply i_ret3 | apply i_ret); exact rfl
  rw [hl]
  rfl
set_option maxHeartbeats 4000000 in
theorem h5 (node : Int) (m : api_Msg) (now : Int) : Fp eB Tryz.prog 5 #[.int .i64 node, v_api_Msg m, .int .i64 now] [] true := fun L => by
  refine c5_fn rfl rfl ?_
  repeat' (first | (with_reducible first | refine d_seq fun K hK => ?_ | (refine hK _ _ ?_; clear hK K) | (refine SG.p ?_; try intro b)) | refine i_c ?_ ?_ <;> intro hc <;> try simp only [push_cast, seval] at hc | refine i_x ?_ | clear hK K)
  refine i_cal h15n ?_
  rintro y X ⟨q, sb, Y, ρ, rfl, rfl, hW, hE⟩
  dsimp only [List.cons_append, List.nil_append]
  repeat' (first | (with_reducible first | refine d_seq fun K hK => ?_ | (refine hK _ _ ?_; clear hK K) | (refine SG.p ?_; try intro b)) | refine i_c ?_ ?_ <;> intro hc <;> try simp only [push_cast, seval] at hc | refine i_x ?_ | clear hK K)
  by_cases hn : 0 ≤ node ∧ node ≤ 1
  · refine i_cal (h17 q 1 hn) ?_
    rintro y X ⟨sq, rfl, rfl⟩
    dsimp only [List.cons_append, List.nil_append]
    repeat' (first | (with_reducible first | refine d_seq fun K hK => ?_ | (refine hK _ _ ?_; clear hK K) | (refine SG.p ?_; try intro b)) | refine i_c ?_ ?_ <;> intro hc <;> try simp only [push_cast, seval] at hc | refine i_x ?_ | clear hK K)
    refine i_clp h25n ?_
    repeat' (first | (with_reducible first | refine d_seq fun K hK => ?_ | (refine hK _ _ ?_; clear hK K) | (refine SG.p ?_; try intro b)) | refine i_c ?_ ?_ <;> intro hc <;> try simp only [push_cast, seval] at hc | refine i_x ?_ | clear hK K)
    all_goals try contradiction
    refine i_clp (h17n 1 node) ?_
    have PU := h26 ⟨sq, q, 1, node, false, 0, 0, 0⟩ (lg0 q) sb rfl (Nat.zero_le _) (by show (recs []).length ≤ _; decide) (Nat.le_refl 0) rfl
    rcases (show node = 0 ∨ node = 1 by omega) with rfl | rfl
    all_goals
      repeat' (first | (with_reducible first | refine d_seq fun K hK => ?_ | (refine hK _ _ ?_; clear hK K) | (refine SG.p ?_; try intro b) | refine SP.p ?_) | refine i_c ?_ ?_ <;> intro hc <;> try simp only [push_cast, seval] at hc | refine i_x ?_ | clear hK K)
      all_goals try contradiction
      repeat' (first | (first | (with_reducible first | refine d_seq fun K hK => ?_ | (refine hK _ _ ?_; clear hK K) | (refine SG.p ?_; try intro b)) | refine i_c ?_ ?_ <;> intro hc <;> try simp only [push_cast, seval] at hc | refine i_x ?_ | clear hK K) | (with_reducible first | refine i_clp (h20n m now) ?_ | refine i_clp (h20z b m now) ?_ | refine i_clp h26n ?_ | refine i_clp (h26z b) ?_ | refine i_clp h22n ?_ | refine i_clp (h27z b) ?_ | refine i_clp h24 ?_))
      all_goals try contradiction
      refine i_cal PU ?_
      rintro y X ⟨pb, rfl, rfl⟩
      dsimp only [List.cons_append, List.nil_append]
      repeat' (first | (first | (with_reducible first | refine d_seq fun K hK => ?_ | (refine hK _ _ ?_; clear hK K) | (refine SG.p ?_; try intro b)) | refine i_c ?_ ?_ <;> intro hc <;> try simp only [push_cast, seval] at hc | refine i_x ?_ | clear hK K) | (with_reducible first | refine i_clp (h20n m now) ?_ | refine i_clp (h20z b m now) ?_ | refine i_clp h26n ?_ | refine i_clp (h26z b) ?_ | refine i_clp h22n ?_ | refine i_clp (h27z b) ?_ | refine i_clp h24 ?_))
      (with_reducible first | apply i_ret0 | apply i_ret2 | apply i_ret3 | apply i_ret); exact rfl
      rfl
  · refine i_clp (h17x q 1 (by omega)) ?_
    repeat' (first | (with_reducible first | refine d_seq fun K hK => ?_ | (refine hK _ _ ?_; clear hK K) | (refine SG.p ?_; try intro b)) | refine i_c ?_ ?_ <;> intro hc <;> try simp only [push_cast, seval] at hc | refine i_x ?_ | clear hK K)
    refine i_clp h25n ?_
    repeat' (first | (with_reducible first | refine d_seq fun K hK => ?_ | (refine hK _ _ ?_; clear hK K) | (refine SG.p ?_; try intro b)) | refine i_c ?_ ?_ <;> intro hc <;> try simp only [push_cast, seval] at hc | refine i_x ?_ | clear hK K)
    all_goals try contradiction
    refine i_clp (h17n 1 node) ?_
    have e1 : (node == 1) = false := by rw [beq_eq_false_iff_ne]; omega
    repeat' (first | (with_reducible first | refine d_seq fun K hK => ?_ | (refine hK _ _ ?_; clear hK K) | (refine SG.p ?_; try intro b) | refine SP.p ?_) | refine i_c ?_ ?_ <;> intro hc <;> try simp only [push_cast, seval] at hc | refine i_x ?_ | clear hK K)
    all_goals try (exfalso; omega)
    all_goals try contradiction
    all_goals try (exfalso; exact hc e1.symm)
    all_goals
      repeat' (first | (first | (with_reducible first | refine d_seq fun K hK => ?_ | (refine hK _ _ ?_; clear hK K) | (refine SG.p ?_; try intro b)) | refine i_c ?_ ?_ <;> intro hc <;> try simp only [push_cast, seval] at hc | refine i_x ?_ | clear hK K) | (with_reducible first | refine i_clp (h20n m now) ?_ | refine i_clp (h20z b m now) ?_ | refine i_clp h26n ?_ | refine i_clp (h26z b) ?_ | refine i_clp h22n ?_ | refine i_clp (h27z b) ?_ | refine i_clp h24 ?_))
    all_goals try contradiction
    all_goals try (exfalso; omega)
    all_goals
      (with_reducible first | apply i_ret0 | apply i_ret2 | apply i_ret3 | apply i_ret); exact rfl
      rfl
theorem clean_short {c : Rc} {b : List UInt8} (h : c.clean.body = (b, 0)) : c.clean.short := by
  have hc := clean_idem c
  generalize c.clean = d at *
  by_cases h1 : d.kind = 1
  · have e : d.tbl = [] := by rw [← hc]; unfold Rc.clean; rw [if_pos (.inl h1)]; rfl
    unfold Rc.body at h
    rw [if_pos h1] at h
    split at h
    · rename_i hl
      exact ⟨by omega, by rw [e]; exact Nat.zero_le _⟩
    · cases h
  by_cases h2 : d.kind = 2
  · have e : d.tbl = [] := by rw [← hc]; unfold Rc.clean; rw [if_pos (.inr h2)]; rfl
    unfold Rc.body at h
    rw [if_neg h1, if_pos h2] at h
    obtain ⟨e1, e2, _⟩ := bfin_ok h
    unfold ims at e1 e2
    have e3 := (imgo_ok d.imgs _ e1 e2).1
    refine ⟨?_, by rw [e]; exact Nat.zero_le _⟩
    rcases Nat.lt_or_ge 255 d.imgs.length with x | x
    · exact absurd e3 (layN_big (by omega))
    · exact x
  have ei : d.imgs = [] := by
    rw [← hc]
    unfold Rc.clean
    rw [if_neg (by omega)]
    repeat' split
    all_goals first | rfl | (unfold tdy; repeat' split)
    all_goals rfl
  by_cases h9 : d.kind = 9
  · unfold Rc.body at h
    rw [if_neg h1, if_neg h2, if_neg (by omega), if_neg (by omega), if_neg (by omega), if_pos h9] at h
    obtain ⟨_, e2, _⟩ := bfin_ok h
    have e3 := (tbg_ok d.tbl _ e2).1
    refine ⟨by rw [ei]; exact Nat.zero_le _, ?_⟩
    rcases Nat.lt_or_ge 255 d.tbl.length with x | x
    · exact absurd e3 (layN_big (by omega))
    · exact x
  · have et : d.tbl = [] := by
      rw [← hc]
      unfold Rc.clean
      rw [if_neg (by omega)]
      repeat' split
      all_goals first | rfl | contradiction | (unfold tdy; repeat' split)
      all_goals rfl
    exact ⟨by rw [ei]; exact Nat.zero_le _, by rw [et]; exact Nat.zero_le _⟩
theorem frame_short {c : Rc} {f : List UInt8} (h : c.frame = (f, 0)) : c.clean.short := by
  unfold Rc.frame at h
  split at h
  · rename_i h0
    exact clean_short (b := c.clean.body.1) (Prod.ext rfl h0)
  · rename_i h0
    exact absurd (congrArg Prod.snd h) h0
theorem clean_kind (c : Rc) : c.clean.kind = c.kind := by
  unfold Rc.clean
  repeat' split
  all_goals first | rfl | (unfold tdy; repeat' split)
  all_goals rfl
theorem h21 (G : Lg) (sb : Nat) (hd : G.dead = false) (h : G.all.length ≤ 58 * G.sectors) (h2 : G.sectors ≤ 8192) {s : List UInt8} (hs : whole s = s.length) (hr : G.all.length + s.length ≤ 58 * G.sectors) :
    Fq (eT2 eI eI) Tryz.prog 21 #[G.p, str s] [lgp G sb] [lgp { G with all := G.all ++ s } sb] (((G.all.length + 1 : Nat) : Int), 0) := fun L => by
  have OF := g75 G sb
  have WH := g69 s (by omega)
  have AD := g76 G sb h h2 s (by omega)
  unfold Lg.off at OF
  rw [hd, if_neg Bool.false_ne_true] at OF
  rw [hs] at WH
  unfold Lg.add at AD
  rw [if_neg (by omega)] at AD
  refine c21_fn rfl rfl ?_
  repeat' (first | (with_reducible first | refine d_seq fun K hK => ?_ | (refine hK _ _ ?_; clear hK K) | (refine SG.p ?_; try intro b)) | refine i_c ?_ ?_ <;> intro hc <;> try simp only [push_cast, seval] at hc | refine i_x ?_ | clear hK K)
  refine i_clp OF ?_
  repeat' (first | (with_reducible first | refine d_seq fun K hK => ?_ | (refine hK _ _ ?_; clear hK K) | (refine SG.p ?_; try intro b)) | refine i_c ?_ ?_ <;> intro hc <;> try simp only [push_cast, seval] at hc | refine i_x ?_ | clear hK K)
  all_goals try contradiction
  refine i_clp WH ?_
  repeat' (first | (with_reducible first | refine d_seq fun K hK => ?_ | (refine hK _ _ ?_; clear hK K) | (refine SG.p ?_; try intro b)) | refine i_c ?_ ?_ <;> intro hc <;> try simp only [push_cast, seval] at hc | refine i_x ?_ | clear hK K)
  all_goals try contradiction
  refine i_clq AD ?_
  repeat' (first | (with_reducible first | refine d_seq fun K hK => ?_ | (refine hK _ _ ?_; clear hK K) | (refine SG.p ?_; try intro b)) | refine i_c ?_ ?_ <;> intro hc <;> try simp only [push_cast, seval] at hc | refine i_x ?_ | clear hK K)
  (with_reducible first | apply i_ret0 | apply i_ret2 | apply i_ret3 | apply i_ret); exact rfl
  rfl
abbrev cmsg (G : Lg) (a : Int) : api_Msg := pmsg ⟨0, 0, 1, 0, false, 0, 0, 0⟩ G a
abbrev shs (q lq : Nat) (mt : Bool) (nx ac se : Int) : Shp := ⟨q, lq, 1, 0, mt, nx, ac, se⟩
abbrev ackm (E un : Int) : api_Msg := ⟨3, 1, 0, 1, 0, 0, E, un, 0, []⟩
set_option maxHeartbeats 1000000 in
theorem h48 (q : Nat) (G : Lg) (sb : Nat) (hl : G.all.length ≤ 1000000) (hB : (recs G.all).length ≤ 1000000) (hd : G.durable ≤ G.all.length) (mt : Bool) (nx ac se E' un : Int) (h1 : 1 ≤ E') (h2 : E' ≤ ((G.durable + 1 : Nat) : Int)) (h3 : ac ≤ E') :
    Fn eSl Tryz.prog 48 #[(shs q G.q mt nx ac se).p, v_api_Msg (ackm E' un), .int .i64 un] [shp (shs q G.q mt nx ac se), lgp G sb] fun y X =>
      if E' < ((G.durable + 1 : Nat) : Int) then ∃ b, y = (some ⟨b, 0, none⟩, 1, 1) ∧ X = [ar b 55 (cMs (cmsg G E')), shp (shs q G.q true E' E' (IntKind.wrap .i64 (se + 1))), lgp G sb]
      else y = (none, 0, 0) ∧ X = [shp (shs q G.q true E' E' se), lgp G sb] := fun L => by
  have P := h53 (shs q G.q true E' E' se) G sb rfl hl hB hd
  have DU := g29 G sb (by omega)
  have e : pmsg (shs q G.q true E' E' se) G E' = cmsg G E' := rfl
  dsimp only at P
  rw [e] at P
  clear e
  generalize cmsg G E' = M at *
  have hmx : (if ac < E' then E' else ac) = E' := by split <;> omega
  refine c48_fn rfl rfl ?_
  repeat' (first | (with_reducible first | refine d_seq fun K hK => ?_ | (refine hK _ _ ?_; clear hK K) | (refine SG.p ?_; try intro b)) | refine i_c ?_ ?_ <;> intro hc <;> try simp only [push_cast, seval] at hc | refine i_x ?_ | clear hK K)
  refine r_ph0 ?_
  repeat' (first | (with_reducible first | refine d_seq fun K hK => ?_ | (refine hK _ _ ?_; clear hK K) | (refine SG.p ?_; try intro b)) | refine i_c ?_ ?_ <;> intro hc <;> try simp only [push_cast, seval] at hc | refine i_x ?_ | clear hK K)
  all_goals try contradiction
  all_goals try (exfalso; omega)
  refine i_clp DU ?_
  repeat' (first | (with_reducible first | refine d_seq fun K hK => ?_ | (refine hK _ _ ?_; clear hK K) | (refine SG.p ?_; try intro b)) | refine i_c ?_ ?_ <;> intro hc <;> try simp only [push_cast, seval] at hc | refine i_x ?_ | clear hK K)
  all_goals try contradiction
  all_goals try (exfalso; omega)
  refine r_ph0 ?_
  repeat' (first | (with_reducible first | refine d_seq fun K hK => ?_ | (refine hK _ _ ?_; clear hK K) | (refine SG.p ?_; try intro b)) | refine i_c ?_ ?_ <;> intro hc <;> try simp only [push_cast, seval] at hc | refine i_x ?_ | clear hK K)
  rw [hmx]
  refine r_ph [ar b 55 (cMs (ackm E' un))] SX.p ?_
  repeat' (first | (with_reducible first | refine d_seq fun K hK => ?_ | (refine hK _ _ ?_; clear hK K) | (refine SG.p ?_; try intro b)) | refine i_c ?_ ?_ <;> intro hc <;> try simp only [push_cast, seval] at hc | refine i_x ?_ | clear hK K)
  refine r_ph0 ?_
  repeat' (first | (with_reducible first | refine d_seq fun K hK => ?_ | (refine hK _ _ ?_; clear hK K) | (refine SG.p ?_; try intro b)) | refine i_c ?_ ?_ <;> intro hc <;> try simp only [push_cast, seval] at hc | refine i_x ?_ | clear hK K)
  refine i_clp DU ?_
  repeat' (first | (with_reducible first | refine d_seq fun K hK => ?_ | (refine hK _ _ ?_; clear hK K) | (refine SG.p ?_; try intro b)) | refine i_c ?_ ?_ <;> intro hc <;> try simp only [push_cast, seval] at hc | refine i_x ?_ | clear hK K)
  · have hlt : E' < ((G.durable + 1 : Nat) : Int) := by omega
    refine i_clq P ?_
    repeat' (first | (with_reducible first | refine d_seq fun K hK => ?_ | (refine hK _ _ ?_; clear hK K) | (refine SG.p ?_; try intro b)) | refine i_c ?_ ?_ <;> intro hc <;> try simp only [push_cast, seval] at hc | refine i_x ?_ | clear hK K)
    refine i_clp (h51 (some ⟨b, 0, none⟩) 1 1) ?_
    repeat' (first | (with_reducible first | refine d_seq fun K hK => ?_ | (refine hK _ _ ?_; clear hK K) | (refine SG.p ?_; try intro b)) | refine i_c ?_ ?_ <;> intro hc <;> try simp only [push_cast, seval] at hc | refine i_x ?_ | clear hK K)
    exact i_done (e := eSl) (some ⟨b, 0, none⟩, 1, 1) [ar b 55 (cMs M), shp (shs q G.q true E' E' (IntKind.wrap .i64 (se + 1))), lgp G sb] rfl (by rw [if_pos hlt]; exact ⟨b, rfl, rfl⟩)
  · have hlt : ¬ E' < ((G.durable + 1 : Nat) : Int) := by omega
    exact i_done (e := eSl) (none, 0, 0) [shp (shs q G.q true E' E' se), lgp G sb] rfl (by rw [if_neg hlt]; exact ⟨rfl, rfl⟩)
theorem h20a (q : Nat) (G : Lg) (sb : Nat) (hl : G.all.length ≤ 1000000) (hB : (recs G.all).length ≤ 1000000) (hd : G.durable ≤ G.all.length) (mt : Bool) (nx ac se E' un : Int) (h1 : 1 ≤ E') (h2 : E' ≤ ((G.durable + 1 : Nat) : Int)) (h3 : ac ≤ E') :
    Fn eSl Tryz.prog 20 #[(shs q G.q mt nx ac se).p, v_api_Msg (ackm E' un), .int .i64 un] [shp (shs q G.q mt nx ac se), lgp G sb] fun y X =>
      if E' < ((G.durable + 1 : Nat) : Int) then ∃ b, y = (some ⟨b, 0, none⟩, 1, 1) ∧ X = [ar b 55 (cMs (cmsg G E')), shp (shs q G.q true E' E' (IntKind.wrap .i64 (se + 1))), lgp G sb]
      else y = (none, 0, 0) ∧ X = [shp (shs q G.q true E' E' se), lgp G sb] := fun L => by
  have P := h48 q G sb hl hB hd mt nx ac se E' un h1 h2 h3
  have N := h46 (shs q G.q mt nx ac se)
  refine c20_fn rfl rfl ?_
  repeat' (first | (with_reducible first | refine d_seq fun K hK => ?_ | (refine hK _ _ ?_; clear hK K) | (refine SG.p ?_; try intro b)) | refine i_c ?_ ?_ <;> intro hc <;> try simp only [push_cast, seval] at hc | refine i_x ?_ | clear hK K)
  refine i_clp N ?_
  repeat' (first | (with_reducible first | refine d_seq fun K hK => ?_ | (refine hK _ _ ?_; clear hK K) | (refine SG.p ?_; try intro b) | refine SP.p ?_) | refine i_c ?_ ?_ <;> intro hc <;> try simp only [push_cast, seval] at hc | refine i_x ?_ | clear hK K)
  all_goals try contradiction
  refine i_ldn (e := e_api_Msg) (x := ackm E' un) rfl rfl rfl ?_
  refine i_cal P ?_
  rintro y X hX
  repeat' (first | (with_reducible first | refine d_seq fun K hK => ?_ | (refine hK _ _ ?_; clear hK K) | (refine SG.p ?_; try intro b)) | refine i_c ?_ ?_ <;> intro hc <;> try simp only [push_cast, seval] at hc | refine i_x ?_ | clear hK K)
  obtain ⟨yp, yn, yc⟩ := y
  exact i_done (e := eSl) (yp, yn, yc) X rfl hX
theorem h22 (s : Shp) : Fp eI Tryz.prog 22 #[s.p] [shp s] s.acked := fun L => by
  have N := h46 s
  refine c22_fn rfl rfl ?_
  repeat' (first | (with_reducible first | refine d_seq fun K hK => ?_ | (refine hK _ _ ?_; clear hK K) | (refine SG.p ?_; try intro b)) | refine i_c ?_ ?_ <;> intro hc <;> try simp only [push_cast, seval] at hc | refine i_x ?_ | clear hK K)
  refine i_clp N ?_
  repeat' (first | (with_reducible first | refine d_seq fun K hK => ?_ | (refine hK _ _ ?_; clear hK K) | (refine SG.p ?_; try intro b)) | refine i_c ?_ ?_ <;> intro hc <;> try simp only [push_cast, seval] at hc | refine i_x ?_ | clear hK K)
  all_goals try contradiction
  (with_reducible first | apply i_ret0 | apply i_ret2 | apply i_ret3 | apply i_ret); exact rfl
  rfl
theorem apl_ps : ∀ (cs : List Rc) (G : Lg) (ps : PS), G.dead = false → G.all = flat ps → Prs ps → ∃ r : PS, Prs (ps ++ r) ∧ apl G cs = { G with all := flat (ps ++ r) } ∧ r.length ≤ cs.length ∧ ∀ x ∈ r, ∃ c ∈ cs, x.2 = c.clean
  | [], G, ps, _, ha, hp => ⟨[], by rw [List.append_nil]; exact hp, by rw [List.append_nil, ← ha]; rfl, Nat.le_refl _, fun x hx => by cases hx⟩
  | c :: cs, G, ps, hd, ha, hp => by
    by_cases h : c.frame.2 = 0 ∧ G.all.length + c.frame.1.length ≤ 58 * G.sectors
    · have hf : c.frame = (c.frame.1, 0) := Prod.ext rfl h.1
      have e : (G.append c).2 = { G with all := G.all ++ c.frame.1 } := by rw [append_is hd, if_pos h.1, if_pos h.2]
      have hp2 := hp.snoc (frame_short hf) (c := c.clean) (f := c.frame.1) (by rw [frame_clean]; exact hf)
      obtain ⟨r, r1, r2, r3, r4⟩ := apl_ps cs (G.append c).2 (ps ++ [(c.frame.1, c.clean)]) (by rw [e]; exact hd) (by rw [e, flat_snoc, ha]) hp2
      refine ⟨(c.frame.1, c.clean) :: r, ?_, ?_, by simp only [List.length_cons]; omega, fun x hx => ?_⟩
      · rw [List.append_assoc] at r1; exact r1
      · rw [List.append_assoc] at r2
        show apl (G.append c).2 cs = _
        rw [r2, e]
        rfl
      · rcases List.mem_cons.1 hx with rfl | hx
        · exact ⟨c, by simp, rfl⟩
        · obtain ⟨d, d1, d2⟩ := r4 x hx
          exact ⟨d, by simp [d1], d2⟩
    · have e : (G.append c).2 = G := by
        rw [append_is hd]
        split
        · rename_i h0
          rw [if_neg (fun x => h ⟨h0, x⟩)]
        · rfl
      obtain ⟨r, r1, r2, r3, r4⟩ := apl_ps cs G ps hd ha hp
      refine ⟨r, r1, ?_, by simp only [List.length_cons]; omega, fun x hx => ?_⟩
      · show apl (G.append c).2 cs = _
        rw [e]
        exact r2
      · obtain ⟨d, d1, d2⟩ := r4 x hx
        exact ⟨d, by simp [d1], d2⟩
theorem spn_none : ∀ (ps : PS) (a : Nat), (∀ x ∈ ps, x.2.kind ≠ 10) → spn (rl ps a) = []
  | [], _, _ => rfl
  | x :: r, a, h => by
    have h1 := h x (by simp)
    show spn ((a + 1, x.2.clean) :: rl r (a + x.1.length)) = []
    unfold spn
    rw [if_neg (by dsimp only; rw [clean_kind]; exact h1)]
    exact spn_none r _ fun y hy => h y (by simp [hy])
theorem log_is (q : Nat) {cs : List Rc} (hk : ∀ c ∈ cs, c.kind ≠ 10) (hn : cs.length ≤ 40) : ∃ ps : PS, Prs ps ∧ apl (lg0 q) ((epC :: cs).take 41) = { lg0 q with all := flat ps } ∧ 1 ≤ ps.length ∧ ps.length ≤ 41 ∧ spn (recs (flat ps)) = [⟨1, 1⟩] := by
  obtain ⟨f, hf, hl⟩ := ep_frame
  have h0 : Prs [(f, epC)] := fun x hx => by
    obtain rfl : x = (f, epC) := by simpa using hx
    exact ⟨epC_short, hf⟩
  rw [List.take_of_length_le (by simp only [List.length_cons]; omega)]
  have e : ((lg0 q).append epC).2 = ⟨q, 0, 200, 1, f, 0, false⟩ := ep_log q hf hl
  have hfl : flat [(f, epC)] = f := by simp [flat]
  obtain ⟨r, r1, r2, r3, r4⟩ := apl_ps cs ⟨q, 0, 200, 1, f, 0, false⟩ [(f, epC)] rfl hfl.symm h0
  refine ⟨(f, epC) :: r, r1, ?_, by simp only [List.length_cons]; omega, by simp only [List.length_cons]; omega, ?_⟩
  · show apl ((lg0 q).append epC).2 cs = _
    rw [e, r2]
    rfl
  · rw [show recs (flat ((f, epC) :: r)) = rl ([(f, epC)] ++ r) 0 from flat_recs r1]
    show spn ((0 + 1, epC.clean) :: rl r (0 + f.length)) = _
    unfold spn
    rw [if_pos (show ((0 + 1, epC.clean) : Nat × Rc).2.kind = 10 from rfl), spn_none r _ fun x hx => by
      obtain ⟨c, c1, c2⟩ := r4 x hx
      rw [c2, clean_kind]
      exact hk c c1]
    rfl
theorem wnt_pre (most : Int) : ∀ (r : PS) (b : Bool) (w : List UInt8), ∃ t, t ≤ r.length ∧ wnt most b w r = w ++ flat (r.take t) ∧ (b = false → r ≠ [] → 1 ≤ t)
  | [], b, w => ⟨0, Nat.le_refl _, by simp [wnt, flat], fun _ h => absurd rfl h⟩
  | x :: r, b, w => by
    unfold wnt
    by_cases h : b = true ∧ most - (w.length : Int) < (x.1.length : Int)
    · rw [if_pos h]
      exact ⟨0, Nat.zero_le _, by simp [flat], fun h1 => by rw [h.1] at h1; cases h1⟩
    · rw [if_neg h]
      obtain ⟨t, t1, t2, _⟩ := wnt_pre most r true (w ++ x.1)
      refine ⟨t + 1, by simp only [List.length_cons]; omega, ?_, fun _ _ => by omega⟩
      rw [t2, List.take_succ_cons, flat_cons, List.append_assoc]
theorem chunk_is {G : Lg} {ps : PS} (hall : G.all = flat ps) (h : Prs ps) (hd : G.durable = G.all.length) {j : Nat} (hj : j < ps.length) : ∃ t, 1 ≤ t ∧ j + t ≤ ps.length ∧ (G.from ((1 + siz ps j : Nat) : Int) 1024).1 = flat ((ps.drop j).take t) ∧ flat (ps.take j) ++ flat ((ps.drop j).take t) = flat (ps.take (j + t)) := by
  have e := from_is hall h (m := ps.length) (j := j) (by rw [hd, hall, siz_all]) (Nat.le_refl _) (by omega) 1024
  rw [List.take_of_length_le (Nat.le_refl _)] at e
  obtain ⟨t, t1, t2, t3⟩ := wnt_pre (if (1024 : Int) < 0 then 0 else 1024) (ps.drop j) false []
  rw [List.length_drop] at t1
  refine ⟨t, t3 rfl (by simp; omega), by omega, by rw [e, t2]; rfl, ?_⟩
  rw [← flat_app, ← List.take_add]
theorem part_whole {ps : PS} (h : Prs ps) (j t : Nat) : whole (flat ((ps.drop j).take t)) = (flat ((ps.drop j).take t)).length := flat_whole fun x hx => h x (List.mem_of_mem_drop (List.mem_of_mem_take hx))
end Go.Sp
namespace Go.Sp
open Go
set_option maxRecDepth 100000
set_option linter.unusedVariables false
open Go.Proofs
variable (K : Env → W) (k : Value → W) {e : Enc} {args : Array Value} {G : e.α → W} {L : List HP} {ρ : Env}
attribute [local instance] cI cB cP cA
noncomputable def c4 := cf Tryz.f4 191 [(0, [0, 1]), (1, [0, 1]), (2, [0, 1, 5]), (3, [0, 1, 5, 6]), (4, [0, 1, 5, 6]), (5, [0, 1, 5, 6]), (6, [0, 1, 5, 6]), (7, [1, 5]), (8, [1, 7]), (9, [1, 7, 8]), (10, []), (11, [1, 7, 8]), (12, [1, 7, 8, 9]), (13, [1, 7, 8, 9, 10]), (14, [1, 7, 8, 9, 10, 11]), (15, [1, 7, 8, 9, 10, 11]), (16, [1, 7, 8, 9, 10, 11]), (17, [1, 7, 8, 9, 11]), (18, [1, 7, 8, 9, 11, 12]), (19, [1, 7, 8, 9, 11]), (20, [1, 7, 8, 9, 11, 12]), (21, [1, 7, 8, 9, 10, 11]), (22, []), (23, [1, 7, 8, 9, 10, 11]), (24, [1, 7, 8, 9, 11, 13]), (25, [1, 7, 8, 9, 10, 11, 13]), (26, [1, 7, 8, 9, 10, 11, 13]), (27, []), (28, [1, 7, 8, 9, 10, 11, 13]), (29, [1, 7, 8, 9, 10, 11, 15]), (30, []), (31, [1, 7, 8, 9, 10, 11]), (32, [1, 7, 8, 9, 11]), (33, [1, 7, 8, 9, 10, 11]), (34, []), (35, [7, 8]), (36, [7, 8, 16]), (37, [7, 8, 16, 18])] [(0, [0, 1]), (1, [0, 1, 5]), (2, [0, 1, 5, 6]), (3, [0, 1, 5, 6, 29]), (4, [0, 1, 5, 6]), (5, [0, 1, 5, 6, 37]), (6, [0, 1, 5, 6]), (7, [1, 7]), (8, [1, 7, 8]), (9, [1, 7, 8, 58]), (10, [4]), (11, [1, 7, 8, 9]), (12, [1, 7, 8, 9, 10]), (13, [1, 7, 8, 9, 10, 11]), (14, [1, 7, 8, 9, 10, 11, 69]), (15, [1, 7, 8, 9, 10, 11]), (16, [1, 7, 8, 9, 10, 11, 74]), (17, [1, 7, 8, 9, 11, 12]), (18, [1, 7, 8, 9, 11, 12, 77]), (19, [1, 7, 8, 9, 11, 12]), (20, [1, 7, 8, 9, 10, 11]), (21, [1, 7, 8, 9, 10, 11, 92]), (22, [4]), (23, [1, 7, 8, 9, 11, 13]), (24, [1, 7, 8, 9, 10, 11, 13]), (25, [1, 7, 8, 9, 10, 11, 13, 110]), (26, [1, 7, 8, 9, 10, 11, 13, 131]), (27, [4]), (28, [1, 7, 8, 9, 10, 11, 15]), (29, [1, 7, 8, 9, 10, 11, 145]), (30, [4]), (31, [1, 7, 8, 9, 10, 11, 155]), (32, [1, 7, 8, 9, 10, 11]), (33, [1, 7, 8, 9, 10, 11, 167]), (34, [4]), (35, [7, 8, 16]), (36, [7, 8, 16, 18]), (37, [4]), (1000000, [4])] [(26, (true, [(0, 1), (1, 0), (2, 1), (3, 1), (4, 1), (5, 0), (6, 1), (7, 2), (8, 1), (9, 1), (10, 1), (11, 1), (12, 0), (13, 1), (14, 0), (15, 1), (16, 1), (17, 1), (18, 2), (19, 1), (20, 1)]))] []
@[go_sem] theorem c4_i : c4.li 0 = [0, 1] ∧ c4.li 1 = [0, 1] ∧ c4.li 2 = [0, 1, 5] ∧ c4.li 3 = [0, 1, 5, 6] ∧ c4.li 4 = [0, 1, 5, 6] ∧ c4.li 5 = [0, 1, 5, 6] ∧ c4.li 6 = [0, 1, 5, 6] ∧ c4.li 7 = [1, 5] ∧ c4.li 8 = [1, 7] ∧ c4.li 9 = [1, 7, 8] ∧ c4.li 10 = [] ∧ c4.li 11 = [1, 7, 8] ∧ c4.li 12 = [1, 7, 8, 9] ∧ c4.li 13 = [1, 7, 8, 9, 10] ∧ c4.li 14 = [1, 7, 8, 9, 10, 11] ∧ c4.li 15 = [1, 7, 8, 9, 10, 11] ∧ c4.li 16 = [1, 7, 8, 9, 10, 11] ∧ c4.li 17 = [1, 7, 8, 9, 11] ∧ c4.li 18 = [1, 7, 8, 9, 11, 12] ∧ c4.li 19 = [1, 7, 8, 9, 11] ∧ c4.li 20 = [1, 7, 8, 9, 11, 12] ∧ c4.li 21 = [1, 7, 8, 9, 10, 11] ∧ c4.li 22 = [] ∧ c4.li 23 = [1, 7, 8, 9, 10, 11] ∧ c4.li 24 = [1, 7, 8, 9, 11, 13] ∧ c4.li 25 = [1, 7, 8, 9, 10, 11, 13] ∧ c4.li 26 = [1, 7, 8, 9, 10, 11, 13] ∧ c4.li 27 = [] ∧ c4.li 28 = [1, 7, 8, 9, 10, 11, 13] ∧ c4.li 29 = [1, 7, 8, 9, 10, 11, 15] ∧ c4.li 30 = [] ∧ c4.li 31 = [1, 7, 8, 9, 10, 11] ∧ c4.li 32 = [1, 7, 8, 9, 11] ∧ c4.li 33 = [1, 7, 8, 9, 10, 11] ∧ c4.li 34 = [] ∧ c4.li 35 = [7, 8] ∧ c4.li 36 = [7, 8, 16] ∧ c4.li 37 = [7, 8, 16, 18] := ⟨rfl, rfl, rfl, rfl, rfl, rfl, rfl, rfl, rfl, rfl, rfl, rfl, rfl, rfl, rfl, rfl, rfl, rfl, rfl, rfl, rfl, rfl, rfl, rfl, rfl, rfl, rfl, rfl, rfl, rfl, rfl, rfl, rfl, rfl, rfl, rfl, rfl, rfl⟩
@[go_sem] theorem c4_r0 (v0p : Option Addr) (v0n v0c : Nat) (v1p : Option Addr) (v1n v1c : Nat) : RP c4 0 [(0, .slice v0p v0n v0c), (1, .slice v1p v1n v1c)] K =
 (K [(0, .slice v0p v0n v0c), (1, .slice v1p v1n v1c)]) := by kernel_rfl
@[go_sem] theorem c4_r1 (v0p : Option Addr) (v0n v0c : Nat) (v1p : Option Addr) (v1n v1c : Nat) : RP c4 1 [(0, .slice v0p v0n v0c), (1, .slice v1p v1n v1c)] K =
 (nwc #[.int .i64 ((⟨(10 : Int), (0 : Int), (0 : Int), (0 : Int), (0 : Int), ([] : List UInt8), ([] : List UInt8), ([] : List UInt8), (0 : Int), (none, 0, 0), (none, 0, 0), (1 : Int), (0 : Int)⟩ : api_Rec).Kind), .int .i64 ((⟨(10 : Int), (0 : Int), (0 : Int), (0 : Int), (0 : Int), ([] : List UInt8), ([] : List UInt8), ([] : List UInt8), (0 : Int), (none, 0, 0), (none, 0, 0), (1 : Int), (0 : Int)⟩ : api_Rec).Txn), .int .i64 ((⟨(10 : Int), (0 : Int), (0 : Int), (0 : Int), (0 : Int), ([] : List UInt8), ([] : List UInt8), ([] : List UInt8), (0 : Int), (none, 0, 0), (none, 0, 0), (1 : Int), (0 : Int)⟩ : api_Rec).Prev), .int .i64 ((⟨(10 : Int), (0 : Int), (0 : Int), (0 : Int), (0 : Int), ([] : List UInt8), ([] : List UInt8), ([] : List UInt8), (0 : Int), (none, 0, 0), (none, 0, 0), (1 : Int), (0 : Int)⟩ : api_Rec).Page), .int .i64 ((⟨(10 : Int), (0 : Int), (0 : Int), (0 : Int), (0 : Int), ([] : List UInt8), ([] : List UInt8), ([] : List UInt8), (0 : Int), (none, 0, 0), (none, 0, 0), (1 : Int), (0 : Int)⟩ : api_Rec).Act), str ((⟨(10 : Int), (0 : Int), (0 : Int), (0 : Int), (0 : Int), ([] : List UInt8), ([] : List UInt8), ([] : List UInt8), (0 : Int), (none, 0, 0), (none, 0, 0), (1 : Int), (0 : Int)⟩ : api_Rec).Key), str ((⟨(10 : Int), (0 : Int), (0 : Int), (0 : Int), (0 : Int), ([] : List UInt8), ([] : List UInt8), ([] : List UInt8), (0 : Int), (none, 0, 0), (none, 0, 0), (1 : Int), (0 : Int)⟩ : api_Rec).Old), str ((⟨(10 : Int), (0 : Int), (0 : Int), (0 : Int), (0 : Int), ([] : List UInt8), ([] : List UInt8), ([] : List UInt8), (0 : Int), (none, 0, 0), (none, 0, 0), (1 : Int), (0 : Int)⟩ : api_Rec).New), .int .i64 ((⟨(10 : Int), (0 : Int), (0 : Int), (0 : Int), (0 : Int), ([] : List UInt8), ([] : List UInt8), ([] : List UInt8), (0 : Int), (none, 0, 0), (none, 0, 0), (1 : Int), (0 : Int)⟩ : api_Rec).Next), .slice (((⟨(10 : Int), (0 : Int), (0 : Int), (0 : Int), (0 : Int), ([] : List UInt8), ([] : List UInt8), ([] : List UInt8), (0 : Int), (none, 0, 0), (none, 0, 0), (1 : Int), (0 : Int)⟩ : api_Rec).Images).1) (((⟨(10 : Int), (0 : Int), (0 : Int), (0 : Int), (0 : Int), ([] : List UInt8), ([] : List UInt8), ([] : List UInt8), (0 : Int), (none, 0, 0), (none, 0, 0), (1 : Int), (0 : Int)⟩ : api_Rec).Images).2.1) (((⟨(10 : Int), (0 : Int), (0 : Int), (0 : Int), (0 : Int), ([] : List UInt8), ([] : List UInt8), ([] : List UInt8), (0 : Int), (none, 0, 0), (none, 0, 0), (1 : Int), (0 : Int)⟩ : api_Rec).Images).2.2), .slice (((⟨(10 : Int), (0 : Int), (0 : Int), (0 : Int), (0 : Int), ([] : List UInt8), ([] : List UInt8), ([] : List UInt8), (0 : Int), (none, 0, 0), (none, 0, 0), (1 : Int), (0 : Int)⟩ : api_Rec).Table).1) (((⟨(10 : Int), (0 : Int), (0 : Int), (0 : Int), (0 : Int), ([] : List UInt8), ([] : List UInt8), ([] : List UInt8), (0 : Int), (none, 0, 0), (none, 0, 0), (1 : Int), (0 : Int)⟩ : api_Rec).Table).2.1) (((⟨(10 : Int), (0 : Int), (0 : Int), (0 : Int), (0 : Int), ([] : List UInt8), ([] : List UInt8), ([] : List UInt8), (0 : Int), (none, 0, 0), (none, 0, 0), (1 : Int), (0 : Int)⟩ : api_Rec).Table).2.2), .int .i64 ((⟨(10 : Int), (0 : Int), (0 : Int), (0 : Int), (0 : Int), ([] : List UInt8), ([] : List UInt8), ([] : List UInt8), (0 : Int), (none, 0, 0), (none, 0, 0), (1 : Int), (0 : Int)⟩ : api_Rec).Epoch), .int .i64 ((⟨(10 : Int), (0 : Int), (0 : Int), (0 : Int), (0 : Int), ([] : List UInt8), ([] : List UInt8), ([] : List UInt8), (0 : Int), (none, 0, 0), (none, 0, 0), (1 : Int), (0 : Int)⟩ : api_Rec).Node)] 47 fun y1_ => (K [(0, .slice v0p v0n v0c), (1, .slice v1p v1n v1c), (5, .slice (some y1_) 1 1)])) := by kernel_rfl
@[go_sem] theorem c4_r2 (v0p : Option Addr) (v0n v0c : Nat) (v1p : Option Addr) (v1n v1c : Nat) (v5p : Option Addr) (v5n v5c : Nat) : RP c4 2 [(0, .slice v0p v0n v0c), (1, .slice v1p v1n v1c), (5, .slice v5p v5n v5c)] K =
 (K [(0, .slice v0p v0n v0c), (1, .slice v1p v1n v1c), (5, .slice v5p v5n v5c), (6, .int .i64 0)]) := by kernel_rfl
@[go_sem] theorem c4_r3 (v0p : Option Addr) (v0n v0c : Nat) (v1p : Option Addr) (v1n v1c : Nat) (v5p : Option Addr) (v5n v5c : Nat) (v6 : Int) : RP c4 3 [(0, .slice v0p v0n v0c), (1, .slice v1p v1n v1c), (5, .slice v5p v5n v5c), (6, v6)] K =
 (cnd (decide (v6 < v0n)) (K [(0, .slice v0p v0n v0c), (1, .slice v1p v1n v1c), (5, .slice v5p v5n v5c), (6, v6), (29, decide (v6 < 40))]) (K [(0, .slice v0p v0n v0c), (1, .slice v1p v1n v1c), (5, .slice v5p v5n v5c), (6, v6), (29, false)])) := by kernel_rfl
@[go_sem] theorem c4_r4 (v0p : Option Addr) (v0n v0c : Nat) (v1p : Option Addr) (v1n v1c : Nat) (v5p : Option Addr) (v5n v5c : Nat) (v6 : Int) : RP c4 4 [(0, .slice v0p v0n v0c), (1, .slice v1p v1n v1c), (5, .slice v5p v5n v5c), (6, v6)] K =
 (K [(0, .slice v0p v0n v0c), (1, .slice v1p v1n v1c), (5, .slice v5p v5n v5c), (6, IntKind.wrap .i64 (v6 + 1))]) := by kernel_rfl
@[go_sem] theorem c4_r5 (v0p : Option Addr) (v0n v0c : Nat) (v1p : Option Addr) (v1n v1c : Nat) (v5p : Option Addr) (v5n v5c : Nat) (v6 : Int) : RP c4 5 [(0, .slice v0p v0n v0c), (1, .slice v1p v1n v1c), (5, .slice v5p v5n v5c), (6, v6)] K =
 (rq (0 ≤ v6 ∧ v6 < v0n) (nn v0p fun y1_ => (ld eI (Addr.add y1_ (v6.toNat * 13)) fun (y2_ : Int) => (K [(0, .slice v0p v0n v0c), (1, .slice v1p v1n v1c), (5, .slice v5p v5n v5c), (6, v6), (37, .bool (y2_ != 10))])))) := by kernel_rfl
@[go_sem] theorem c4_r6 (v0p : Option Addr) (v0n v0c : Nat) (v1p : Option Addr) (v1n v1c : Nat) (v5p : Option Addr) (v5n v5c : Nat) (v6 : Int) : RP c4 6 [(0, .slice v0p v0n v0c), (1, .slice v1p v1n v1c), (5, .slice v5p v5n v5c), (6, v6)] K =
 (rq (0 ≤ v6 ∧ v6 < v0n) (nn v0p fun y1_ => (ldn e_api_Rec 13 (Addr.add y1_ (v6.toNat * 13)) fun (y2_ : api_Rec) => (nwc #[y2_.Kind, y2_.Txn, y2_.Prev, y2_.Page, y2_.Act, str y2_.Key, str y2_.Old, str y2_.New, y2_.Next, .slice y2_.Images.1 y2_.Images.2.1 y2_.Images.2.2, .slice y2_.Table.1 y2_.Table.2.1 y2_.Table.2.2, y2_.Epoch, y2_.Node] 47 fun y3_ => (val eSl Tryz.prog (oB_append #[43, 43] 43 #[.slice v5p v5n v5c, .slice (some y3_) 1 1]) fun (y4_ : (Option Addr × Nat × Nat)) => (K [(0, .slice v0p v0n v0c), (1, .slice v1p v1n v1c), (5, .slice y4_.1 y4_.2.1 y4_.2.2), (6, v6)])))))) := by kernel_rfl
@[go_sem] theorem c4_r7 (v1p : Option Addr) (v1n v1c : Nat) (v5p : Option Addr) (v5n v5c : Nat) : RP c4 7 [(1, .slice v1p v1n v1c), (5, .slice v5p v5n v5c)] K =
 (cal eP Tryz.prog 15 #[.slice v5p v5n v5c, .int .i64 41] fun (y1_ : Option Addr) => (K [(1, .slice v1p v1n v1c), (7, y1_)])) := by kernel_rfl
@[go_sem] theorem c4_r8 (v1p : Option Addr) (v1n v1c : Nat) (v7 : Option Addr) : RP c4 8 [(1, .slice v1p v1n v1c), (7, v7)] K =
 (cal eP Tryz.prog 15 #[.slice none 0 0, .int .i64 0] fun (y1_ : Option Addr) => (K [(1, .slice v1p v1n v1c), (7, v7), (8, y1_)])) := by kernel_rfl
@[go_sem] theorem c4_r9 (v1p : Option Addr) (v1n v1c : Nat) (v7 v8 : Option Addr) : RP c4 9 [(1, .slice v1p v1n v1c), (7, v7), (8, v8)] K =
 (cnd (v7.isNone) (K [(1, .slice v1p v1n v1c), (7, v7), (8, v8), (58, true)]) (cnd (v8.isNone) (K [(1, .slice v1p v1n v1c), (7, v7), (8, v8), (58, true)]) (cal eI Tryz.prog 16 #[v7] fun (y1_ : Int) => (K [(1, .slice v1p v1n v1c), (7, v7), (8, v8), (58, .bool (y1_ != 0))])))) := by kernel_rfl
@[go_sem] theorem c4_r10 : RP c4 10 [] K =
 (K [(4, false)]) := by kernel_rfl
@[go_sem] theorem c4_r11 (v1p : Option Addr) (v1n v1c : Nat) (v7 v8 : Option Addr) : RP c4 11 [(1, .slice v1p v1n v1c), (7, v7), (8, v8)] K =
 (cal eP Tryz.prog 17 #[v7, .int .i64 1, .int .i64 0] fun (y1_ : Option Addr) => (K [(1, .slice v1p v1n v1c), (7, v7), (8, v8), (9, y1_)])) := by kernel_rfl
@[go_sem] theorem c4_r12 (v1p : Option Addr) (v1n v1c : Nat) (v7 v8 v9 : Option Addr) : RP c4 12 [(1, .slice v1p v1n v1c), (7, v7), (8, v8), (9, v9)] K =
 (K [(1, .slice v1p v1n v1c), (7, v7), (8, v8), (9, v9), (10, .slice none 0 0)]) := by kernel_rfl
@[go_sem] theorem c4_r13 (v1p : Option Addr) (v1n v1c : Nat) (v7 v8 v9 v10p : Option Addr) (v10n v10c : Nat) : RP c4 13 [(1, .slice v1p v1n v1c), (7, v7), (8, v8), (9, v9), (10, .slice v10p v10n v10c)] K =
 (K [(1, .slice v1p v1n v1c), (7, v7), (8, v8), (9, v9), (10, .slice v10p v10n v10c), (11, .int .i64 0)]) := by kernel_rfl
@[go_sem] theorem c4_r14 (v1p : Option Addr) (v1n v1c : Nat) (v7 v8 v9 v10p : Option Addr) (v10n v10c : Nat) (v11 : Int) : RP c4 14 [(1, .slice v1p v1n v1c), (7, v7), (8, v8), (9, v9), (10, .slice v10p v10n v10c), (11, v11)] K =
 (cnd (decide (v11 < 3000)) (cal eI Tryz.prog 18 #[v8] fun (y1_ : Int) => (cal eI Tryz.prog 19 #[v7] fun (y2_ : Int) => (K [(1, .slice v1p v1n v1c), (7, v7), (8, v8), (9, v9), (10, .slice v10p v10n v10c), (11, v11), (69, decide (y1_ < y2_))]))) (K [(1, .slice v1p v1n v1c), (7, v7), (8, v8), (9, v9), (10, .slice v10p v10n v10c), (11, v11), (69, false)])) := by kernel_rfl
@[go_sem] theorem c4_r15 (v1p : Option Addr) (v1n v1c : Nat) (v7 v8 v9 v10p : Option Addr) (v10n v10c : Nat) (v11 : Int) : RP c4 15 [(1, .slice v1p v1n v1c), (7, v7), (8, v8), (9, v9), (10, .slice v10p v10n v10c), (11, v11)] K =
 (K [(1, .slice v1p v1n v1c), (7, v7), (8, v8), (9, v9), (10, .slice v10p v10n v10c), (11, IntKind.wrap .i64 (v11 + 1))]) := by kernel_rfl
@[go_sem] theorem c4_r16 (v1p : Option Addr) (v1n v1c : Nat) (v7 v8 v9 v10p : Option Addr) (v10n v10c : Nat) (v11 : Int) : RP c4 16 [(1, .slice v1p v1n v1c), (7, v7), (8, v8), (9, v9), (10, .slice v10p v10n v10c), (11, v11)] K =
 (K [(1, .slice v1p v1n v1c), (7, v7), (8, v8), (9, v9), (10, .slice v10p v10n v10c), (11, v11), (74, .bool ((v10n : Int) == 0))]) := by kernel_rfl
@[go_sem] theorem c4_r17 (v1p : Option Addr) (v1n v1c : Nat) (v7 v8 v9 : Option Addr) (v11 : Int) : RP c4 17 [(1, .slice v1p v1n v1c), (7, v7), (8, v8), (9, v9), (11, v11)] K =
 (K [(1, .slice v1p v1n v1c), (7, v7), (8, v8), (9, v9), (11, v11), (12, .int .i64 0)]) := by kernel_rfl
@[go_sem] theorem c4_r18 (v1p : Option Addr) (v1n v1c : Nat) (v7 v8 v9 : Option Addr) (v11 v12 : Int) : RP c4 18 [(1, .slice v1p v1n v1c), (7, v7), (8, v8), (9, v9), (11, v11), (12, v12)] K =
 (cal eI Tryz.prog 18 #[v8] fun (y1_ : Int) => (K [(1, .slice v1p v1n v1c), (7, v7), (8, v8), (9, v9), (11, v11), (12, v12), (77, decide (1 < y1_))])) := by kernel_rfl
@[go_sem] theorem c4_r19 (v1p : Option Addr) (v1n v1c : Nat) (v7 v8 v9 : Option Addr) (v11 : Int) : RP c4 19 [(1, .slice v1p v1n v1c), (7, v7), (8, v8), (9, v9), (11, v11)] K =
 (K [(1, .slice v1p v1n v1c), (7, v7), (8, v8), (9, v9), (11, v11), (12, .int .i64 1)]) := by kernel_rfl
@[go_sem] theorem c4_r20 (v1p : Option Addr) (v1n v1c : Nat) (v7 v8 v9 : Option Addr) (v11 v12 : Int) : RP c4 20 [(1, .slice v1p v1n v1c), (7, v7), (8, v8), (9, v9), (11, v11), (12, v12)] K =
 (cal eI Tryz.prog 18 #[v8] fun (y1_ : Int) => (cal eSl Tryz.prog 20 #[v9, v_api_Msg (⟨(1 : Int), (1 : Int), (0 : Int), (1 : Int), v12, (0 : Int), y1_, (0 : Int), (0 : Int), ([] : List UInt8)⟩ : api_Msg), v11] fun (y2_ : (Option Addr × Nat × Nat)) => (K [(1, .slice v1p v1n v1c), (7, v7), (8, v8), (9, v9), (10, .slice y2_.1 y2_.2.1 y2_.2.2), (11, v11)]))) := by kernel_rfl
@[go_sem] theorem c4_r21 (v1p : Option Addr) (v1n v1c : Nat) (v7 v8 v9 v10p : Option Addr) (v10n v10c : Nat) (v11 : Int) : RP c4 21 [(1, .slice v1p v1n v1c), (7, v7), (8, v8), (9, v9), (10, .slice v10p v10n v10c), (11, v11)] K =
 (cnd ((v10n : Int) == 0) (K [(1, .slice v1p v1n v1c), (7, v7), (8, v8), (9, v9), (10, .slice v10p v10n v10c), (11, v11), (92, true)]) (K [(1, .slice v1p v1n v1c), (7, v7), (8, v8), (9, v9), (10, .slice v10p v10n v10c), (11, v11), (92, decide ((1 : Int) < (v10n : Int)))])) := by kernel_rfl
@[go_sem] theorem c4_r22 : RP c4 22 [] K =
 (K [(4, false)]) := by kernel_rfl
@[go_sem] theorem c4_r23 (v1p : Option Addr) (v1n v1c : Nat) (v7 v8 v9 v10p : Option Addr) (v10n v10c : Nat) (v11 : Int) : RP c4 23 [(1, .slice v1p v1n v1c), (7, v7), (8, v8), (9, v9), (10, .slice v10p v10n v10c), (11, v11)] K =
 (rq (0 ≤ (0 : Int) ∧ (0 : Int) < (v10n : Int)) (nn v10p fun y1_ => (ldn e_api_Msg 10 (Addr.add y1_ 0) fun (y2_ : api_Msg) => (nwc #[.int .i64 0, .int .i64 0, .int .i64 0, .int .i64 0, .int .i64 0, .int .i64 0, .int .i64 0, .int .i64 0, .int .i64 0, str ([] : List UInt8)] 55 fun y3_ => (stl [y2_.Kind, y2_.From, y2_.To, y2_.Epoch, y2_.Before, y2_.Start, y2_.End, y2_.Until, y2_.Holder, str y2_.Text] y3_ 0 (K [(1, .slice v1p v1n v1c), (7, v7), (8, v8), (9, v9), (11, v11), (13, y3_)])))))) := by kernel_rfl
@[go_sem] theorem c4_r24 (v1p : Option Addr) (v1n v1c : Nat) (v7 v8 v9 : Option Addr) (v11 : Int) (v13 : Addr) : RP c4 24 [(1, .slice v1p v1n v1c), (7, v7), (8, v8), (9, v9), (11, v11), (13, v13)] K =
 (K [(1, .slice v1p v1n v1c), (7, v7), (8, v8), (9, v9), (10, .slice none 0 0), (11, v11), (13, v13)]) := by kernel_rfl
@[go_sem] theorem c4_r25 (v1p : Option Addr) (v1n v1c : Nat) (v7 v8 v9 v10p : Option Addr) (v10n v10c : Nat) (v11 : Int) (v13 : Addr) : RP c4 25 [(1, .slice v1p v1n v1c), (7, v7), (8, v8), (9, v9), (10, .slice v10p v10n v10c), (11, v11), (13, v13)] K =
 (cnd (decide (v11 < v1n)) (rq (0 ≤ v11 ∧ v11 < v1n) (nn v1p fun y1_ => (ld eB (Addr.add y1_ (v11.toNat * 1)) fun (y2_ : Bool) => (cnd y2_ (rq ((10 : Int) ≠ 0) (K [(1, .slice v1p v1n v1c), (7, v7), (8, v8), (9, v9), (10, .slice v10p v10n v10c), (11, v11), (13, v13), (110, .bool ((v11.tmod (10 : Int)) != 9))])) (K [(1, .slice v1p v1n v1c), (7, v7), (8, v8), (9, v9), (10, .slice v10p v10n v10c), (11, v11), (13, v13), (110, false)]))))) (K [(1, .slice v1p v1n v1c), (7, v7), (8, v8), (9, v9), (10, .slice v10p v10n v10c), (11, v11), (13, v13), (110, false)])) := by kernel_rfl
@[go_sem] theorem c4_r26 (v1p : Option Addr) (v1n v1c : Nat) (v7 v8 v9 v10p : Option Addr) (v10n v10c : Nat) (v11 : Int) (v13 : Addr) : RP c4 26 [(1, .slice v1p v1n v1c), (7, v7), (8, v8), (9, v9), (10, .slice v10p v10n v10c), (11, v11), (13, v13)] K =
 (ph fun S0 => (ldq S0 eI v13 fun (y1_ : Int) => (cnd (y1_ != 2) (kpn S0 fun S1 => (kpn S1 fun S2 => (K [(1, .slice v1p v1n v1c), (7, v7), (8, v8), (9, v9), (10, .slice v10p v10n v10c), (11, v11), (13, v13), (131, true)]))) (ldq S0 eI (v13.add 5) fun (y2_ : Int) => (cal eI Tryz.prog 18 #[v8] fun (y3_ : Int) => (kpn S0 fun S3 => (cnd (y2_ != y3_) (kpn S3 fun S4 => (K [(1, .slice v1p v1n v1c), (7, v7), (8, v8), (9, v9), (10, .slice v10p v10n v10c), (11, v11), (13, v13), (131, true)])) (ldq S3 eI (v13.add 5) fun (y4_ : Int) => (ldq S3 eS (v13.add 9) fun (y5_ : List UInt8) => (cal eI Tryz.prog 19 #[v7] fun (y6_ : Int) => (kpn S3 fun S5 => (K [(1, .slice v1p v1n v1c), (7, v7), (8, v8), (9, v9), (10, .slice v10p v10n v10c), (11, v11), (13, v13), (131, decide (y6_ < (IntKind.wrap .i64 (y4_ + (y5_.length : Int)))))])))))))))))) := by kernel_rfl
@[go_sem] theorem c4_r27 : RP c4 27 [] K =
 (K [(4, false)]) := by kernel_rfl
@[go_sem] theorem c4_r28 (v1p : Option Addr) (v1n v1c : Nat) (v7 v8 v9 v10p : Option Addr) (v10n v10c : Nat) (v11 : Int) (v13 : Addr) : RP c4 28 [(1, .slice v1p v1n v1c), (7, v7), (8, v8), (9, v9), (10, .slice v10p v10n v10c), (11, v11), (13, v13)] K =
 (ld eS (v13.add 9) fun (y1_ : List UInt8) => (cal (eT2 eI eI) Tryz.prog 21 #[v8, str y1_] fun (y2_ : (Int × Int)) => (K [(1, .slice v1p v1n v1c), (7, v7), (8, v8), (9, v9), (10, .slice v10p v10n v10c), (11, v11), (15, y2_.2)]))) := by kernel_rfl
@[go_sem] theorem c4_r29 (v1p : Option Addr) (v1n v1c : Nat) (v7 v8 v9 v10p : Option Addr) (v10n v10c : Nat) (v11 v15 : Int) : RP c4 29 [(1, .slice v1p v1n v1c), (7, v7), (8, v8), (9, v9), (10, .slice v10p v10n v10c), (11, v11), (15, v15)] K =
 (cnd (v15 != 0) (K [(1, .slice v1p v1n v1c), (7, v7), (8, v8), (9, v9), (10, .slice v10p v10n v10c), (11, v11), (145, true)]) (cal eI Tryz.prog 16 #[v8] fun (y1_ : Int) => (K [(1, .slice v1p v1n v1c), (7, v7), (8, v8), (9, v9), (10, .slice v10p v10n v10c), (11, v11), (145, .bool (y1_ != 0))]))) := by kernel_rfl
@[go_sem] theorem c4_r30 : RP c4 30 [] K =
 (K [(4, false)]) := by kernel_rfl
@[go_sem] theorem c4_r31 (v1p : Option Addr) (v1n v1c : Nat) (v7 v8 v9 v10p : Option Addr) (v10n v10c : Nat) (v11 : Int) : RP c4 31 [(1, .slice v1p v1n v1c), (7, v7), (8, v8), (9, v9), (10, .slice v10p v10n v10c), (11, v11)] K =
 (cnd (decide (v11 < v1n)) (rq (0 ≤ v11 ∧ v11 < v1n) (nn v1p fun y1_ => (ld eB (Addr.add y1_ (v11.toNat * 1)) fun (y2_ : Bool) => (K [(1, .slice v1p v1n v1c), (7, v7), (8, v8), (9, v9), (10, .slice v10p v10n v10c), (11, v11), (155, y2_)])))) (K [(1, .slice v1p v1n v1c), (7, v7), (8, v8), (9, v9), (10, .slice v10p v10n v10c), (11, v11), (155, false)])) := by kernel_rfl
@[go_sem] theorem c4_r32 (v1p : Option Addr) (v1n v1c : Nat) (v7 v8 v9 : Option Addr) (v11 : Int) : RP c4 32 [(1, .slice v1p v1n v1c), (7, v7), (8, v8), (9, v9), (11, v11)] K =
 (cal eI Tryz.prog 18 #[v8] fun (y1_ : Int) => (cal eSl Tryz.prog 20 #[v9, v_api_Msg (⟨(3 : Int), (1 : Int), (0 : Int), (1 : Int), (0 : Int), (0 : Int), y1_, v11, (0 : Int), ([] : List UInt8)⟩ : api_Msg), v11] fun (y2_ : (Option Addr × Nat × Nat)) => (K [(1, .slice v1p v1n v1c), (7, v7), (8, v8), (9, v9), (10, .slice y2_.1 y2_.2.1 y2_.2.2), (11, v11)]))) := by kernel_rfl
@[go_sem] theorem c4_r33 (v1p : Option Addr) (v1n v1c : Nat) (v7 v8 v9 v10p : Option Addr) (v10n v10c : Nat) (v11 : Int) : RP c4 33 [(1, .slice v1p v1n v1c), (7, v7), (8, v8), (9, v9), (10, .slice v10p v10n v10c), (11, v11)] K =
 (cal eI Tryz.prog 22 #[v9] fun (y1_ : Int) => (cal eI Tryz.prog 18 #[v8] fun (y2_ : Int) => (K [(1, .slice v1p v1n v1c), (7, v7), (8, v8), (9, v9), (10, .slice v10p v10n v10c), (11, v11), (167, .bool (y1_ != y2_))]))) := by kernel_rfl
@[go_sem] theorem c4_r34 : RP c4 34 [] K =
 (K [(4, false)]) := by kernel_rfl
@[go_sem] theorem c4_r35 (v7 v8 : Option Addr) : RP c4 35 [(7, v7), (8, v8)] K =
 (cal (eT2 eS eI) Tryz.prog 23 #[v7, .int .i64 1, .int .i64 1000000] fun (y1_ : ((List UInt8) × Int)) => (K [(7, v7), (8, v8), (16, str y1_.1)])) := by kernel_rfl
@[go_sem] theorem c4_r36 (v7 v8 : Option Addr) (v16 : List UInt8) : RP c4 36 [(7, v7), (8, v8), (16, str v16)] K =
 (cal (eT2 eS eI) Tryz.prog 23 #[v8, .int .i64 1, .int .i64 1000000] fun (y1_ : ((List UInt8) × Int)) => (K [(7, v7), (8, v8), (16, str v16), (18, str y1_.1)])) := by kernel_rfl
@[go_sem] theorem c4_r37 (v7 v8 : Option Addr) (v16 v18 : List UInt8) : RP c4 37 [(7, v7), (8, v8), (16, str v16), (18, str v18)] K =
 (cal eI Tryz.prog 18 #[v8] fun (y1_ : Int) => (cal eI Tryz.prog 19 #[v7] fun (y2_ : Int) => (cnd (y1_ == y2_) (cnd (v16 == v18) (cal eB Tryz.prog 24 #[] fun (y3_ : Bool) => (K [(4, y3_)])) (K [(4, false)])) (K [(4, false)])))) := by kernel_rfl
@[go_sem] theorem c4_o : c4.lo 1000000 = [4] := rfl
@[go_sem] theorem c4_e (v4 : Bool) : RTp c4 [(4, v4)] k = (k (v4)) := by kernel_rfl
theorem c4_ok : (c4.P.follows .mixedOrders && okc c4 c4.body) = true := by kernel_rfl
theorem c4_fn (hρ : envA 0 args.toList = ρ) (hs : Nat.ble args.size 191 = true) (h : E L (D c4 (.seq (.reg 0) (.seq (.reg 1) (.seq (.seq (.reg 2) (.block 0 (.loop (.seq (.seq (.reg 3) (.cond (.tmp 29) (.skip) (.exit 0))) (.seq (.block 1 (.seq (.reg 5) (.cond (.tmp 37) (.reg 6) (.skip)))) (.reg 4)))))) (.seq (.reg 7) (.seq (.reg 8) (.seq (.seq (.reg 9) (.cond (.tmp 58) (.seq (.reg 10) (.ret)) (.skip))) (.seq (.reg 11) (.seq (.reg 12) (.seq (.seq (.reg 13) (.block 2 (.loop (.seq (.seq (.reg 14) (.cond (.tmp 69) (.skip) (.exit 2))) (.seq (.block 3 (.seq (.seq (.reg 16) (.cond (.tmp 74) (.seq (.reg 17) (.seq (.seq (.reg 18) (.cond (.tmp 77) (.reg 19) (.skip))) (.reg 20))) (.skip))) (.seq (.seq (.reg 21) (.cond (.tmp 92) (.seq (.reg 22) (.ret)) (.skip))) (.seq (.reg 23) (.seq (.reg 24) (.seq (.seq (.reg 25) (.cond (.tmp 110) (.exit 3) (.skip))) (.seq (.seq (.reg 26) (.cond (.tmp 131) (.seq (.reg 27) (.ret)) (.skip))) (.seq (.reg 28) (.seq (.seq (.reg 29) (.cond (.tmp 145) (.seq (.reg 30) (.ret)) (.skip))) (.seq (.seq (.reg 31) (.cond (.tmp 155) (.exit 3) (.skip))) (.seq (.reg 32) (.seq (.reg 33) (.cond (.tmp 167) (.seq (.reg 34) (.ret)) (.skip)))))))))))))) (.reg 15)))))) (.seq (.reg 35) (.seq (.reg 36) (.seq (.reg 37) (.ret))))))))))))) (fnQ c4 e G) ρ)) : E L (cal e Tryz.prog 4 args G) :=
  d_fn (c := c4) Tryz.func4 (by kernel_rfl) (by kernel_rfl) (by kernel_rfl) c4_ok (by kernel_rfl) (by kernel_rfl) hρ hs h
end Go.Sp
namespace Go.Sp
open Go Go.Proofs
set_option linter.unusedSimpArgs false
set_option linter.unusedVariables false
set_option maxRecDepth 10000
abbrev cBo (b : Bool) : List Value := [.bool b]
theorem cBo_len (b : Bool) : (cBo b).length = 1 := rfl
theorem bool_of {cs : List Value} (h : lfs [.b] cs) : ∃ x : Bool, cs = cBo x ∧ True := by
  rcases cs with _ | ⟨v0, _ | ⟨v1, r⟩⟩ <;> try (simp [lfs] at h; done)
  obtain ⟨⟨k, rfl⟩, _⟩ := h
  exact ⟨k, rfl, trivial⟩
def noe : List api_Rec → List api_Rec
  | [] => []
  | r :: l => if r.Kind = 10 then noe l else r :: noe l
theorem noe_app : ∀ a b, noe (a ++ b) = noe a ++ noe b
  | [], _ => rfl
  | x :: r, b => by
    have := noe_app r b
    rw [List.cons_append]
    simp only [noe]
    split
    · exact this
    · rw [this, List.cons_append]
theorem noe_len : ∀ a, (noe a).length ≤ a.length
  | [] => Nat.le_refl _
  | x :: r => by
    have := noe_len r
    unfold noe
    split <;> simp only [List.length_cons] <;> omega
theorem noe_mem : ∀ a, ∀ r ∈ noe a, r ∈ a ∧ r.Kind ≠ 10
  | [], _, h => by cases h
  | x :: l, r, h => by
    unfold noe at h
    split at h
    · obtain ⟨a, b⟩ := noe_mem l r h
      exact ⟨by simp [a], b⟩
    · rcases List.mem_cons.1 h with rfl | h
      · exact ⟨by simp, by assumption⟩
      · obtain ⟨a, b⟩ := noe_mem l r h
        exact ⟨by simp [a], b⟩
theorem rl_of {A : HP} : ∀ (l : List api_Rec), (∀ r ∈ l, RcOk A r) → ∃ cs, RL A l cs
  | [], _ => ⟨[], rfl, fun i r c h => by cases h⟩
  | r :: l, h => by
    obtain ⟨c, hc⟩ := rec_at (h r (by simp))
    obtain ⟨cs, n, g⟩ := rl_of l fun x hx => h x (by simp [hx])
    refine ⟨c :: cs, by simp [n], fun i r' c' h1 h2 => ?_⟩
    rcases i with _ | i
    · simp only [List.getElem?_cons_zero, Option.some.injEq] at h1 h2
      subst h1 h2
      exact hc
    · exact g i r' c' h1 h2
theorem rl_kind {A : HP} {l : List api_Rec} {cs : List Rc} (h : RL A l cs) (hk : ∀ r ∈ l, r.Kind ≠ 10) : ∀ c ∈ cs, c.kind ≠ 10 := fun c hc => by
  obtain ⟨i, hi, e⟩ := List.getElem_of_mem hc
  have hn := h.n
  have h1 : l[i]? = some (l[i]'(by omega)) := List.getElem?_eq_getElem (by omega)
  have h2 : cs[i]? = some c := by rw [List.getElem?_eq_getElem hi, e]
  have hr := h.g i _ _ h1 h2
  have : c.kind = (l[i]'(by omega)).Kind := congrArg Rc.kind hr.e
  rw [this]
  exact hk _ (List.getElem_mem _)
theorem rl_cons {A : HP} {l : List api_Rec} {cs : List Rc} (h : RL A l cs) : RL A (epR :: l) (epC :: cs) := ⟨by simp [h.n], fun i r c h1 h2 => by
  rcases i with _ | i
  · simp only [List.getElem?_cons_zero, Option.some.injEq] at h1 h2
    subst h1 h2
    exact ep_at A
  · exact h.g i r c h1 h2⟩
end Go.Sp
namespace Go.Sp
open Go Go.Proofs
set_option linter.unusedSimpArgs false
set_option linter.unusedVariables false
set_option maxRecDepth 100000
abbrev lgw (q : Nat) (ps : PS) : Lg := ⟨q, 0, 200, 1, flat ps, (flat ps).length, false⟩
abbrev lgx (q : Nat) (ps : PS) (j : Nat) : Lg := ⟨q, 0, 200, 1, flat (ps.take j), (flat (ps.take j)).length, false⟩
abbrev rest4 : Sk := (.seq (.seq (.reg 21) (.cond (.tmp 92) (.seq (.reg 22) (.ret)) (.skip))) (.seq (.reg 23) (.seq (.reg 24) (.seq (.seq (.reg 25) (.cond (.tmp 110) (.exit 3) (.skip))) (.seq (.seq (.reg 26) (.cond (.tmp 131) (.seq (.reg 27) (.ret)) (.skip))) (.seq (.reg 28) (.seq (.seq (.reg 29) (.cond (.tmp 145) (.seq (.reg 30) (.ret)) (.skip))) (.seq (.seq (.reg 31) (.cond (.tmp 155) (.exit 3) (.skip))) (.seq (.reg 32) (.seq (.reg 33) (.cond (.tmp 167) (.seq (.reg 34) (.ret)) (.skip))))))))))))
abbrev env4 (up : Option Addr) (n uc q q2 sq : Nat) (w : SlV) (i : Nat) : Env := [(1, .slice up n uc), (7, .pointer (some ⟨q, 0, none⟩)), (8, .pointer (some ⟨q2, 0, none⟩)), (9, .pointer (some ⟨sq, 0, none⟩)), (10, .slice w.1 w.2.1 w.2.2), (11, .int .i64 (i : Int))]
set_option maxHeartbeats 8000000 in
theorem h4t {A : HP} {L : List HP} {up : Option Addr} {uc : Nat} {lo : List Bool} (hL : Rs A (up, lo.length, uc) 1 (lo.flatMap cBo)) {q sb q2 sb2 sq : Nat} {ps : PS} (hP : Prs ps) (hle : (flat ps).length ≤ 58 * 200) (hrc : (recs (flat ps)).length ≤ 1000000) {i j : Nat} (i3 : i / 10 ≤ j) (hi3 : i < 3000) (hj : j < ps.length) (hp2 : ps.length ≤ 41) {Y : Dk} {ρ : Nat → Nat} (hW : Wi Y sb2 200 (lgx q2 ps j) ρ) {mt : Bool} {nx ac se : Int} (hac : ac ≤ ((siz ps j + 1 : Nat) : Int)) {mb c : Nat} {cs : List Value} (hcs : cs.take 10 = cMs (cmsg (lgw q ps) ((siz ps j + 1 : Nat) : Int))) {Q : KQ}
    (hQ : ∀ (x : Exit), (x = .normal ∨ x = .exit 3) → ∀ (j' : Nat) (Y' : Dk) (mt' : Bool) (nx' ac' se' : Int) (w : SlV) (ms : List api_Msg) (r : Env), prn [1, 7, 8, 9, 10, 11] r = env4 up lo.length uc q q2 sq w i → j' ≤ ps.length → (i + 1) / 10 ≤ j' → (∃ ρ, Wi Y' sb2 200 (lgx q2 ps j') ρ) → ac' ≤ ((siz ps j' + 1 : Nat) : Int) → (ms = [] ∨ ms = [cmsg (lgw q ps) ((siz ps j' + 1 : Nat) : Int)]) →
      E (ow 55 10 w (ms.flatMap cMs) :: lgp (lgx q2 ps j') sb2 :: dk Y' :: shp (shs sq q mt' nx' ac' se') :: lgp (lgw q ps) sb :: A :: L) (Q x r)) :
    E (ar mb 55 cs :: shp (shs sq q mt nx ac se) :: lgp (lgw q ps) sb :: lgp (lgx q2 ps j) sb2 :: dk Y :: A :: L) (D c4 rest4 Q (env4 up lo.length uc q q2 sq (some ⟨mb, 0, none⟩, 1, c) i)) := by
  have hlp := siz_all ps
  have hfl := flat_le ps j
  have hac' : ac ≤ (((flat (ps.take j)).length + 1 : Nat) : Int) := hac
  have EN := g28 (lgx q2 ps j) sb2 (by dsimp only; omega)
  have DU := g29 (lgw q ps) sb (by dsimp only; omega)
  dsimp only at EN DU
  have hs1 := siz_lt hP hj (Nat.le_refl _)
  have hs2 : (flat (ps.take j)).length < (flat ps).length := by rw [hlp]; exact hs1
  obtain ⟨tt, t1, t2, t3, t4⟩ := chunk_is (G := lgw q ps) rfl hP rfl hj
  have hpw := part_whole hP j tt
  have ei : IntKind.wrap .i64 ((i : Int) + 1) = ((i + 1 : Nat) : Int) := by rw [w64 (by omega) (by omega)]; omega
  rw [Nat.add_comm 1 (siz ps j)] at t3
  have hM : cmsg (lgw q ps) ((siz ps j + 1 : Nat) : Int) = ⟨2, 0, IntKind.wrap .i64 (1 - 0), 1, bfr ((siz ps j + 1 : Nat) : Int) 0 (spn (recs (flat ps))), ((siz ps j + 1 : Nat) : Int), (((flat ps).length + 1 : Nat) : Int), 0, 0, flat ((ps.drop j).take tt)⟩ := by
    rw [← t3]
    rfl
  have ht : (i : Int).tmod 10 = ((i % 10 : Nat) : Int) := by rw [tm (by omega)]; omega
  have hsm := flat_le ps (j + tt)
  have t5 := congrArg List.length t4
  rw [List.length_append] at t5
  generalize bfr ((siz ps j + 1 : Nat) : Int) 0 (spn (recs (flat ps))) = bb at hM
  generalize flat ((ps.drop j).take tt) = tx at *
  have ew : IntKind.wrap .i64 (((flat (ps.take j)).length : Int) + 1 + (tx.length : Int)) = (((flat (ps.take j)).length + 1 + tx.length : Nat) : Int) := by rw [w64 (by omega) (by omega)]; omega
  have ew2 : IntKind.wrap .i64 ((siz ps j : Int) + 1 + (tx.length : Int)) = (((flat (ps.take j)).length + 1 + tx.length : Nat) : Int) := ew
  have PUT := h21 (lgx q2 ps j) sb2 rfl (by dsimp only; omega) (by dsimp only; decide) hpw (by dsimp only; omega)
  have hWa := hW.append (s := tx) (by dsimp only; omega)
  obtain ⟨Y', ρ', PF, hW', _⟩ := wflush hWa
  dsimp only at PUT PF hW'
  rw [t4] at PUT PF hW'
  have EN2 := g28 (lgx q2 ps (j + tt)) sb2 (by dsimp only; omega)
  dsimp only at EN2
  have AK : ac ≤ (((flat (ps.take (j + tt))).length + 1 : Nat) : Int) → Fn eSl Tryz.prog 20 #[.pointer (some ⟨sq, 0, none⟩), v_api_Msg ⟨3, 1, 0, 1, 0, 0, (((flat (ps.take (j + tt))).length + 1 : Nat) : Int), (i : Int), 0, []⟩, .int .i64 (i : Int)] [shp (shs sq q mt nx ac se), lgp (lgw q ps) sb] fun y X => ∃ se' : Int, (∃ mc, y = (some ⟨mc, 0, none⟩, 1, 1) ∧ X = [ar mc 55 (cMs (cmsg (lgw q ps) (((flat (ps.take (j + tt))).length + 1 : Nat) : Int))), shp (shs sq q true (((flat (ps.take (j + tt))).length + 1 : Nat) : Int) (((flat (ps.take (j + tt))).length + 1 : Nat) : Int) se'), lgp (lgw q ps) sb]) ∨ (y = (none, 0, 0) ∧ X = [shp (shs sq q true (((flat (ps.take (j + tt))).length + 1 : Nat) : Int) (((flat (ps.take (j + tt))).length + 1 : Nat) : Int) se'), lgp (lgw q ps) sb]) := fun hac => by
    refine (h20a sq (lgw q ps) sb (by dsimp only; omega) hrc (Nat.le_refl _) mt nx ac se (((flat (ps.take (j + tt))).length + 1 : Nat) : Int) (i : Int) (by omega) (by dsimp only; omega) hac).mono ?_
    intro y X hX
    split at hX
    · exact ⟨_, .inl hX⟩
    · exact ⟨_, .inr hX⟩
  have AC : ∀ se' : Int, Fp eI Tryz.prog 22 #[.pointer (some ⟨sq, 0, none⟩)] [shp (shs sq q true (((flat (ps.take (j + tt))).length + 1 : Nat) : Int) (((flat (ps.take (j + tt))).length + 1 : Nat) : Int) se')] (((flat (ps.take (j + tt))).length + 1 : Nat) : Int) := fun se' => h22 (shs sq q true (((flat (ps.take (j + tt))).length + 1 : Nat) : Int) (((flat (ps.take (j + tt))).length + 1 : Nat) : Int) se')
  have hz1 : siz ps j = (flat (ps.take j)).length := rfl
  have hz2 : siz ps (j + tt) = (flat (ps.take (j + tt))).length := rfl
  have hlost : (∃ ua, up = some ua ∧ Rs A (some ua, lo.length, uc) 1 (lo.flatMap cBo) ∧ lo[i]? = some true) ∨ (∃ ua, up = some ua ∧ Rs A (some ua, lo.length, uc) 1 (lo.flatMap cBo) ∧ lo[i]? = some false) ∨ lo.length ≤ i := by
    rcases Nat.lt_or_ge i lo.length with h | h
    · obtain ⟨ua, hu⟩ := hL.ptr (by omega)
      have hx : lo[i]? = some lo[i] := List.getElem?_eq_getElem h
      cases hb : lo[i] with
      | true => rw [hb] at hx; exact .inl ⟨ua, hu, by rw [← hu]; exact hL, hx⟩
      | false => rw [hb] at hx; exact .inr (.inl ⟨ua, hu, by rw [← hu]; exact hL, hx⟩)
    · exact .inr (.inr h)
  unfold rest4 env4
  dsimp only
  repeat' (first | (with_reducible first | refine d_seq fun K hK => ?_ | (refine hK _ _ ?_; clear hK K) | (refine SG.p ?_; try intro b)) | refine i_c ?_ ?_ <;> intro hc <;> try simp only [push_cast, seval] at hc | refine i_x ?_ | clear hK K)
  all_goals try contradiction
  all_goals try (exfalso; omega)
  refine i_ldn (e := e_api_Msg) (cs := cMs (cmsg (lgw q ps) ((siz ps j + 1 : Nat) : Int))) (x := cmsg (lgw q ps) ((siz ps j + 1 : Nat) : Int)) hcs rfl rfl ?_
  rw [hM]
  rcases hlost with ⟨ua, hu, hLa, hx⟩ | ⟨ua, hu, hLa, hx⟩ | hlo
  · have hlo : i < lo.length := (List.getElem?_eq_some_iff.1 hx).1
    (repeat' (first | (first | (with_reducible first | refine d_seq fun K hK => ?_ | (refine hK _ _ ?_; clear hK K) | (refine SG.p ?_; try intro b)) | refine i_c ?_ ?_ <;> intro hc <;> try simp only [push_cast, seval] at hc | refine i_x ?_ | clear hK K) | (with_reducible first | refine i_clp EN ?_ | refine i_clp DU ?_ | refine i_clp EN2 ?_)))
    all_goals try contradiction
    all_goals try (exfalso; omega)
    (refine r_nn hu ?_; (repeat' (first | (with_reducible first | refine d_seq fun K hK => ?_ | (refine hK _ _ ?_; clear hK K) | (refine SG.p ?_; try intro b)) | refine i_c ?_ ?_ <;> intro hc <;> try simp only [push_cast, seval] at hc | refine i_x ?_ | clear hK K)); rw [show ua.add i = ua.add (i * 1) by rw [Nat.mul_one]]; refine i_s0 (e := eB) (y := true) hLa cBo_len hx rfl ?_; (repeat' (first | (with_reducible first | refine d_seq fun K hK => ?_ | (refine hK _ _ ?_; clear hK K) | (refine SG.p ?_; try intro b)) | refine i_c ?_ ?_ <;> intro hc <;> try simp only [push_cast, seval] at hc | refine i_x ?_ | clear hK K)); (all_goals (try contradiction)))
    · have h9 : ¬ i % 10 = 9 := by
        have := hc
        rw [ht] at this
        omega
      (refine r_nilow 55 10 ?_; show E (ow 55 10 (none, 0, 0) (List.flatMap cMs []) :: _) _; exact (hQ (.exit 3) (.inr rfl) (j) Y mt nx ac se (none, 0, 0) [] _ rfl (by omega) (by omega) ⟨_, by assumption⟩ (by omega) (.inl rfl)).sub SX.p)
    · (refine r_ph0 ?_; ((repeat' (first | (first | (with_reducible first | refine d_seq fun K hK => ?_ | (refine hK _ _ ?_; clear hK K) | (refine SG.p ?_; try intro b)) | refine i_c ?_ ?_ <;> intro hc <;> try simp only [push_cast, seval] at hc | refine i_x ?_ | clear hK K) | (with_reducible first | refine i_clp EN ?_ | refine i_clp DU ?_ | refine i_clp EN2 ?_)))); (all_goals (try contradiction)); (all_goals (try (exfalso; omega))); (all_goals (try (exfalso; rw [ew] at hc; omega))); (all_goals (try (exfalso; rw [ew2] at hc; omega))); refine i_clq PUT ?_; ((repeat' (first | (first | (with_reducible first | refine d_seq fun K hK => ?_ | (refine hK _ _ ?_; clear hK K) | (refine SG.p ?_; try intro b)) | refine i_c ?_ ?_ <;> intro hc <;> try simp only [push_cast, seval] at hc | refine i_x ?_ | clear hK K) | (with_reducible first | refine i_clp EN ?_ | refine i_clp DU ?_ | refine i_clp EN2 ?_)))); (all_goals (try contradiction)); refine i_clq PF ?_; ((repeat' (first | (first | (with_reducible first | refine d_seq fun K hK => ?_ | (refine hK _ _ ?_; clear hK K) | (refine SG.p ?_; try intro b)) | refine i_c ?_ ?_ <;> intro hc <;> try simp only [push_cast, seval] at hc | refine i_x ?_ | clear hK K) | (with_reducible first | refine i_clp EN ?_ | refine i_clp DU ?_ | refine i_clp EN2 ?_)))); (all_goals (try contradiction)); (all_goals (try (exfalso; omega))))
      (refine r_nn hu ?_; (repeat' (first | (with_reducible first | refine d_seq fun K hK => ?_ | (refine hK _ _ ?_; clear hK K) | (refine SG.p ?_; try intro b)) | refine i_c ?_ ?_ <;> intro hc <;> try simp only [push_cast, seval] at hc | refine i_x ?_ | clear hK K)); rw [show ua.add i = ua.add (i * 1) by rw [Nat.mul_one]]; refine i_s0 (e := eB) (y := true) hLa cBo_len hx rfl ?_; (repeat' (first | (with_reducible first | refine d_seq fun K hK => ?_ | (refine hK _ _ ?_; clear hK K) | (refine SG.p ?_; try intro b)) | refine i_c ?_ ?_ <;> intro hc <;> try simp only [push_cast, seval] at hc | refine i_x ?_ | clear hK K)); (all_goals (try contradiction)))
      (refine r_nilow 55 10 ?_; show E (ow 55 10 (none, 0, 0) (List.flatMap cMs []) :: _) _; exact (hQ (.exit 3) (.inr rfl) (j + tt) Y' mt nx ac se (none, 0, 0) [] _ rfl (by omega) (by omega) ⟨_, by assumption⟩ (by omega) (.inl rfl)).sub SX.p)
  · have hlo : i < lo.length := (List.getElem?_eq_some_iff.1 hx).1
    (repeat' (first | (first | (with_reducible first | refine d_seq fun K hK => ?_ | (refine hK _ _ ?_; clear hK K) | (refine SG.p ?_; try intro b)) | refine i_c ?_ ?_ <;> intro hc <;> try simp only [push_cast, seval] at hc | refine i_x ?_ | clear hK K) | (with_reducible first | refine i_clp EN ?_ | refine i_clp DU ?_ | refine i_clp EN2 ?_)))
    all_goals try contradiction
    all_goals try (exfalso; omega)
    (refine r_nn hu ?_; (repeat' (first | (with_reducible first | refine d_seq fun K hK => ?_ | (refine hK _ _ ?_; clear hK K) | (refine SG.p ?_; try intro b)) | refine i_c ?_ ?_ <;> intro hc <;> try simp only [push_cast, seval] at hc | refine i_x ?_ | clear hK K)); rw [show ua.add i = ua.add (i * 1) by rw [Nat.mul_one]]; refine i_s0 (e := eB) (y := false) hLa cBo_len hx rfl ?_; (repeat' (first | (with_reducible first | refine d_seq fun K hK => ?_ | (refine hK _ _ ?_; clear hK K) | (refine SG.p ?_; try intro b)) | refine i_c ?_ ?_ <;> intro hc <;> try simp only [push_cast, seval] at hc | refine i_x ?_ | clear hK K)); (all_goals (try contradiction)))
    (refine r_ph0 ?_; ((repeat' (first | (first | (with_reducible first | refine d_seq fun K hK => ?_ | (refine hK _ _ ?_; clear hK K) | (refine SG.p ?_; try intro b)) | refine i_c ?_ ?_ <;> intro hc <;> try simp only [push_cast, seval] at hc | refine i_x ?_ | clear hK K) | (with_reducible first | refine i_clp EN ?_ | refine i_clp DU ?_ | refine i_clp EN2 ?_)))); (all_goals (try contradiction)); (all_goals (try (exfalso; omega))); (all_goals (try (exfalso; rw [ew] at hc; omega))); (all_goals (try (exfalso; rw [ew2] at hc; omega))); refine i_clq PUT ?_; ((repeat' (first | (first | (with_reducible first | refine d_seq fun K hK => ?_ | (refine hK _ _ ?_; clear hK K) | (refine SG.p ?_; try intro b)) | refine i_c ?_ ?_ <;> intro hc <;> try simp only [push_cast, seval] at hc | refine i_x ?_ | clear hK K) | (with_reducible first | refine i_clp EN ?_ | refine i_clp DU ?_ | refine i_clp EN2 ?_)))); (all_goals (try contradiction)); refine i_clq PF ?_; ((repeat' (first | (first | (with_reducible first | refine d_seq fun K hK => ?_ | (refine hK _ _ ?_; clear hK K) | (refine SG.p ?_; try intro b)) | refine i_c ?_ ?_ <;> intro hc <;> try simp only [push_cast, seval] at hc | refine i_x ?_ | clear hK K) | (with_reducible first | refine i_clp EN ?_ | refine i_clp DU ?_ | refine i_clp EN2 ?_)))); (all_goals (try contradiction)); (all_goals (try (exfalso; omega))))
    (refine r_nn hu ?_; (repeat' (first | (with_reducible first | refine d_seq fun K hK => ?_ | (refine hK _ _ ?_; clear hK K) | (refine SG.p ?_; try intro b)) | refine i_c ?_ ?_ <;> intro hc <;> try simp only [push_cast, seval] at hc | refine i_x ?_ | clear hK K)); rw [show ua.add i = ua.add (i * 1) by rw [Nat.mul_one]]; refine i_s0 (e := eB) (y := false) hLa cBo_len hx rfl ?_; (repeat' (first | (with_reducible first | refine d_seq fun K hK => ?_ | (refine hK _ _ ?_; clear hK K) | (refine SG.p ?_; try intro b)) | refine i_c ?_ ?_ <;> intro hc <;> try simp only [push_cast, seval] at hc | refine i_x ?_ | clear hK K)); (all_goals (try contradiction)))
    (repeat' (first | (first | (with_reducible first | refine d_seq fun K hK => ?_ | (refine hK _ _ ?_; clear hK K) | (refine SG.p ?_; try intro b)) | refine i_c ?_ ?_ <;> intro hc <;> try simp only [push_cast, seval] at hc | refine i_x ?_ | clear hK K) | (with_reducible first | refine i_clp EN ?_ | refine i_clp DU ?_ | refine i_clp EN2 ?_)))
    (refine i_cal (AK (by omega)) ?_; rintro y X ⟨se', hX⟩; rcases hX with ⟨mc, rfl, rfl⟩ | ⟨rfl, rfl⟩; (focus (dsimp only [List.cons_append, List.nil_append]; (repeat' (first | (with_reducible first | refine d_seq fun K hK => ?_ | (refine hK _ _ ?_; clear hK K) | (refine SG.p ?_; try intro b)) | refine i_c ?_ ?_ <;> intro hc <;> try simp only [push_cast, seval] at hc | refine i_x ?_ | clear hK K)); refine i_clp (AC se') ?_; ((repeat' (first | (first | (with_reducible first | refine d_seq fun K hK => ?_ | (refine hK _ _ ?_; clear hK K) | (refine SG.p ?_; try intro b)) | refine i_c ?_ ?_ <;> intro hc <;> try simp only [push_cast, seval] at hc | refine i_x ?_ | clear hK K) | (with_reducible first | refine i_clp EN ?_ | refine i_clp DU ?_ | refine i_clp EN2 ?_)))); (all_goals (try contradiction)); refine i_arow (t := 55) (g := mc) (n := 1) (c := 1) (sz := 10) (xs := [cmsg (lgw q ps) (((flat (ps.take (j + tt))).length + 1 : Nat) : Int)].flatMap cMs) (tl := []) rfl rfl (by decide) (by decide) rfl ?_; exact (hQ .normal (.inl rfl) (j + tt) Y' true (((flat (ps.take (j + tt))).length + 1 : Nat) : Int) (((flat (ps.take (j + tt))).length + 1 : Nat) : Int) se' (some ⟨mc, 0, none⟩, 1, 1) [cmsg (lgw q ps) (((flat (ps.take (j + tt))).length + 1 : Nat) : Int)] _ rfl (by omega) (by omega) ⟨_, hW'⟩ (by omega) (.inr rfl)).sub SX.p)); (focus (dsimp only [List.cons_append, List.nil_append]; (repeat' (first | (with_reducible first | refine d_seq fun K hK => ?_ | (refine hK _ _ ?_; clear hK K) | (refine SG.p ?_; try intro b)) | refine i_c ?_ ?_ <;> intro hc <;> try simp only [push_cast, seval] at hc | refine i_x ?_ | clear hK K)); refine i_clp (AC se') ?_; ((repeat' (first | (first | (with_reducible first | refine d_seq fun K hK => ?_ | (refine hK _ _ ?_; clear hK K) | (refine SG.p ?_; try intro b)) | refine i_c ?_ ?_ <;> intro hc <;> try simp only [push_cast, seval] at hc | refine i_x ?_ | clear hK K) | (with_reducible first | refine i_clp EN ?_ | refine i_clp DU ?_ | refine i_clp EN2 ?_)))); (all_goals (try contradiction)); (refine r_nilow 55 10 ?_; show E (ow 55 10 (none, 0, 0) (List.flatMap cMs []) :: _) _; exact (hQ .normal (.inl rfl) (j + tt) Y' true (((flat (ps.take (j + tt))).length + 1 : Nat) : Int) (((flat (ps.take (j + tt))).length + 1 : Nat) : Int) se' (none, 0, 0) [] _ rfl (by omega) (by omega) ⟨_, by assumption⟩ (by omega) (.inl rfl)).sub SX.p))))
  · (repeat' (first | (first | (with_reducible first | refine d_seq fun K hK => ?_ | (refine hK _ _ ?_; clear hK K) | (refine SG.p ?_; try intro b)) | refine i_c ?_ ?_ <;> intro hc <;> try simp only [push_cast, seval] at hc | refine i_x ?_ | clear hK K) | (with_reducible first | refine i_clp EN ?_ | refine i_clp DU ?_ | refine i_clp EN2 ?_)))
    all_goals try contradiction
    all_goals try (exfalso; omega)
    (refine r_ph0 ?_; ((repeat' (first | (first | (with_reducible first | refine d_seq fun K hK => ?_ | (refine hK _ _ ?_; clear hK K) | (refine SG.p ?_; try intro b)) | refine i_c ?_ ?_ <;> intro hc <;> try simp only [push_cast, seval] at hc | refine i_x ?_ | clear hK K) | (with_reducible first | refine i_clp EN ?_ | refine i_clp DU ?_ | refine i_clp EN2 ?_)))); (all_goals (try contradiction)); (all_goals (try (exfalso; omega))); (all_goals (try (exfalso; rw [ew] at hc; omega))); (all_goals (try (exfalso; rw [ew2] at hc; omega))); refine i_clq PUT ?_; ((repeat' (first | (first | (with_reducible first | refine d_seq fun K hK => ?_ | (refine hK _ _ ?_; clear hK K) | (refine SG.p ?_; try intro b)) | refine i_c ?_ ?_ <;> intro hc <;> try simp only [push_cast, seval] at hc | refine i_x ?_ | clear hK K) | (with_reducible first | refine i_clp EN ?_ | refine i_clp DU ?_ | refine i_clp EN2 ?_)))); (all_goals (try contradiction)); refine i_clq PF ?_; ((repeat' (first | (first | (with_reducible first | refine d_seq fun K hK => ?_ | (refine hK _ _ ?_; clear hK K) | (refine SG.p ?_; try intro b)) | refine i_c ?_ ?_ <;> intro hc <;> try simp only [push_cast, seval] at hc | refine i_x ?_ | clear hK K) | (with_reducible first | refine i_clp EN ?_ | refine i_clp DU ?_ | refine i_clp EN2 ?_)))); (all_goals (try contradiction)); (all_goals (try (exfalso; omega))))
    (refine i_cal (AK (by omega)) ?_; rintro y X ⟨se', hX⟩; rcases hX with ⟨mc, rfl, rfl⟩ | ⟨rfl, rfl⟩; (focus (dsimp only [List.cons_append, List.nil_append]; (repeat' (first | (with_reducible first | refine d_seq fun K hK => ?_ | (refine hK _ _ ?_; clear hK K) | (refine SG.p ?_; try intro b)) | refine i_c ?_ ?_ <;> intro hc <;> try simp only [push_cast, seval] at hc | refine i_x ?_ | clear hK K)); refine i_clp (AC se') ?_; ((repeat' (first | (first | (with_reducible first | refine d_seq fun K hK => ?_ | (refine hK _ _ ?_; clear hK K) | (refine SG.p ?_; try intro b)) | refine i_c ?_ ?_ <;> intro hc <;> try simp only [push_cast, seval] at hc | refine i_x ?_ | clear hK K) | (with_reducible first | refine i_clp EN ?_ | refine i_clp DU ?_ | refine i_clp EN2 ?_)))); (all_goals (try contradiction)); refine i_arow (t := 55) (g := mc) (n := 1) (c := 1) (sz := 10) (xs := [cmsg (lgw q ps) (((flat (ps.take (j + tt))).length + 1 : Nat) : Int)].flatMap cMs) (tl := []) rfl rfl (by decide) (by decide) rfl ?_; exact (hQ .normal (.inl rfl) (j + tt) Y' true (((flat (ps.take (j + tt))).length + 1 : Nat) : Int) (((flat (ps.take (j + tt))).length + 1 : Nat) : Int) se' (some ⟨mc, 0, none⟩, 1, 1) [cmsg (lgw q ps) (((flat (ps.take (j + tt))).length + 1 : Nat) : Int)] _ rfl (by omega) (by omega) ⟨_, hW'⟩ (by omega) (.inr rfl)).sub SX.p)); (focus (dsimp only [List.cons_append, List.nil_append]; (repeat' (first | (with_reducible first | refine d_seq fun K hK => ?_ | (refine hK _ _ ?_; clear hK K) | (refine SG.p ?_; try intro b)) | refine i_c ?_ ?_ <;> intro hc <;> try simp only [push_cast, seval] at hc | refine i_x ?_ | clear hK K)); refine i_clp (AC se') ?_; ((repeat' (first | (first | (with_reducible first | refine d_seq fun K hK => ?_ | (refine hK _ _ ?_; clear hK K) | (refine SG.p ?_; try intro b)) | refine i_c ?_ ?_ <;> intro hc <;> try simp only [push_cast, seval] at hc | refine i_x ?_ | clear hK K) | (with_reducible first | refine i_clp EN ?_ | refine i_clp DU ?_ | refine i_clp EN2 ?_)))); (all_goals (try contradiction)); (refine r_nilow 55 10 ?_; show E (ow 55 10 (none, 0, 0) (List.flatMap cMs []) :: _) _; exact (hQ .normal (.inl rfl) (j + tt) Y' true (((flat (ps.take (j + tt))).length + 1 : Nat) : Int) (((flat (ps.take (j + tt))).length + 1 : Nat) : Int) se' (none, 0, 0) [] _ rfl (by omega) (by omega) ⟨_, by assumption⟩ (by omega) (.inl rfl)).sub SX.p))))
end Go.Sp
namespace Go.Sp
open Go Go.Proofs
set_option linter.unusedSimpArgs false
set_option linter.unusedVariables false
set_option maxRecDepth 100000
set_option maxHeartbeats 40000000 in
theorem h4 {A : HP} {t u : SlV} {l : List api_Rec} {lo : List Bool} (hR : Rs A t 13 (l.flatMap rcl)) (hC : ∀ r ∈ l, RcOk A r) (hL : Rs A u 1 (lo.flatMap cBo)) : Fp eB Tryz.prog 4 #[.slice t.1 t.2.1 t.2.2, .slice u.1 u.2.1 u.2.2] [A] true := fun L => by
  obtain ⟨tp, tn, tc⟩ := t
  obtain ⟨up, un, uc⟩ := u
  obtain rfl : tn = l.length := hR.len rcl_len (by decide)
  obtain rfl : un = lo.length := hL.len cBo_len (by decide)
  refine c4_fn rfl rfl ?_
  repeat' (first | (with_reducible first | refine d_seq fun K hK => ?_ | (refine hK _ _ ?_; clear hK K) | (refine SG.p ?_; try intro b)) | refine i_c ?_ ?_ <;> intro hc <;> try simp only [push_cast, seval] at hc | refine i_x ?_ | clear hK K)
  refine i_arow (t := 47) (g := b) (n := 1) (c := 1) (sz := 13) (xs := rcl epR) (tl := []) rfl rfl (by decide) (by decide) rfl ?_
  refine d_lp [0, 1, 5, 6] (fun t : Nat × SlV => [(0, .slice tp l.length tc), (1, .slice up lo.length uc), (5, .slice t.2.1 t.2.2.1 t.2.2.2), (6, .int .i64 (t.1 : Int))])
    (fun t => ow 47 13 t.2 ((epR :: noe (l.take t.1)).flatMap rcl) :: A :: L) (fun t => t.1 ≤ 40 ∧ t.1 ≤ l.length ∧ t.2.2.1 ≤ t.1 + 1) (fun t => 40 - t.1) (0, (some ⟨b, 0, none⟩, 1, 1)) rfl ?_ ⟨by dsimp only; omega, by dsimp only; omega, by dsimp only; omega⟩ ?_
  · show Sub (ow 47 13 (some ⟨b, 0, none⟩, 1, 1) (rcl epR) :: A :: L) _
    exact SX.p
  rintro ⟨i, ⟨sp, sn, sc⟩⟩ ⟨hi, hil, hs⟩
  dsimp only at hi hil hs ⊢
  by_cases h : i < l.length ∧ i < 40
  · have hx : l[i]? = some l[i] := List.getElem?_eq_getElem h.1
    have hd : noe (l.take (i + 1)) = noe (l.take i) ++ noe [l[i]] := by rw [List.take_add_one, hx, noe_app]; rfl
    have hs1 : noe [l[i]] = if l[i].Kind = 10 then [] else [l[i]] := rfl
    rw [hs1] at hd
    clear hs1
    generalize l[i] = r at *
    obtain ⟨ad, rfl⟩ := hR.ptr (by omega)
    have ei : IntKind.wrap .i64 ((i : Int) + 1) = ((i + 1 : Nat) : Int) := by rw [w64 (by omega) (by omega)]; omega
    repeat' (first | (with_reducible first | refine d_seq fun K hK => ?_ | (refine hK _ _ ?_; clear hK K) | (refine SG.p ?_; try intro b)) | refine i_c ?_ ?_ <;> intro hc <;> try simp only [push_cast, seval] at hc | refine i_x ?_ | clear hK K)
    all_goals try (exfalso; omega)
    refine i_s0 (y := r.Kind) hR rcl_len hx rfl ?_
    repeat' (first | (with_reducible first | refine d_seq fun K hK => ?_ | (refine hK _ _ ?_; clear hK K) | (refine SG.p ?_; try intro b)) | refine i_c ?_ ?_ <;> intro hc <;> try simp only [push_cast, seval] at hc | refine i_x ?_ | clear hK K)
    · rw [if_neg (by assumption)] at hd
      refine i_sn (y := r) hR rcl_len hx rfl ?_
      repeat' (first | (with_reducible first | refine d_seq fun K hK => ?_ | (refine hK _ _ ?_; clear hK K) | (refine SG.p ?_; try intro b)) | refine i_c ?_ ?_ <;> intro hc <;> try simp only [push_cast, seval] at hc | refine i_x ?_ | clear hK K)
      refine i_app (t := 47) (sz := 13) (m := 1) (news := rcl r) (sp, sn, sc) 160 (by kernel_rfl) (by decide) rfl rfl (by dsimp only; omega) fun o' ho' _ => ?_
      have e : (epR :: noe (l.take i)).flatMap rcl ++ rcl r = (epR :: noe (l.take (i + 1))).flatMap rcl := by rw [hd]; simp
      rw [e]
      repeat' (first | (with_reducible first | refine d_seq fun K hK => ?_ | (refine hK _ _ ?_; clear hK K) | (refine SG.p ?_; try intro b)) | refine i_c ?_ ?_ <;> intro hc <;> try simp only [push_cast, seval] at hc | refine i_x ?_ | clear hK K)
      rw [ei]
      exact i_bk (i + 1, o') rfl ⟨by dsimp only; omega, by dsimp only; omega, by dsimp only at ho' ⊢; omega⟩ (by dsimp only; omega)
    · rw [if_pos (by omega), List.append_nil] at hd
      rw [← hd, ei]
      exact i_bk (i + 1, (sp, sn, sc)) rfl ⟨by dsimp only; omega, by dsimp only; omega, by dsimp only; omega⟩ (by dsimp only; omega)
  · obtain ⟨cs, hcs⟩ := rl_of (noe (l.take i)) fun r hr => hC r (List.mem_of_mem_take (noe_mem _ r hr).1)
    have hck := rl_kind hcs fun r hr => (noe_mem _ r hr).2
    have hcn := noe_len (l.take i)
    rw [List.length_take] at hcn
    have hcs2 := rl_cons hcs
    have hcl := hcs.n
    generalize noe (l.take i) = rs at *
    repeat' (first | (with_reducible first | refine d_seq fun K hK => ?_ | (refine hK _ _ ?_; clear hK K) | (refine SG.p ?_; try intro b)) | refine i_c ?_ ?_ <;> intro hc <;> try simp only [push_cast, seval] at hc | refine i_x ?_ | clear hK K)
    all_goals try (exfalso; omega)
    all_goals
      refine i_ow (t := 47) (sz := 13) (sp, sn, sc) fun hR2 => ?_
      refine i_cal (h15 hR2 hcs2 (by simp only [List.length_cons]; omega) 41) ?_
      rintro y X ⟨q, sb, Y0, ρ0, rfl, rfl, hW0, _⟩
      obtain ⟨ps, hP, hlog, hp1, hp2, hsp⟩ := log_is q hck (by omega)
      rw [hlog] at hW0 ⊢
      dsimp only [List.cons_append, List.nil_append]
      repeat' (first | (with_reducible first | refine d_seq fun K hK => ?_ | (refine hK _ _ ?_; clear hK K) | (refine SG.p ?_; try intro b)) | refine i_c ?_ ?_ <;> intro hc <;> try simp only [push_cast, seval] at hc | refine i_x ?_ | clear hK K)
      refine i_cal h15n ?_
      rintro y X ⟨q2, sb2, Y2, ρ2, rfl, rfl, hW2, _⟩
      dsimp only [List.cons_append, List.nil_append]
      obtain ⟨Y1, ρ1, FL, hW1, _⟩ := wflush hW0
      have hle := hW1.ok.le
      dsimp only at hle
      repeat' (first | (with_reducible first | refine d_seq fun K hK => ?_ | (refine hK _ _ ?_; clear hK K) | (refine SG.p ?_; try intro b)) | refine i_c ?_ ?_ <;> intro hc <;> try simp only [push_cast, seval] at hc | refine i_x ?_ | clear hK K)
      all_goals try contradiction
      refine i_clq FL ?_
      repeat' (first | (with_reducible first | refine d_seq fun K hK => ?_ | (refine hK _ _ ?_; clear hK K) | (refine SG.p ?_; try intro b)) | refine i_c ?_ ?_ <;> intro hc <;> try simp only [push_cast, seval] at hc | refine i_x ?_ | clear hK K)
      all_goals try contradiction
      clear FL hW0 hW1 hlog hcs hcs2 hck hR2 hcl hcn
      refine i_cal (h17 q 1 (node := 0) (by decide)) ?_
      rintro y X ⟨sq, rfl, rfl⟩
      dsimp only [List.cons_append, List.nil_append]
      repeat' (first | (with_reducible first | refine d_seq fun K hK => ?_ | (refine hK _ _ ?_; clear hK K) | (refine SG.p ?_; try intro b)) | refine i_c ?_ ?_ <;> intro hc <;> try simp only [push_cast, seval] at hc | refine i_x ?_ | clear hK K)
      refine r_nilow 55 10 ?_
      have hlp := siz_all ps
      have hrc : (recs (flat ps)).length ≤ 1000000 := by
        rw [flat_recs hP]
        have : ∀ (x : PS) (a : Nat), (rl x a).length = x.length := fun x => by
          induction x with
          | nil => intro a; rfl
          | cons y x ih => intro a; show (rl x _).length + 1 = _; rw [ih]; rfl
        rw [this]
        omega
      refine d_lp [1, 7, 8, 9, 10, 11] (fun t : Nat × Nat × Dk × (Bool × Int × Int × Int) × SlV × List api_Msg => [(1, .slice up lo.length uc), (7, .pointer (some ⟨q, 0, none⟩)), (8, .pointer (some ⟨q2, 0, none⟩)), (9, .pointer (some ⟨sq, 0, none⟩)), (10, .slice t.2.2.2.2.1.1 t.2.2.2.2.1.2.1 t.2.2.2.2.1.2.2), (11, .int .i64 (t.1 : Int))])
        (fun t => ow 55 10 t.2.2.2.2.1 (t.2.2.2.2.2.flatMap cMs) :: lgp (lgx q2 ps t.2.1) sb2 :: dk t.2.2.1 :: shp (shs sq q t.2.2.2.1.1 t.2.2.2.1.2.1 t.2.2.2.1.2.2.1 t.2.2.2.1.2.2.2) :: lgp (lgw q ps) sb :: A :: L)
        (fun t => t.1 ≤ 3000 ∧ t.2.1 ≤ ps.length ∧ t.1 / 10 ≤ t.2.1 ∧ (∃ ρ, Wi t.2.2.1 sb2 200 (lgx q2 ps t.2.1) ρ) ∧ t.2.2.2.1.2.2.1 ≤ ((siz ps t.2.1 + 1 : Nat) : Int) ∧ (t.2.2.2.2.2 = [] ∨ t.2.2.2.2.2 = [cmsg (lgw q ps) ((siz ps t.2.1 + 1 : Nat) : Int)]))
        (fun t => 3000 - t.1) (0, 0, Y2, (false, 0, 0, 0), (none, 0, 0), []) rfl ?_ ⟨by dsimp only; omega, by dsimp only; omega, by dsimp only; omega, ⟨ρ2, hW2⟩, by dsimp only; omega, .inl rfl⟩ ?_
      · show Sub (ow 55 10 (none, 0, 0) [] :: lgp (lg0 q2) sb2 :: dk Y2 :: shp (shs sq q false 0 0 0) :: lgp (lgw q ps) sb :: A :: L) _
        exact SX.p
      clear hW2
      rintro ⟨i, j, Y, ⟨mt, nx, ac, se⟩, ⟨wp, wn, wc⟩, ms⟩ ⟨i1, i2, i3, ⟨ρ, hW⟩, hac, hms⟩
      dsimp only at i1 i2 i3 hW hac hms ⊢
      have hfl := flat_le ps j
      have hac' : ac ≤ (((flat (ps.take j)).length + 1 : Nat) : Int) := hac
      have EN := g28 (lgx q2 ps j) sb2 (by dsimp only; omega)
      have DU := g29 (lgw q ps) sb (by dsimp only; omega)
      dsimp only at EN DU
      by_cases hj : j < ps.length
      · have hs1 := siz_lt hP hj (Nat.le_refl _)
        have hs2 : (flat (ps.take j)).length < (flat ps).length := by rw [hlp]; exact hs1
        have ei : IntKind.wrap .i64 ((i : Int) + 1) = ((i + 1 : Nat) : Int) := by rw [w64 (by omega) (by omega)]; omega
        rcases hms with rfl | rfl
        · refine i_ow (t := 55) (sz := 10) (wp, wn, wc) fun hw => ?_
          obtain rfl : wn = 0 := by
            have := hw.1
            simp only [List.flatMap_nil, List.length_nil] at this
            omega
          have TK : ∀ be : Int, (be = 0 ∧ siz ps j = 0 ∨ be = 1) → Fn eSl Tryz.prog 20 #[.pointer (some ⟨sq, 0, none⟩), v_api_Msg ⟨1, 1, 0, 1, be, 0, ((siz ps j + 1 : Nat) : Int), 0, 0, []⟩, .int .i64 (i : Int)] [shp (shs sq q mt nx ac se), lgp (lgw q ps) sb] fun y X => ∃ b, y = (some ⟨b, 0, none⟩, 1, 1) ∧ X = [ar b 55 (cMs (cmsg (lgw q ps) ((siz ps j + 1 : Nat) : Int))), shp (shs sq q true ((siz ps j + 1 : Nat) : Int) ac (IntKind.wrap .i64 (se + 1))), lgp (lgw q ps) sb] := fun be hbe => by
            have hp : prt be ((lgw q ps).durable + 1 : Nat) 0 1 (spn (recs (lgw q ps).all)) = (if be < 1 then (0, 1) else (1, (((flat ps).length + 1 : Nat) : Int))) := by
              show prt be _ 0 1 (spn (recs (flat ps))) = _
              rw [hsp]
              simp [prt, nxs]
            exact h20h (shs sq q mt nx ac se) (lgw q ps) sb rfl (by dsimp only; omega) hrc (Nat.le_refl _) ⟨1, 1, 0, 1, be, 0, ((siz ps j + 1 : Nat) : Int), 0, 0, []⟩ (i : Int) rfl rfl (by
              rw [hp]; rcases hbe with ⟨rfl, _⟩ | rfl <;> simp) (by
              rw [hp]; rcases hbe with ⟨rfl, h0⟩ | rfl
              · dsimp only; rw [h0]; simp
              · simp; omega) (by dsimp only; omega)
          (repeat' ((fail_if_success with_reducible refine (id : E _ (D _ rest4 _ _) → E _ (D _ rest4 _ _)) ?_); first | (first | (with_reducible first | refine d_seq fun K hK => ?_ | (refine hK _ _ ?_; clear hK K) | (refine SG.p ?_; try intro b)) | refine i_c ?_ ?_ <;> intro hc <;> try simp only [push_cast, seval] at hc | refine i_x ?_ | clear hK K) | (with_reducible first | refine i_clp EN ?_ | refine i_clp DU ?_)))
          all_goals try contradiction
          all_goals try (exfalso; omega)
          all_goals
            refine i_cal (TK _ (by first | exact .inr rfl | exact .inl ⟨rfl, by show (flat (ps.take j)).length = 0; omega⟩)) ?_
            rintro y X ⟨mb, rfl, rfl⟩
            dsimp only [List.cons_append, List.nil_append]
            (repeat' ((fail_if_success with_reducible refine (id : E _ (D _ rest4 _ _) → E _ (D _ rest4 _ _)) ?_); first | (first | (with_reducible first | refine d_seq fun K hK => ?_ | (refine hK _ _ ?_; clear hK K) | (refine SG.p ?_; try intro b)) | refine i_c ?_ ?_ <;> intro hc <;> try simp only [push_cast, seval] at hc | refine i_x ?_ | clear hK K) | (with_reducible first | refine i_clp EN ?_ | refine i_clp DU ?_)))
            (refine (h4t (L := L) (sb := sb) (mb := mb) (mt := true) (nx := ((siz ps j + 1 : Nat) : Int)) (se := IntKind.wrap .i64 (se + 1)) (cs := cMs (cmsg (lgw q ps) ((siz ps j + 1 : Nat) : Int))) hL hP hle hrc i3 (by omega) hj hp2 hW hac rfl ?_).sub SX.p; intro x hx j' Y' mt' nx' ac' se' w ms r hr hj' hi' hW' hac' hms'; rcases hx with rfl | rfl; (all_goals (simp only [go_sem]; refine hK _ _ ?_; refine d_reg ?_; simp only [c4_i]; rw [hr]; simp only [go_sem]; rw [ei]; exact i_bk (i + 1, j', Y', (mt', nx', ac', se'), w, ms) rfl ⟨by dsimp only; omega, hj', hi', hW', hac', hms'⟩ (by dsimp only; omega))))
        · refine i_ow (t := 55) (sz := 10) (wp, wn, wc) fun hw => ?_
          obtain rfl : wn = 1 := by
            have h1 : 10 = wn * 10 := hw.1
            omega
          refine i_owar (t := 55) (sz := 10) (p := wp) (n := 1) (c := wc) (xs := [cmsg (lgw q ps) ((siz ps j + 1 : Nat) : Int)].flatMap cMs) (by decide) ?_
          intro g tl hg _ _ _ _
          subst hg
          (repeat' ((fail_if_success with_reducible refine (id : E _ (D _ rest4 _ _) → E _ (D _ rest4 _ _)) ?_); first | (first | (with_reducible first | refine d_seq fun K hK => ?_ | (refine hK _ _ ?_; clear hK K) | (refine SG.p ?_; try intro b)) | refine i_c ?_ ?_ <;> intro hc <;> try simp only [push_cast, seval] at hc | refine i_x ?_ | clear hK K) | (with_reducible first | refine i_clp EN ?_ | refine i_clp DU ?_)))
          all_goals try contradiction
          all_goals try (exfalso; omega)
          (refine (h4t (L := L) (sb := sb) (mb := g) (mt := mt) (nx := nx) (se := se) (cs := [cmsg (lgw q ps) ((siz ps j + 1 : Nat) : Int)].flatMap cMs ++ tl) hL hP hle hrc i3 (by omega) hj hp2 hW hac rfl ?_).sub SX.p; intro x hx j' Y' mt' nx' ac' se' w ms r hr hj' hi' hW' hac' hms'; rcases hx with rfl | rfl; (all_goals (simp only [go_sem]; refine hK _ _ ?_; refine d_reg ?_; simp only [c4_i]; rw [hr]; simp only [go_sem]; rw [ei]; exact i_bk (i + 1, j', Y', (mt', nx', ac', se'), w, ms) rfl ⟨by dsimp only; omega, hj', hi', hW', hac', hms'⟩ (by dsimp only; omega))))
      · obtain rfl : j = ps.length := by omega
        have FW := g39 (lgw q ps) sb (by dsimp only; omega) (Nat.le_refl _) 1 1000000 (by unfold wf64; omega)
        have FX := g39 (lgx q2 ps ps.length) sb2 (by dsimp only; omega) (Nat.le_refl _) 1 1000000 (by unfold wf64; omega)
        have ef : (lgx q2 ps ps.length).from 1 1000000 = (lgw q ps).from 1 1000000 := by
          unfold Lg.from
          dsimp only
          simp only [List.take_length]
        rw [ef] at FX
        rw [List.take_length] at hfl EN
        generalize (lgw q ps).from 1 1000000 = fr at *
        obtain ⟨ft, fe⟩ := fr
        have EN2 := EN
        (repeat' (first | (first | (with_reducible first | refine d_seq fun K hK => ?_ | (refine hK _ _ ?_; clear hK K) | (refine SG.p ?_; try intro b)) | refine i_c ?_ ?_ <;> intro hc <;> try simp only [push_cast, seval] at hc | refine i_x ?_ | clear hK K) | (with_reducible first | refine i_clp EN ?_ | refine i_clp DU ?_)))
        all_goals try contradiction
        all_goals try (exfalso; omega)
        all_goals
          refine i_clp FW ?_
          (repeat' (first | (first | (with_reducible first | refine d_seq fun K hK => ?_ | (refine hK _ _ ?_; clear hK K) | (refine SG.p ?_; try intro b)) | refine i_c ?_ ?_ <;> intro hc <;> try simp only [push_cast, seval] at hc | refine i_x ?_ | clear hK K) | (with_reducible first | refine i_clp EN ?_ | refine i_clp DU ?_)))
          refine i_clp FX ?_
          (repeat' (first | (first | (with_reducible first | refine d_seq fun K hK => ?_ | (refine hK _ _ ?_; clear hK K) | (refine SG.p ?_; try intro b)) | refine i_c ?_ ?_ <;> intro hc <;> try simp only [push_cast, seval] at hc | refine i_x ?_ | clear hK K) | (with_reducible first | refine i_clp EN ?_ | refine i_clp DU ?_)))
          all_goals try contradiction
          all_goals try (exfalso; omega)
          refine i_clp h24 ?_
          (repeat' (first | (first | (with_reducible first | refine d_seq fun K hK => ?_ | (refine hK _ _ ?_; clear hK K) | (refine SG.p ?_; try intro b)) | refine i_c ?_ ?_ <;> intro hc <;> try simp only [push_cast, seval] at hc | refine i_x ?_ | clear hK K) | (with_reducible first | refine i_clp EN ?_ | refine i_clp DU ?_)))
          (with_reducible first | apply i_ret0 | apply i_ret2 | apply i_ret3 | apply i_ret); exact rfl
          rfl
end Go.Sp
