/- Texts of a proof, one behind the other: Gpb0 Gpc0 Y1 Y2 K29 Y3 Y4 Y8 Z1 Z2 Z3 Z4 Z5 Z6 Z7 Y5 Z8. No condition. -/
import Derived.Test.YtdaochacbbaihaaGreatM0fe3bdfc
import Derived.Test.YtdaochacbbaihaaGreatM05f53d0a
import Derived.Maps.Own
import Derived.Maps.Views
import Derived.Sort.KeysCollected
import Derived.Lib.SlKeysI
import Derived.Test.YtdaochacbbaihaaGreatM13e44783
import Derived.Test.YtdaochacbbaihaaGreatM6b8bf837
namespace Go.Sp
open Go
set_option maxRecDepth 100000
set_option linter.unusedVariables false
open Go.Proofs
variable (K : Env → W) (k : Value → W) {e : Enc} {args : Array Value} {G : e.α → W} {L : List HP} {ρ : Env}
attribute [local instance] cI cB cP cA
noncomputable def c9 := cf Tryz.f9 96 [(0, [0, 1, 2]), (1, [0, 1, 2]), (2, [0, 1, 2, 7]), (3, [0, 1, 2, 7, 8]), (4, [0, 1, 2, 7, 8]), (5, [0, 1, 2, 7, 8]), (6, [0, 1, 2, 7, 8, 9]), (7, [0, 1, 2, 7, 8, 9]), (8, [0, 1, 2, 7, 8, 9, 10]), (9, [0, 1, 2, 7, 8, 9, 11, 12]), (10, [0, 1, 2, 7, 8, 9, 11]), (11, [0, 1, 2, 7, 8, 9, 11, 13, 15]), (12, []), (13, [0, 1, 2, 7, 8, 9, 11, 13]), (14, [0, 1, 2, 7, 8, 9, 11]), (15, [0, 1, 2, 7, 8, 9]), (16, [0, 1, 2, 7, 8, 9]), (17, [])] [(0, [0, 1, 2]), (1, [0, 1, 2, 7]), (2, [0, 1, 2, 7, 8]), (3, [0, 1, 2, 7, 8, 23]), (4, [0, 1, 2, 7, 8]), (5, [0, 1, 2, 7, 8, 9]), (6, [0, 1, 2, 7, 8, 9, 47]), (7, [0, 1, 2, 7, 8, 9, 10]), (8, [0, 1, 2, 7, 8, 9, 11, 12]), (9, [0, 1, 2, 7, 8, 9, 11, 72]), (10, [0, 1, 2, 7, 8, 9, 11, 13, 15]), (11, [0, 1, 2, 7, 8, 9, 11, 13, 81]), (12, [6]), (13, [0, 1, 2, 7, 8, 9, 11]), (14, [0, 1, 2, 7, 8, 9]), (15, [0, 1, 2, 7, 8, 9, 92]), (16, [0, 1, 2, 7, 8]), (17, [6]), (1000000, [6])] [(7, (true, [(0, 1), (1, 0), (2, 1), (3, 1), (4, 0), (5, 1), (6, 1), (7, 0), (8, 1), (9, 0), (10, 1), (11, 0), (12, 1), (13, 0), (14, 1), (15, 0), (16, 1), (17, 2), (18, 4)]))] []
@[go_sem] theorem c9_i : c9.li 0 = [0, 1, 2] ∧ c9.li 1 = [0, 1, 2] ∧ c9.li 2 = [0, 1, 2, 7] ∧ c9.li 3 = [0, 1, 2, 7, 8] ∧ c9.li 4 = [0, 1, 2, 7, 8] ∧ c9.li 5 = [0, 1, 2, 7, 8] ∧ c9.li 6 = [0, 1, 2, 7, 8, 9] ∧ c9.li 7 = [0, 1, 2, 7, 8, 9] ∧ c9.li 8 = [0, 1, 2, 7, 8, 9, 10] ∧ c9.li 9 = [0, 1, 2, 7, 8, 9, 11, 12] ∧ c9.li 10 = [0, 1, 2, 7, 8, 9, 11] ∧ c9.li 11 = [0, 1, 2, 7, 8, 9, 11, 13, 15] ∧ c9.li 12 = [] ∧ c9.li 13 = [0, 1, 2, 7, 8, 9, 11, 13] ∧ c9.li 14 = [0, 1, 2, 7, 8, 9, 11] ∧ c9.li 15 = [0, 1, 2, 7, 8, 9] ∧ c9.li 16 = [0, 1, 2, 7, 8, 9] ∧ c9.li 17 = [] := ⟨rfl, rfl, rfl, rfl, rfl, rfl, rfl, rfl, rfl, rfl, rfl, rfl, rfl, rfl, rfl, rfl, rfl, rfl⟩
@[go_sem] theorem c9_r0 (v0 v1 v2p : Option Addr) (v2n v2c : Nat) : RP c9 0 [(0, v0), (1, v1), (2, .slice v2p v2n v2c)] K =
 (K [(0, v0), (1, v1), (2, .slice v2p v2n v2c)]) := by kernel_rfl
@[go_sem] theorem c9_r1 (v0 v1 v2p : Option Addr) (v2n v2c : Nat) : RP c9 1 [(0, v0), (1, v1), (2, .slice v2p v2n v2c)] K =
 (nwc ((List.replicate 4 (0 : Int)).map eI.enc).toArray 81 fun y1_ => (K [(0, v0), (1, v1), (2, .slice v2p v2n v2c), (7, y1_)])) := by kernel_rfl
@[go_sem] theorem c9_r2 (v0 v1 v2p : Option Addr) (v2n v2c : Nat) (v7 : Addr) : RP c9 2 [(0, v0), (1, v1), (2, .slice v2p v2n v2c), (7, v7)] K =
 (K [(0, v0), (1, v1), (2, .slice v2p v2n v2c), (7, v7), (8, .int .i64 0)]) := by kernel_rfl
@[go_sem] theorem c9_r3 (v0 v1 v2p : Option Addr) (v2n v2c : Nat) (v7 : Addr) (v8 : Int) : RP c9 3 [(0, v0), (1, v1), (2, .slice v2p v2n v2c), (7, v7), (8, v8)] K =
 (cnd (decide (v8 < v2n)) (K [(0, v0), (1, v1), (2, .slice v2p v2n v2c), (7, v7), (8, v8), (23, decide (v8 < 60))]) (K [(0, v0), (1, v1), (2, .slice v2p v2n v2c), (7, v7), (8, v8), (23, false)])) := by kernel_rfl
@[go_sem] theorem c9_r4 (v0 v1 v2p : Option Addr) (v2n v2c : Nat) (v7 : Addr) (v8 : Int) : RP c9 4 [(0, v0), (1, v1), (2, .slice v2p v2n v2c), (7, v7), (8, v8)] K =
 (K [(0, v0), (1, v1), (2, .slice v2p v2n v2c), (7, v7), (8, IntKind.wrap .i64 (v8 + 1))]) := by kernel_rfl
@[go_sem] theorem c9_r5 (v0 v1 v2p : Option Addr) (v2n v2c : Nat) (v7 : Addr) (v8 : Int) : RP c9 5 [(0, v0), (1, v1), (2, .slice v2p v2n v2c), (7, v7), (8, v8)] K =
 (rq (0 ≤ v8 ∧ v8 < v2n) (nn v2p fun y1_ => (ldn e_gharrylaw14_Op 5 (Addr.add y1_ (v8.toNat * 5)) fun (y2_ : gharrylaw14_Op) => (nwc #[.int .i64 0, .int .i64 0, str ([] : List UInt8), str ([] : List UInt8), str ([] : List UInt8)] 83 fun y3_ => (stl [y2_.Kind, y2_.Who, str y2_.Key, str y2_.Old, str y2_.New] y3_ 0 (K [(0, v0), (1, v1), (2, .slice v2p v2n v2c), (7, v7), (8, v8), (9, y3_)])))))) := by kernel_rfl
@[go_sem] theorem c9_r6 (v0 v1 v2p : Option Addr) (v2n v2c : Nat) (v7 : Addr) (v8 : Int) (v9 : Addr) : RP c9 6 [(0, v0), (1, v1), (2, .slice v2p v2n v2c), (7, v7), (8, v8), (9, v9)] K =
 (ld eI (v9.add 1) fun (y1_ : Int) => (cnd (decide (y1_ < 0)) (K [(0, v0), (1, v1), (2, .slice v2p v2n v2c), (7, v7), (8, v8), (9, v9), (47, true)]) (ld eI (v9.add 1) fun (y2_ : Int) => (cnd (decide (3 < y2_)) (K [(0, v0), (1, v1), (2, .slice v2p v2n v2c), (7, v7), (8, v8), (9, v9), (47, true)]) (ld eI v9 fun (y3_ : Int) => (cnd (decide (y3_ < 0)) (K [(0, v0), (1, v1), (2, .slice v2p v2n v2c), (7, v7), (8, v8), (9, v9), (47, true)]) (ld eI v9 fun (y4_ : Int) => (K [(0, v0), (1, v1), (2, .slice v2p v2n v2c), (7, v7), (8, v8), (9, v9), (47, decide (5 < y4_))])))))))) := by kernel_rfl
@[go_sem] theorem c9_r7 (v0 v1 v2p : Option Addr) (v2n v2c : Nat) (v7 : Addr) (v8 : Int) (v9 : Addr) : RP c9 7 [(0, v0), (1, v1), (2, .slice v2p v2n v2c), (7, v7), (8, v8), (9, v9)] K =
 (ph fun S0 => (ldq S0 eI v9 fun (y1_ : Int) => (ldq S0 eI (v9.add 1) fun (y2_ : Int) => (ldq S0 eI (v9.add 1) fun (y3_ : Int) => (rq (0 ≤ y3_ ∧ y3_ < ((4 : Nat) : Int)) (ldq S0 eI (Addr.add v7 (y3_.toNat * 1)) fun (y4_ : Int) => (ldq S0 eS (v9.add 2) fun (y5_ : List UInt8) => (ldq S0 eS (v9.add 3) fun (y6_ : List UInt8) => (ldq S0 eS (v9.add 4) fun (y7_ : List UInt8) => (nwc #[.int .i64 0, .int .i64 0, .int .i64 0, .int .i64 0, .int .i64 0, str ([] : List UInt8), str ([] : List UInt8), str ([] : List UInt8), .int .i64 0, .slice none 0 0, .slice none 0 0, .int .i64 0, .int .i64 0] 47 fun y8_ => (kpn S0 fun S1 => (stl [.int .i64 ((⟨(IntKind.wrap .i64 ((3 : Int) + y1_)), (IntKind.wrap .i64 ((10 : Int) + y2_)), y4_, (0 : Int), (3 : Int), y5_, y6_, y7_, (0 : Int), (none, 0, 0), (none, 0, 0), (0 : Int), (0 : Int)⟩ : api_Rec).Kind), .int .i64 ((⟨(IntKind.wrap .i64 ((3 : Int) + y1_)), (IntKind.wrap .i64 ((10 : Int) + y2_)), y4_, (0 : Int), (3 : Int), y5_, y6_, y7_, (0 : Int), (none, 0, 0), (none, 0, 0), (0 : Int), (0 : Int)⟩ : api_Rec).Txn), .int .i64 ((⟨(IntKind.wrap .i64 ((3 : Int) + y1_)), (IntKind.wrap .i64 ((10 : Int) + y2_)), y4_, (0 : Int), (3 : Int), y5_, y6_, y7_, (0 : Int), (none, 0, 0), (none, 0, 0), (0 : Int), (0 : Int)⟩ : api_Rec).Prev), .int .i64 ((⟨(IntKind.wrap .i64 ((3 : Int) + y1_)), (IntKind.wrap .i64 ((10 : Int) + y2_)), y4_, (0 : Int), (3 : Int), y5_, y6_, y7_, (0 : Int), (none, 0, 0), (none, 0, 0), (0 : Int), (0 : Int)⟩ : api_Rec).Page), .int .i64 ((⟨(IntKind.wrap .i64 ((3 : Int) + y1_)), (IntKind.wrap .i64 ((10 : Int) + y2_)), y4_, (0 : Int), (3 : Int), y5_, y6_, y7_, (0 : Int), (none, 0, 0), (none, 0, 0), (0 : Int), (0 : Int)⟩ : api_Rec).Act), str ((⟨(IntKind.wrap .i64 ((3 : Int) + y1_)), (IntKind.wrap .i64 ((10 : Int) + y2_)), y4_, (0 : Int), (3 : Int), y5_, y6_, y7_, (0 : Int), (none, 0, 0), (none, 0, 0), (0 : Int), (0 : Int)⟩ : api_Rec).Key), str ((⟨(IntKind.wrap .i64 ((3 : Int) + y1_)), (IntKind.wrap .i64 ((10 : Int) + y2_)), y4_, (0 : Int), (3 : Int), y5_, y6_, y7_, (0 : Int), (none, 0, 0), (none, 0, 0), (0 : Int), (0 : Int)⟩ : api_Rec).Old), str ((⟨(IntKind.wrap .i64 ((3 : Int) + y1_)), (IntKind.wrap .i64 ((10 : Int) + y2_)), y4_, (0 : Int), (3 : Int), y5_, y6_, y7_, (0 : Int), (none, 0, 0), (none, 0, 0), (0 : Int), (0 : Int)⟩ : api_Rec).New), .int .i64 ((⟨(IntKind.wrap .i64 ((3 : Int) + y1_)), (IntKind.wrap .i64 ((10 : Int) + y2_)), y4_, (0 : Int), (3 : Int), y5_, y6_, y7_, (0 : Int), (none, 0, 0), (none, 0, 0), (0 : Int), (0 : Int)⟩ : api_Rec).Next), .slice (((⟨(IntKind.wrap .i64 ((3 : Int) + y1_)), (IntKind.wrap .i64 ((10 : Int) + y2_)), y4_, (0 : Int), (3 : Int), y5_, y6_, y7_, (0 : Int), (none, 0, 0), (none, 0, 0), (0 : Int), (0 : Int)⟩ : api_Rec).Images).1) (((⟨(IntKind.wrap .i64 ((3 : Int) + y1_)), (IntKind.wrap .i64 ((10 : Int) + y2_)), y4_, (0 : Int), (3 : Int), y5_, y6_, y7_, (0 : Int), (none, 0, 0), (none, 0, 0), (0 : Int), (0 : Int)⟩ : api_Rec).Images).2.1) (((⟨(IntKind.wrap .i64 ((3 : Int) + y1_)), (IntKind.wrap .i64 ((10 : Int) + y2_)), y4_, (0 : Int), (3 : Int), y5_, y6_, y7_, (0 : Int), (none, 0, 0), (none, 0, 0), (0 : Int), (0 : Int)⟩ : api_Rec).Images).2.2), .slice (((⟨(IntKind.wrap .i64 ((3 : Int) + y1_)), (IntKind.wrap .i64 ((10 : Int) + y2_)), y4_, (0 : Int), (3 : Int), y5_, y6_, y7_, (0 : Int), (none, 0, 0), (none, 0, 0), (0 : Int), (0 : Int)⟩ : api_Rec).Table).1) (((⟨(IntKind.wrap .i64 ((3 : Int) + y1_)), (IntKind.wrap .i64 ((10 : Int) + y2_)), y4_, (0 : Int), (3 : Int), y5_, y6_, y7_, (0 : Int), (none, 0, 0), (none, 0, 0), (0 : Int), (0 : Int)⟩ : api_Rec).Table).2.1) (((⟨(IntKind.wrap .i64 ((3 : Int) + y1_)), (IntKind.wrap .i64 ((10 : Int) + y2_)), y4_, (0 : Int), (3 : Int), y5_, y6_, y7_, (0 : Int), (none, 0, 0), (none, 0, 0), (0 : Int), (0 : Int)⟩ : api_Rec).Table).2.2), .int .i64 ((⟨(IntKind.wrap .i64 ((3 : Int) + y1_)), (IntKind.wrap .i64 ((10 : Int) + y2_)), y4_, (0 : Int), (3 : Int), y5_, y6_, y7_, (0 : Int), (none, 0, 0), (none, 0, 0), (0 : Int), (0 : Int)⟩ : api_Rec).Epoch), .int .i64 ((⟨(IntKind.wrap .i64 ((3 : Int) + y1_)), (IntKind.wrap .i64 ((10 : Int) + y2_)), y4_, (0 : Int), (3 : Int), y5_, y6_, y7_, (0 : Int), (none, 0, 0), (none, 0, 0), (0 : Int), (0 : Int)⟩ : api_Rec).Node)] y8_ 0 (K [(0, v0), (1, v1), (2, .slice v2p v2n v2c), (7, v7), (8, v8), (9, v9), (10, y8_)]))))))))))))) := by kernel_rfl
@[go_sem] theorem c9_r8 (v0 v1 v2p : Option Addr) (v2n v2c : Nat) (v7 : Addr) (v8 : Int) (v9 v10 : Addr) : RP c9 8 [(0, v0), (1, v1), (2, .slice v2p v2n v2c), (7, v7), (8, v8), (9, v9), (10, v10)] K =
 (ldn e_api_Rec 13 v10 fun (y1_ : api_Rec) => (cal (eT2 eI eI) Tryz.prog 32 #[v0, v_api_Rec y1_] fun (y2_ : (Int × Int)) => (K [(0, v0), (1, v1), (2, .slice v2p v2n v2c), (7, v7), (8, v8), (9, v9), (11, y2_.1), (12, y2_.2)]))) := by kernel_rfl
@[go_sem] theorem c9_r9 (v0 v1 v2p : Option Addr) (v2n v2c : Nat) (v7 : Addr) (v8 : Int) (v9 : Addr) (v11 v12 : Int) : RP c9 9 [(0, v0), (1, v1), (2, .slice v2p v2n v2c), (7, v7), (8, v8), (9, v9), (11, v11), (12, v12)] K =
 (K [(0, v0), (1, v1), (2, .slice v2p v2n v2c), (7, v7), (8, v8), (9, v9), (11, v11), (72, .bool (v12 != 0))]) := by kernel_rfl
@[go_sem] theorem c9_r10 (v0 v1 v2p : Option Addr) (v2n v2c : Nat) (v7 : Addr) (v8 : Int) (v9 : Addr) (v11 : Int) : RP c9 10 [(0, v0), (1, v1), (2, .slice v2p v2n v2c), (7, v7), (8, v8), (9, v9), (11, v11)] K =
 (cal (eT3 e_api_Rec eI eI) Tryz.prog 33 #[v0, v11] fun (y1_ : (api_Rec × Int × Int)) => (nwc #[.int .i64 0, .int .i64 0, .int .i64 0, .int .i64 0, .int .i64 0, str ([] : List UInt8), str ([] : List UInt8), str ([] : List UInt8), .int .i64 0, .slice none 0 0, .slice none 0 0, .int .i64 0, .int .i64 0] 47 fun y2_ => (stl [.int .i64 y1_.1.Kind, .int .i64 y1_.1.Txn, .int .i64 y1_.1.Prev, .int .i64 y1_.1.Page, .int .i64 y1_.1.Act, str y1_.1.Key, str y1_.1.Old, str y1_.1.New, .int .i64 y1_.1.Next, .slice y1_.1.Images.1 y1_.1.Images.2.1 y1_.1.Images.2.2, .slice y1_.1.Table.1 y1_.1.Table.2.1 y1_.1.Table.2.2, .int .i64 y1_.1.Epoch, .int .i64 y1_.1.Node] y2_ 0 (K [(0, v0), (1, v1), (2, .slice v2p v2n v2c), (7, v7), (8, v8), (9, v9), (11, v11), (13, y2_), (15, .int .i64 y1_.2.2)])))) := by kernel_rfl
@[go_sem] theorem c9_r11 (v0 v1 v2p : Option Addr) (v2n v2c : Nat) (v7 : Addr) (v8 : Int) (v9 : Addr) (v11 : Int) (v13 : Addr) (v15 : Int) : RP c9 11 [(0, v0), (1, v1), (2, .slice v2p v2n v2c), (7, v7), (8, v8), (9, v9), (11, v11), (13, v13), (15, v15)] K =
 (K [(0, v0), (1, v1), (2, .slice v2p v2n v2c), (7, v7), (8, v8), (9, v9), (11, v11), (13, v13), (81, .bool (v15 != 0))]) := by kernel_rfl
@[go_sem] theorem c9_r12 : RP c9 12 [] K =
 (K [(6, false)]) := by kernel_rfl
@[go_sem] theorem c9_r13 (v0 v1 v2p : Option Addr) (v2n v2c : Nat) (v7 : Addr) (v8 : Int) (v9 : Addr) (v11 : Int) (v13 : Addr) : RP c9 13 [(0, v0), (1, v1), (2, .slice v2p v2n v2c), (7, v7), (8, v8), (9, v9), (11, v11), (13, v13)] K =
 (ldn e_api_Rec 13 v13 fun (y1_ : api_Rec) => (cal eN Tryz.prog 34 #[v1, v_api_Rec y1_, v11] fun (y2_ : Unit) => (K [(0, v0), (1, v1), (2, .slice v2p v2n v2c), (7, v7), (8, v8), (9, v9), (11, v11)]))) := by kernel_rfl
@[go_sem] theorem c9_r14 (v0 v1 v2p : Option Addr) (v2n v2c : Nat) (v7 : Addr) (v8 : Int) (v9 : Addr) (v11 : Int) : RP c9 14 [(0, v0), (1, v1), (2, .slice v2p v2n v2c), (7, v7), (8, v8), (9, v9), (11, v11)] K =
 (ld eI (v9.add 1) fun (y1_ : Int) => (rq (0 ≤ y1_ ∧ y1_ < ((4 : Nat) : Int)) (st (Addr.add v7 (y1_.toNat * 1)) (v11) (K [(0, v0), (1, v1), (2, .slice v2p v2n v2c), (7, v7), (8, v8), (9, v9)])))) := by kernel_rfl
@[go_sem] theorem c9_r15 (v0 v1 v2p : Option Addr) (v2n v2c : Nat) (v7 : Addr) (v8 : Int) (v9 : Addr) : RP c9 15 [(0, v0), (1, v1), (2, .slice v2p v2n v2c), (7, v7), (8, v8), (9, v9)] K =
 (ld eI v9 fun (y1_ : Int) => (K [(0, v0), (1, v1), (2, .slice v2p v2n v2c), (7, v7), (8, v8), (9, v9), (92, decide (4 ≤ y1_))])) := by kernel_rfl
@[go_sem] theorem c9_r16 (v0 v1 v2p : Option Addr) (v2n v2c : Nat) (v7 : Addr) (v8 : Int) (v9 : Addr) : RP c9 16 [(0, v0), (1, v1), (2, .slice v2p v2n v2c), (7, v7), (8, v8), (9, v9)] K =
 (ld eI (v9.add 1) fun (y1_ : Int) => (rq (0 ≤ y1_ ∧ y1_ < ((4 : Nat) : Int)) (st (Addr.add v7 (y1_.toNat * 1)) (.int .i64 0) (K [(0, v0), (1, v1), (2, .slice v2p v2n v2c), (7, v7), (8, v8)])))) := by kernel_rfl
@[go_sem] theorem c9_r17 : RP c9 17 [] K =
 (K [(6, true)]) := by kernel_rfl
@[go_sem] theorem c9_o : c9.lo 1000000 = [6] := rfl
@[go_sem] theorem c9_e (v6 : Bool) : RTp c9 [(6, v6)] k = (k (v6)) := by kernel_rfl
theorem c9_ok : (c9.P.follows .mixedOrders && okc c9 c9.body) = true := by kernel_rfl
theorem c9_fn (hρ : envA 0 args.toList = ρ) (hs : Nat.ble args.size 96 = true) (h : E L (D c9 (.seq (.reg 0) (.seq (.reg 1) (.seq (.seq (.reg 2) (.block 0 (.loop (.seq (.seq (.reg 3) (.cond (.tmp 23) (.skip) (.exit 0))) (.seq (.block 1 (.seq (.reg 5) (.seq (.seq (.reg 6) (.cond (.tmp 47) (.exit 1) (.skip))) (.seq (.reg 7) (.seq (.reg 8) (.seq (.seq (.reg 9) (.cond (.tmp 72) (.exit 1) (.skip))) (.seq (.reg 10) (.seq (.seq (.reg 11) (.cond (.tmp 81) (.seq (.reg 12) (.ret)) (.skip))) (.seq (.reg 13) (.seq (.reg 14) (.seq (.reg 15) (.cond (.tmp 92) (.reg 16) (.skip))))))))))))) (.reg 4)))))) (.seq (.reg 17) (.ret))))) (fnQ c9 e G) ρ)) : E L (cal e Tryz.prog 9 args G) :=
  d_fn (c := c9) Tryz.func9 (by kernel_rfl) (by kernel_rfl) (by kernel_rfl) c9_ok (by kernel_rfl) (by kernel_rfl) hρ hs h
noncomputable def c10 := cf Tryz.f10 83 [(0, [0, 1]), (1, [0, 1]), (2, [0, 1, 6]), (3, [0, 6, 17, 18, 19]), (4, [0, 6, 17, 18, 19]), (5, [0, 6, 8, 17, 18, 19]), (6, [0, 6, 8, 9, 17, 18, 19]), (7, [0, 6, 8, 9, 10, 17, 18, 19]), (8, [0, 6, 8, 9, 10, 17, 18, 19]), (9, [0, 6, 8, 9, 10, 11, 13, 17, 18, 19]), (10, []), (11, [0, 6, 8, 9, 11, 17, 18, 19]), (12, [0, 6, 8, 9, 11, 14, 15, 17, 18, 19]), (13, [0, 6, 8, 9, 11, 14, 17, 18, 19]), (14, [0, 6, 8, 9, 11, 17, 18, 19]), (15, [0, 6, 8, 9, 17, 18, 19]), (16, [0, 6, 17, 18, 19]), (17, [6])] [(0, [0, 1]), (1, [0, 1, 6]), (2, [0, 6, 17, 18, 19]), (3, [0, 6, 17, 18, 19, 20]), (4, [0, 6, 8, 17, 18, 19]), (5, [0, 6, 8, 9, 17, 18, 19]), (6, [0, 6, 8, 9, 10, 17, 18, 19]), (7, [0, 6, 8, 9, 10, 17, 18, 19, 27]), (8, [0, 6, 8, 9, 10, 11, 13, 17, 18, 19]), (9, [0, 6, 8, 9, 11, 17, 18, 19, 49]), (10, [4, 5]), (11, [0, 6, 8, 9, 11, 14, 15, 17, 18, 19]), (12, [0, 6, 8, 9, 11, 14, 17, 18, 19, 55]), (13, [0, 6, 8, 9, 11, 17, 18, 19]), (14, [0, 6, 8, 9, 10, 17, 18, 19]), (15, [0, 6, 17, 18, 19]), (16, [0, 6, 17, 18, 19]), (17, [4, 5]), (1000000, [4, 5])] [(15, (true, [(0, 1), (1, 1), (2, 1), (3, 0), (4, 1), (5, 0), (6, 1), (7, 1), (8, 1), (9, 0), (10, 1), (11, 0), (12, 1), (13, 1), (14, 0), (15, 2), (16, 1), (17, 2), (18, 2), (19, 1), (20, 4)]))] [(77, (eT2 eM eI)), (79, (eT2 eI eI))]
@[go_sem] theorem c10_i : c10.li 0 = [0, 1] ∧ c10.li 1 = [0, 1] ∧ c10.li 2 = [0, 1, 6] ∧ c10.li 3 = [0, 6, 17, 18, 19] ∧ c10.li 4 = [0, 6, 17, 18, 19] ∧ c10.li 5 = [0, 6, 8, 17, 18, 19] ∧ c10.li 6 = [0, 6, 8, 9, 17, 18, 19] ∧ c10.li 7 = [0, 6, 8, 9, 10, 17, 18, 19] ∧ c10.li 8 = [0, 6, 8, 9, 10, 17, 18, 19] ∧ c10.li 9 = [0, 6, 8, 9, 10, 11, 13, 17, 18, 19] ∧ c10.li 10 = [] ∧ c10.li 11 = [0, 6, 8, 9, 11, 17, 18, 19] ∧ c10.li 12 = [0, 6, 8, 9, 11, 14, 15, 17, 18, 19] ∧ c10.li 13 = [0, 6, 8, 9, 11, 14, 17, 18, 19] ∧ c10.li 14 = [0, 6, 8, 9, 11, 17, 18, 19] ∧ c10.li 15 = [0, 6, 8, 9, 17, 18, 19] ∧ c10.li 16 = [0, 6, 17, 18, 19] ∧ c10.li 17 = [6] := ⟨rfl, rfl, rfl, rfl, rfl, rfl, rfl, rfl, rfl, rfl, rfl, rfl, rfl, rfl, rfl, rfl, rfl, rfl⟩
@[go_sem] theorem c10_r0 (v0 v1p : Option Addr) (v1n v1c : Nat) : RP c10 0 [(0, v0), (1, .slice v1p v1n v1c)] K =
 (K [(0, v0), (1, .slice v1p v1n v1c)]) := by kernel_rfl
@[go_sem] theorem c10_r1 (v0 v1p : Option Addr) (v1n v1c : Nat) : RP c10 1 [(0, v0), (1, .slice v1p v1n v1c)] K =
 (cal eP Tryz.prog 8 #[] fun (y1_ : Option Addr) => (K [(0, v0), (1, .slice v1p v1n v1c), (6, y1_)])) := by kernel_rfl
@[go_sem] theorem c10_r2 (v0 v1p : Option Addr) (v1n v1c : Nat) (v6 : Option Addr) : RP c10 2 [(0, v0), (1, .slice v1p v1n v1c), (6, v6)] K =
 (K [(0, v0), (6, v6), (17, .slice v1p v1n v1c), (18, .int .i64 (v1n : Int)), (19, .int .i64 0)]) := by kernel_rfl
@[go_sem] theorem c10_r3 (v0 v6 v17p : Option Addr) (v17n v17c : Nat) (v18 v19 : Int) : RP c10 3 [(0, v0), (6, v6), (17, .slice v17p v17n v17c), (18, v18), (19, v19)] K =
 (K [(0, v0), (6, v6), (17, .slice v17p v17n v17c), (18, v18), (19, v19), (20, decide (v19 < v18))]) := by kernel_rfl
@[go_sem] theorem c10_r4 (v0 v6 v17p : Option Addr) (v17n v17c : Nat) (v18 v19 : Int) : RP c10 4 [(0, v0), (6, v6), (17, .slice v17p v17n v17c), (18, v18), (19, v19)] K =
 (rq (0 ≤ v19 ∧ v19 < v17n) (nn v17p fun y1_ => (ldn e_api_Active 2 (Addr.add y1_ (v19.toNat * 2)) fun (y2_ : api_Active) => (nwc #[.int .i64 0, .int .i64 0] 40 fun y3_ => (stl [y2_.Txn, y2_.Last] y3_ 0 (K [(0, v0), (6, v6), (8, y3_), (17, .slice v17p v17n v17c), (18, v18), (19, v19)])))))) := by kernel_rfl
@[go_sem] theorem c10_r5 (v0 v6 : Option Addr) (v8 : Addr) (v17p : Option Addr) (v17n v17c : Nat) (v18 v19 : Int) : RP c10 5 [(0, v0), (6, v6), (8, v8), (17, .slice v17p v17n v17c), (18, v18), (19, v19)] K =
 (nwb (.map #[] 0) fun y1_ => (K [(0, v0), (6, v6), (8, v8), (9, .map (some y1_)), (17, .slice v17p v17n v17c), (18, v18), (19, v19)])) := by kernel_rfl
@[go_sem] theorem c10_r6 (v0 v6 : Option Addr) (v8 : Addr) (v9 : Option Nat) (v17p : Option Addr) (v17n v17c : Nat) (v18 v19 : Int) : RP c10 6 [(0, v0), (6, v6), (8, v8), (9, .map v9), (17, .slice v17p v17n v17c), (18, v18), (19, v19)] K =
 (ld eI (v8.add 1) fun (y1_ : Int) => (K [(0, v0), (6, v6), (8, v8), (9, .map v9), (10, y1_), (17, .slice v17p v17n v17c), (18, v18), (19, v19)])) := by kernel_rfl
@[go_sem] theorem c10_r7 (v0 v6 : Option Addr) (v8 : Addr) (v9 : Option Nat) (v10 : Int) (v17p : Option Addr) (v17n v17c : Nat) (v18 v19 : Int) : RP c10 7 [(0, v0), (6, v6), (8, v8), (9, .map v9), (10, v10), (17, .slice v17p v17n v17c), (18, v18), (19, v19)] K =
 (K [(0, v0), (6, v6), (8, v8), (9, .map v9), (10, v10), (17, .slice v17p v17n v17c), (18, v18), (19, v19), (27, decide (0 < v10))]) := by kernel_rfl
@[go_sem] theorem c10_r8 (v0 v6 : Option Addr) (v8 : Addr) (v9 : Option Nat) (v10 : Int) (v17p : Option Addr) (v17n v17c : Nat) (v18 v19 : Int) : RP c10 8 [(0, v0), (6, v6), (8, v8), (9, .map v9), (10, v10), (17, .slice v17p v17n v17c), (18, v18), (19, v19)] K =
 (cal (eT3 e_api_Rec eI eI) Tryz.prog 33 #[v0, v10] fun (y1_ : (api_Rec × Int × Int)) => (nwc #[.int .i64 0, .int .i64 0, .int .i64 0, .int .i64 0, .int .i64 0, str ([] : List UInt8), str ([] : List UInt8), str ([] : List UInt8), .int .i64 0, .slice none 0 0, .slice none 0 0, .int .i64 0, .int .i64 0] 47 fun y2_ => (stl [.int .i64 y1_.1.Kind, .int .i64 y1_.1.Txn, .int .i64 y1_.1.Prev, .int .i64 y1_.1.Page, .int .i64 y1_.1.Act, str y1_.1.Key, str y1_.1.Old, str y1_.1.New, .int .i64 y1_.1.Next, .slice y1_.1.Images.1 y1_.1.Images.2.1 y1_.1.Images.2.2, .slice y1_.1.Table.1 y1_.1.Table.2.1 y1_.1.Table.2.2, .int .i64 y1_.1.Epoch, .int .i64 y1_.1.Node] y2_ 0 (K [(0, v0), (6, v6), (8, v8), (9, .map v9), (10, v10), (11, y2_), (13, .int .i64 y1_.2.2), (17, .slice v17p v17n v17c), (18, v18), (19, v19)])))) := by kernel_rfl
@[go_sem] theorem c10_r9 (v0 v6 : Option Addr) (v8 : Addr) (v9 : Option Nat) (v10 : Int) (v11 : Addr) (v13 : Int) (v17p : Option Addr) (v17n v17c : Nat) (v18 v19 : Int) : RP c10 9 [(0, v0), (6, v6), (8, v8), (9, .map v9), (10, v10), (11, v11), (13, v13), (17, .slice v17p v17n v17c), (18, v18), (19, v19)] K =
 (cnd (v13 != 0) (K [(0, v0), (6, v6), (8, v8), (9, .map v9), (11, v11), (17, .slice v17p v17n v17c), (18, v18), (19, v19), (49, true)]) (ld eI (v11.add 1) fun (y1_ : Int) => (ld eI v8 fun (y2_ : Int) => (cnd (y1_ != y2_) (K [(0, v0), (6, v6), (8, v8), (9, .map v9), (11, v11), (17, .slice v17p v17n v17c), (18, v18), (19, v19), (49, true)]) (ld eI (v11.add 2) fun (y3_ : Int) => (K [(0, v0), (6, v6), (8, v8), (9, .map v9), (11, v11), (17, .slice v17p v17n v17c), (18, v18), (19, v19), (49, decide (v10 ≤ y3_))])))))) := by kernel_rfl
@[go_sem] theorem c10_r10 : RP c10 10 [] K =
 (K [(4, .pointer none), (5, .int .i64 20)]) := by kernel_rfl
@[go_sem] theorem c10_r11 (v0 v6 : Option Addr) (v8 : Addr) (v9 : Option Nat) (v11 : Addr) (v17p : Option Addr) (v17n v17c : Nat) (v18 v19 : Int) : RP c10 11 [(0, v0), (6, v6), (8, v8), (9, .map v9), (11, v11), (17, .slice v17p v17n v17c), (18, v18), (19, v19)] K =
 (ldn e_api_Rec 13 v11 fun (y1_ : api_Rec) => (cal (eT2 e_past_Was eB) Tryz.prog 35 #[v_api_Rec y1_] fun (y2_ : (past_Was × Bool)) => (nwc #[str ([] : List UInt8), false] 90 fun y3_ => (stl [str y2_.1.Val, .bool y2_.1.Is] y3_ 0 (K [(0, v0), (6, v6), (8, v8), (9, .map v9), (11, v11), (14, y3_), (15, y2_.2), (17, .slice v17p v17n v17c), (18, v18), (19, v19)]))))) := by kernel_rfl
@[go_sem] theorem c10_r12 (v0 v6 : Option Addr) (v8 : Addr) (v9 : Option Nat) (v11 v14 : Addr) (v15 : Bool) (v17p : Option Addr) (v17n v17c : Nat) (v18 v19 : Int) : RP c10 12 [(0, v0), (6, v6), (8, v8), (9, .map v9), (11, v11), (14, v14), (15, v15), (17, .slice v17p v17n v17c), (18, v18), (19, v19)] K =
 (K [(0, v0), (6, v6), (8, v8), (9, .map v9), (11, v11), (14, v14), (17, .slice v17p v17n v17c), (18, v18), (19, v19), (55, v15)]) := by kernel_rfl
@[go_sem] theorem c10_r13 (v0 v6 : Option Addr) (v8 : Addr) (v9 : Option Nat) (v11 v14 : Addr) (v17p : Option Addr) (v17n v17c : Nat) (v18 v19 : Int) : RP c10 13 [(0, v0), (6, v6), (8, v8), (9, .map v9), (11, v11), (14, v14), (17, .slice v17p v17n v17c), (18, v18), (19, v19)] K =
 (ld eS (v11.add 5) fun (y1_ : List UInt8) => (ldn e_past_Was 2 v14 fun (y2_ : past_Was) => (unt Tryz.prog (oMapUpdate 88 (.map v9) (str y1_) (v_past_Was y2_)) (K [(0, v0), (6, v6), (8, v8), (9, .map v9), (11, v11), (17, .slice v17p v17n v17c), (18, v18), (19, v19)])))) := by kernel_rfl
@[go_sem] theorem c10_r14 (v0 v6 : Option Addr) (v8 : Addr) (v9 : Option Nat) (v11 : Addr) (v17p : Option Addr) (v17n v17c : Nat) (v18 v19 : Int) : RP c10 14 [(0, v0), (6, v6), (8, v8), (9, .map v9), (11, v11), (17, .slice v17p v17n v17c), (18, v18), (19, v19)] K =
 (ld eI (v11.add 2) fun (y1_ : Int) => (K [(0, v0), (6, v6), (8, v8), (9, .map v9), (10, y1_), (17, .slice v17p v17n v17c), (18, v18), (19, v19)])) := by kernel_rfl
@[go_sem] theorem c10_r15 (v0 v6 : Option Addr) (v8 : Addr) (v9 : Option Nat) (v17p : Option Addr) (v17n v17c : Nat) (v18 v19 : Int) : RP c10 15 [(0, v0), (6, v6), (8, v8), (9, .map v9), (17, .slice v17p v17n v17c), (18, v18), (19, v19)] K =
 (ph fun S0 => (nn v6 fun y1_ => (ldq S0 eM y1_ fun (y2_ : Option Nat) => (ldq S0 eI v8 fun (y3_ : Int) => (nn v6 fun y4_ => (ldq S0 eM (y4_.add 1) fun (y5_ : Option Nat) => (ldq S0 eI v8 fun (y6_ : Int) => (ldq S0 eI (v8.add 1) fun (y7_ : Int) => (val (eT2 eM eI) Tryz.prog (oMapEntry 77 (.map y2_) (y3_)) fun (y8_ : ((Option Nat) × Int)) => (kpn S0 fun S1 => (unt Tryz.prog (oEntryStore 77 (.map y2_) (y8_.2) (.map v9)) (kpn S1 fun S2 => (val (eT2 eI eI) Tryz.prog (oMapEntry 78 (.map y5_) (y6_)) fun (y9_ : (Int × Int)) => (kpn S2 fun S3 => (unt Tryz.prog (oEntryStore 78 (.map y5_) (y9_.2) (y7_)) (K [(0, v0), (6, v6), (17, .slice v17p v17n v17c), (18, v18), (19, v19)])))))))))))))))) := by kernel_rfl
@[go_sem] theorem c10_r16 (v0 v6 v17p : Option Addr) (v17n v17c : Nat) (v18 v19 : Int) : RP c10 16 [(0, v0), (6, v6), (17, .slice v17p v17n v17c), (18, v18), (19, v19)] K =
 (K [(0, v0), (6, v6), (17, .slice v17p v17n v17c), (18, v18), (19, IntKind.wrap .i64 (v19 + 1))]) := by kernel_rfl
@[go_sem] theorem c10_r17 (v6 : Option Addr) : RP c10 17 [(6, v6)] K =
 (K [(4, v6), (5, .int .i64 0)]) := by kernel_rfl
@[go_sem] theorem c10_o : c10.lo 1000000 = [4, 5] := rfl
@[go_sem] theorem c10_e (v4 : Option Addr) (v5 : Int) : RTp c10 [(4, v4), (5, v5)] k = (k (.tuple #[v4, v5])) := by kernel_rfl
theorem c10_ok : (c10.P.follows .mixedOrders && okc c10 c10.body) = true := by kernel_rfl
theorem c10_fn (hρ : envA 0 args.toList = ρ) (hs : Nat.ble args.size 83 = true) (h : E L (D c10 (.seq (.reg 0) (.seq (.reg 1) (.seq (.seq (.reg 2) (.block 0 (.loop (.seq (.reg 3) (.seq (.cond (.tmp 20) (.skip) (.exit 0)) (.seq (.block 1 (.seq (.reg 4) (.seq (.reg 5) (.seq (.seq (.reg 6) (.block 2 (.loop (.seq (.seq (.reg 7) (.cond (.tmp 27) (.skip) (.exit 2))) (.block 3 (.seq (.reg 8) (.seq (.seq (.reg 9) (.cond (.tmp 49) (.seq (.reg 10) (.ret)) (.skip))) (.seq (.seq (.reg 11) (.seq (.reg 12) (.cond (.tmp 55) (.reg 13) (.skip)))) (.reg 14))))))))) (.reg 15))))) (.reg 16))))))) (.seq (.reg 17) (.ret))))) (fnQ c10 e G) ρ)) : E L (cal e Tryz.prog 10 args G) :=
  d_fn (c := c10) Tryz.func10 (by kernel_rfl) (by kernel_rfl) (by kernel_rfl) c10_ok (by kernel_rfl) (by kernel_rfl) hρ hs h
noncomputable def c13 := cf Tryz.f13 74 [(0, [0, 1]), (1, [0, 1]), (2, [0, 1, 5, 6]), (3, []), (4, [0, 1, 5, 6]), (5, [0, 1, 5, 6, 7]), (6, [0, 1, 5, 6, 7]), (7, [0, 1, 5, 6, 7]), (8, [0, 1, 5, 6, 7, 8, 9]), (9, [0, 1, 5, 6, 7, 8, 9, 10, 11]), (10, []), (11, [])] [(0, [0, 1]), (1, [0, 1, 5, 6]), (2, [0, 1, 5, 6, 20]), (3, [4]), (4, [0, 1, 5, 6, 7]), (5, [0, 1, 5, 6, 7, 24]), (6, [0, 1, 5, 6, 7]), (7, [0, 1, 5, 6, 7, 8, 9]), (8, [0, 1, 5, 6, 7, 8, 9, 10, 11]), (9, [0, 1, 5, 6, 7, 73]), (10, [4]), (11, [4]), (1000000, [4])] [(9, (true, [(0, 1), (1, 1), (2, 1), (3, 0), (4, 1), (5, 1), (6, 1), (7, 0), (8, 1), (9, 1), (10, 1), (11, 1), (12, 1), (13, 1), (14, 1), (15, 1), (16, 1), (17, 1), (18, 1), (20, 1), (21, 1), (19, 3), (22, 1), (23, 1), (24, 0), (25, 0), (26, 0), (27, 1), (28, 1)]))] []
@[go_sem] theorem c13_i : c13.li 0 = [0, 1] ∧ c13.li 1 = [0, 1] ∧ c13.li 2 = [0, 1, 5, 6] ∧ c13.li 3 = [] ∧ c13.li 4 = [0, 1, 5, 6] ∧ c13.li 5 = [0, 1, 5, 6, 7] ∧ c13.li 6 = [0, 1, 5, 6, 7] ∧ c13.li 7 = [0, 1, 5, 6, 7] ∧ c13.li 8 = [0, 1, 5, 6, 7, 8, 9] ∧ c13.li 9 = [0, 1, 5, 6, 7, 8, 9, 10, 11] ∧ c13.li 10 = [] ∧ c13.li 11 = [] := ⟨rfl, rfl, rfl, rfl, rfl, rfl, rfl, rfl, rfl, rfl, rfl, rfl⟩
@[go_sem] theorem c13_r0 (v0 v1 : Option Addr) : RP c13 0 [(0, v0), (1, v1)] K =
 (K [(0, v0), (1, v1)]) := by kernel_rfl
@[go_sem] theorem c13_r1 (v0 v1 : Option Addr) : RP c13 1 [(0, v0), (1, v1)] K =
 (cal eSl Tryz.prog 39 #[v0] fun (y1_ : (Option Addr × Nat × Nat)) => (cal eSl Tryz.prog 39 #[v1] fun (y2_ : (Option Addr × Nat × Nat)) => (K [(0, v0), (1, v1), (5, .slice y1_.1 y1_.2.1 y1_.2.2), (6, .slice y2_.1 y2_.2.1 y2_.2.2)]))) := by kernel_rfl
@[go_sem] theorem c13_r2 (v0 v1 v5p : Option Addr) (v5n v5c : Nat) (v6p : Option Addr) (v6n v6c : Nat) : RP c13 2 [(0, v0), (1, v1), (5, .slice v5p v5n v5c), (6, .slice v6p v6n v6c)] K =
 (K [(0, v0), (1, v1), (5, .slice v5p v5n v5c), (6, .slice v6p v6n v6c), (20, .bool ((v5n : Int) != (v6n : Int)))]) := by kernel_rfl
@[go_sem] theorem c13_r3 : RP c13 3 [] K =
 (K [(4, false)]) := by kernel_rfl
@[go_sem] theorem c13_r4 (v0 v1 v5p : Option Addr) (v5n v5c : Nat) (v6p : Option Addr) (v6n v6c : Nat) : RP c13 4 [(0, v0), (1, v1), (5, .slice v5p v5n v5c), (6, .slice v6p v6n v6c)] K =
 (K [(0, v0), (1, v1), (5, .slice v5p v5n v5c), (6, .slice v6p v6n v6c), (7, .int .i64 0)]) := by kernel_rfl
@[go_sem] theorem c13_r5 (v0 v1 v5p : Option Addr) (v5n v5c : Nat) (v6p : Option Addr) (v6n v6c : Nat) (v7 : Int) : RP c13 5 [(0, v0), (1, v1), (5, .slice v5p v5n v5c), (6, .slice v6p v6n v6c), (7, v7)] K =
 (K [(0, v0), (1, v1), (5, .slice v5p v5n v5c), (6, .slice v6p v6n v6c), (7, v7), (24, decide (v7 < v5n))]) := by kernel_rfl
@[go_sem] theorem c13_r6 (v0 v1 v5p : Option Addr) (v5n v5c : Nat) (v6p : Option Addr) (v6n v6c : Nat) (v7 : Int) : RP c13 6 [(0, v0), (1, v1), (5, .slice v5p v5n v5c), (6, .slice v6p v6n v6c), (7, v7)] K =
 (K [(0, v0), (1, v1), (5, .slice v5p v5n v5c), (6, .slice v6p v6n v6c), (7, IntKind.wrap .i64 (v7 + 1))]) := by kernel_rfl
@[go_sem] theorem c13_r7 (v0 v1 v5p : Option Addr) (v5n v5c : Nat) (v6p : Option Addr) (v6n v6c : Nat) (v7 : Int) : RP c13 7 [(0, v0), (1, v1), (5, .slice v5p v5n v5c), (6, .slice v6p v6n v6c), (7, v7)] K =
 (rq (0 ≤ v7 ∧ v7 < v5n) (nn v5p fun y1_ => (ld eS (Addr.add y1_ (v7.toNat * 1)) fun (y2_ : List UInt8) => (cal (eT2 e_past_Was eB) Tryz.prog 40 #[v0, str y2_] fun (y3_ : (past_Was × Bool)) => (nwc #[str ([] : List UInt8), false] 90 fun y4_ => (stl [str y3_.1.Val, .bool y3_.1.Is] y4_ 0 (K [(0, v0), (1, v1), (5, .slice v5p v5n v5c), (6, .slice v6p v6n v6c), (7, v7), (8, y4_), (9, y3_.2)]))))))) := by kernel_rfl
@[go_sem] theorem c13_r8 (v0 v1 v5p : Option Addr) (v5n v5c : Nat) (v6p : Option Addr) (v6n v6c : Nat) (v7 : Int) (v8 : Addr) (v9 : Bool) : RP c13 8 [(0, v0), (1, v1), (5, .slice v5p v5n v5c), (6, .slice v6p v6n v6c), (7, v7), (8, v8), (9, v9)] K =
 (rq (0 ≤ v7 ∧ v7 < v5n) (nn v5p fun y1_ => (ld eS (Addr.add y1_ (v7.toNat * 1)) fun (y2_ : List UInt8) => (cal (eT2 e_past_Was eB) Tryz.prog 40 #[v1, str y2_] fun (y3_ : (past_Was × Bool)) => (nwc #[str ([] : List UInt8), false] 90 fun y4_ => (stl [str y3_.1.Val, .bool y3_.1.Is] y4_ 0 (K [(0, v0), (1, v1), (5, .slice v5p v5n v5c), (6, .slice v6p v6n v6c), (7, v7), (8, v8), (9, v9), (10, y4_), (11, y3_.2)]))))))) := by kernel_rfl
@[go_sem] theorem c13_r9 (v0 v1 v5p : Option Addr) (v5n v5c : Nat) (v6p : Option Addr) (v6n v6c : Nat) (v7 : Int) (v8 : Addr) (v9 : Bool) (v10 : Addr) (v11 : Bool) : RP c13 9 [(0, v0), (1, v1), (5, .slice v5p v5n v5c), (6, .slice v6p v6n v6c), (7, v7), (8, v8), (9, v9), (10, v10), (11, v11)] K =
 (ph fun S0 => (rq (0 ≤ v7 ∧ v7 < v5n) (nn v5p fun y1_ => (ldq S0 eS (Addr.add y1_ (v7.toNat * 1)) fun (y2_ : List UInt8) => (rq (0 ≤ v7 ∧ v7 < v6n) (nn v6p fun y3_ => (ldq S0 eS (Addr.add y3_ (v7.toNat * 1)) fun (y4_ : List UInt8) => (cnd (!(y2_ == y4_)) (ph fun S1 => (K [(0, v0), (1, v1), (5, .slice v5p v5n v5c), (6, .slice v6p v6n v6c), (7, v7), (73, true)])) (cnd (!v9) (ph fun S2 => (K [(0, v0), (1, v1), (5, .slice v5p v5n v5c), (6, .slice v6p v6n v6c), (7, v7), (73, true)])) (cnd (!v11) (ph fun S3 => (K [(0, v0), (1, v1), (5, .slice v5p v5n v5c), (6, .slice v6p v6n v6c), (7, v7), (73, true)])) (cal eI Tryz.prog 12 #[v0] fun (y5_ : Int) => (ph fun S4 => (cnd (y5_ == (v5n : Int)) (ldnq S4 e_past_Was 2 v8 fun (y6_ : past_Was) => (ldnq S4 e_past_Was 2 v10 fun (y7_ : past_Was) => (valq S4 eB Tryz.prog (oEq .neq 90 (.tmp 69) (.tmp 70) (v_past_Was y6_) (v_past_Was y7_)) fun (y8_ : Bool) => (K [(0, v0), (1, v1), (5, .slice v5p v5n v5c), (6, .slice v6p v6n v6c), (7, v7), (73, y8_)])))) (K [(0, v0), (1, v1), (5, .slice v5p v5n v5c), (6, .slice v6p v6n v6c), (7, v7), (73, false)])))))))))))))) := by kernel_rfl
@[go_sem] theorem c13_r10 : RP c13 10 [] K =
 (K [(4, false)]) := by kernel_rfl
@[go_sem] theorem c13_r11 : RP c13 11 [] K =
 (K [(4, true)]) := by kernel_rfl
@[go_sem] theorem c13_o : c13.lo 1000000 = [4] := rfl
@[go_sem] theorem c13_e (v4 : Bool) : RTp c13 [(4, v4)] k = (k (v4)) := by kernel_rfl
theorem c13_ok : (c13.P.follows .mixedOrders && okc c13 c13.body) = true := by kernel_rfl
theorem c13_fn (hρ : envA 0 args.toList = ρ) (hs : Nat.ble args.size 74 = true) (h : E L (D c13 (.seq (.reg 0) (.seq (.reg 1) (.seq (.seq (.reg 2) (.cond (.tmp 20) (.seq (.reg 3) (.ret)) (.skip))) (.seq (.seq (.reg 4) (.block 0 (.loop (.seq (.seq (.reg 5) (.cond (.tmp 24) (.skip) (.exit 0))) (.seq (.block 1 (.seq (.reg 7) (.seq (.reg 8) (.seq (.reg 9) (.cond (.tmp 73) (.seq (.reg 10) (.ret)) (.skip)))))) (.reg 6)))))) (.seq (.reg 11) (.ret)))))) (fnQ c13 e G) ρ)) : E L (cal e Tryz.prog 13 args G) :=
  d_fn (c := c13) Tryz.func13 (by kernel_rfl) (by kernel_rfl) (by kernel_rfl) c13_ok (by kernel_rfl) (by kernel_rfl) hρ hs h
end Go.Sp
namespace Go.Sp
open Go
set_option maxRecDepth 100000
set_option linter.unusedVariables false
open Go.Proofs
variable (K : Env → W) (k : Value → W) {e : Enc} {args : Array Value} {G : e.α → W} {L : List HP} {ρ : Env}
attribute [local instance] cI cB cP cA
noncomputable def c3 := cf Tryz.f3 100 [(0, [0]), (1, [0]), (2, [0, 3, 4]), (3, []), (4, [0, 3]), (5, [0, 5, 6]), (6, []), (7, [0, 5]), (8, [0, 5, 7]), (9, []), (10, [5, 7]), (11, [7, 8, 9]), (12, []), (13, [7, 8]), (14, [10, 11]), (15, [10, 11, 12]), (16, [10, 11, 12]), (17, [10, 11, 12]), (18, []), (19, [10, 11])] [(0, [0]), (1, [0, 3, 4]), (2, [0, 3, 22]), (3, [2]), (4, [0, 5, 6]), (5, [0, 5, 33]), (6, [2]), (7, [0, 5, 7]), (8, [5, 7, 39]), (9, [2]), (10, [7, 8, 9]), (11, [7, 8, 65]), (12, [2]), (13, [10, 11]), (14, [10, 11, 12]), (15, [10, 11, 12, 80]), (16, [10, 11, 12]), (17, [10, 11, 12, 91]), (18, [2]), (19, [2]), (1000000, [2])] [(17, (true, [(0, 1), (1, 1), (2, 1), (3, 0), (4, 1), (5, 1), (6, 1), (7, 0), (8, 0)]))] []
@[go_sem] theorem c3_i : c3.li 0 = [0] ∧ c3.li 1 = [0] ∧ c3.li 2 = [0, 3, 4] ∧ c3.li 3 = [] ∧ c3.li 4 = [0, 3] ∧ c3.li 5 = [0, 5, 6] ∧ c3.li 6 = [] ∧ c3.li 7 = [0, 5] ∧ c3.li 8 = [0, 5, 7] ∧ c3.li 9 = [] ∧ c3.li 10 = [5, 7] ∧ c3.li 11 = [7, 8, 9] ∧ c3.li 12 = [] ∧ c3.li 13 = [7, 8] ∧ c3.li 14 = [10, 11] ∧ c3.li 15 = [10, 11, 12] ∧ c3.li 16 = [10, 11, 12] ∧ c3.li 17 = [10, 11, 12] ∧ c3.li 18 = [] ∧ c3.li 19 = [10, 11] := ⟨rfl, rfl, rfl, rfl, rfl, rfl, rfl, rfl, rfl, rfl, rfl, rfl, rfl, rfl, rfl, rfl, rfl, rfl, rfl, rfl⟩
@[go_sem] theorem c3_r0 (v0p : Option Addr) (v0n v0c : Nat) : RP c3 0 [(0, .slice v0p v0n v0c)] K =
 (K [(0, .slice v0p v0n v0c)]) := by kernel_rfl
@[go_sem] theorem c3_r1 (v0p : Option Addr) (v0n v0c : Nat) : RP c3 1 [(0, .slice v0p v0n v0c)] K =
 (cal (eT2 eP eI) Tryz.prog 6 #[.int .i64 200] fun (y1_ : ((Option Addr) × Int)) => (K [(0, .slice v0p v0n v0c), (3, y1_.1), (4, y1_.2)])) := by kernel_rfl
@[go_sem] theorem c3_r2 (v0p : Option Addr) (v0n v0c : Nat) (v3 : Option Addr) (v4 : Int) : RP c3 2 [(0, .slice v0p v0n v0c), (3, v3), (4, v4)] K =
 (cnd (v4 != 0) (K [(0, .slice v0p v0n v0c), (3, v3), (22, true)]) (K [(0, .slice v0p v0n v0c), (3, v3), (22, .bool (v3.isNone))])) := by kernel_rfl
@[go_sem] theorem c3_r3 : RP c3 3 [] K =
 (K [(2, false)]) := by kernel_rfl
@[go_sem] theorem c3_r4 (v0p : Option Addr) (v0n v0c : Nat) (v3 : Option Addr) : RP c3 4 [(0, .slice v0p v0n v0c), (3, v3)] K =
 (cal (eT2 eP eI) Tryz.prog 7 #[v3, .int .i64 0, .int .i64 200, .int .i64 1] fun (y1_ : ((Option Addr) × Int)) => (K [(0, .slice v0p v0n v0c), (5, y1_.1), (6, y1_.2)])) := by kernel_rfl
@[go_sem] theorem c3_r5 (v0p : Option Addr) (v0n v0c : Nat) (v5 : Option Addr) (v6 : Int) : RP c3 5 [(0, .slice v0p v0n v0c), (5, v5), (6, v6)] K =
 (cnd (v6 != 0) (K [(0, .slice v0p v0n v0c), (5, v5), (33, true)]) (K [(0, .slice v0p v0n v0c), (5, v5), (33, .bool (v5.isNone))])) := by kernel_rfl
@[go_sem] theorem c3_r6 : RP c3 6 [] K =
 (K [(2, false)]) := by kernel_rfl
@[go_sem] theorem c3_r7 (v0p : Option Addr) (v0n v0c : Nat) (v5 : Option Addr) : RP c3 7 [(0, .slice v0p v0n v0c), (5, v5)] K =
 (cal eP Tryz.prog 8 #[] fun (y1_ : Option Addr) => (K [(0, .slice v0p v0n v0c), (5, v5), (7, y1_)])) := by kernel_rfl
@[go_sem] theorem c3_r8 (v0p : Option Addr) (v0n v0c : Nat) (v5 v7 : Option Addr) : RP c3 8 [(0, .slice v0p v0n v0c), (5, v5), (7, v7)] K =
 (cal eB Tryz.prog 9 #[v5, v7, .slice v0p v0n v0c] fun (y1_ : Bool) => (K [(5, v5), (7, v7), (39, .bool (!y1_))])) := by kernel_rfl
@[go_sem] theorem c3_r9 : RP c3 9 [] K =
 (K [(2, false)]) := by kernel_rfl
@[go_sem] theorem c3_r10 (v5 v7 : Option Addr) : RP c3 10 [(5, v5), (7, v7)] K =
 (cal eSl Tryz.prog 11 #[v7] fun (y1_ : (Option Addr × Nat × Nat)) => (cal (eT2 eP eI) Tryz.prog 10 #[v5, .slice y1_.1 y1_.2.1 y1_.2.2] fun (y2_ : ((Option Addr) × Int)) => (K [(7, v7), (8, y2_.1), (9, y2_.2)]))) := by kernel_rfl
@[go_sem] theorem c3_r11 (v7 v8 : Option Addr) (v9 : Int) : RP c3 11 [(7, v7), (8, v8), (9, v9)] K =
 (cnd (v9 != 0) (K [(7, v7), (8, v8), (65, true)]) (cnd (v8.isNone) (K [(7, v7), (8, v8), (65, true)]) (cal eI Tryz.prog 12 #[v8] fun (y1_ : Int) => (cal eI Tryz.prog 12 #[v7] fun (y2_ : Int) => (cnd (y1_ != y2_) (K [(7, v7), (8, v8), (65, true)]) (cal eB Tryz.prog 13 #[v7, v8] fun (y3_ : Bool) => (K [(7, v7), (8, v8), (65, .bool (!y3_))]))))))) := by kernel_rfl
@[go_sem] theorem c3_r12 : RP c3 12 [] K =
 (K [(2, false)]) := by kernel_rfl
@[go_sem] theorem c3_r13 (v7 v8 : Option Addr) : RP c3 13 [(7, v7), (8, v8)] K =
 (cal eSl Tryz.prog 11 #[v7] fun (y1_ : (Option Addr × Nat × Nat)) => (cal eSl Tryz.prog 11 #[v8] fun (y2_ : (Option Addr × Nat × Nat)) => (K [(10, .slice y1_.1 y1_.2.1 y1_.2.2), (11, .slice y2_.1 y2_.2.1 y2_.2.2)]))) := by kernel_rfl
@[go_sem] theorem c3_r14 (v10p : Option Addr) (v10n v10c : Nat) (v11p : Option Addr) (v11n v11c : Nat) : RP c3 14 [(10, .slice v10p v10n v10c), (11, .slice v11p v11n v11c)] K =
 (K [(10, .slice v10p v10n v10c), (11, .slice v11p v11n v11c), (12, .int .i64 0)]) := by kernel_rfl
@[go_sem] theorem c3_r15 (v10p : Option Addr) (v10n v10c : Nat) (v11p : Option Addr) (v11n v11c : Nat) (v12 : Int) : RP c3 15 [(10, .slice v10p v10n v10c), (11, .slice v11p v11n v11c), (12, v12)] K =
 (cnd (decide (v12 < v10n)) (K [(10, .slice v10p v10n v10c), (11, .slice v11p v11n v11c), (12, v12), (80, .bool ((v10n : Int) == (v11n : Int)))]) (K [(10, .slice v10p v10n v10c), (11, .slice v11p v11n v11c), (12, v12), (80, false)])) := by kernel_rfl
@[go_sem] theorem c3_r16 (v10p : Option Addr) (v10n v10c : Nat) (v11p : Option Addr) (v11n v11c : Nat) (v12 : Int) : RP c3 16 [(10, .slice v10p v10n v10c), (11, .slice v11p v11n v11c), (12, v12)] K =
 (K [(10, .slice v10p v10n v10c), (11, .slice v11p v11n v11c), (12, IntKind.wrap .i64 (v12 + 1))]) := by kernel_rfl
@[go_sem] theorem c3_r17 (v10p : Option Addr) (v10n v10c : Nat) (v11p : Option Addr) (v11n v11c : Nat) (v12 : Int) : RP c3 17 [(10, .slice v10p v10n v10c), (11, .slice v11p v11n v11c), (12, v12)] K =
 (ph fun S0 => (rq (0 ≤ v12 ∧ v12 < v10n) (nn v10p fun y1_ => (ldnq S0 e_api_Active 2 (Addr.add y1_ (v12.toNat * 2)) fun (y2_ : api_Active) => (rq (0 ≤ v12 ∧ v12 < v11n) (nn v11p fun y3_ => (ldnq S0 e_api_Active 2 (Addr.add y3_ (v12.toNat * 2)) fun (y4_ : api_Active) => (valq S0 eB Tryz.prog (oEq .neq 40 (.tmp 86) (.tmp 90) (v_api_Active y2_) (v_api_Active y4_)) fun (y5_ : Bool) => (K [(10, .slice v10p v10n v10c), (11, .slice v11p v11n v11c), (12, v12), (91, y5_)]))))))))) := by kernel_rfl
@[go_sem] theorem c3_r18 : RP c3 18 [] K =
 (K [(2, false)]) := by kernel_rfl
@[go_sem] theorem c3_r19 (v10p : Option Addr) (v10n v10c : Nat) (v11p : Option Addr) (v11n v11c : Nat) : RP c3 19 [(10, .slice v10p v10n v10c), (11, .slice v11p v11n v11c)] K =
 (cnd ((v10n : Int) == (v11n : Int)) (cal eB Tryz.prog 14 #[] fun (y1_ : Bool) => (K [(2, y1_)])) (K [(2, false)])) := by kernel_rfl
@[go_sem] theorem c3_o : c3.lo 1000000 = [2] := rfl
@[go_sem] theorem c3_e (v2 : Bool) : RTp c3 [(2, v2)] k = (k (v2)) := by kernel_rfl
theorem c3_ok : (c3.P.follows .mixedOrders && okc c3 c3.body) = true := by kernel_rfl
theorem c3_fn (hρ : envA 0 args.toList = ρ) (hs : Nat.ble args.size 100 = true) (h : E L (D c3 (.seq (.reg 0) (.seq (.reg 1) (.seq (.seq (.reg 2) (.cond (.tmp 22) (.seq (.reg 3) (.ret)) (.skip))) (.seq (.reg 4) (.seq (.seq (.reg 5) (.cond (.tmp 33) (.seq (.reg 6) (.ret)) (.skip))) (.seq (.reg 7) (.seq (.seq (.reg 8) (.cond (.tmp 39) (.seq (.reg 9) (.ret)) (.skip))) (.seq (.reg 10) (.seq (.seq (.reg 11) (.cond (.tmp 65) (.seq (.reg 12) (.ret)) (.skip))) (.seq (.reg 13) (.seq (.seq (.reg 14) (.block 0 (.loop (.seq (.seq (.reg 15) (.cond (.tmp 80) (.skip) (.exit 0))) (.seq (.block 1 (.seq (.reg 17) (.cond (.tmp 91) (.seq (.reg 18) (.ret)) (.skip)))) (.reg 16)))))) (.seq (.reg 19) (.ret))))))))))))) (fnQ c3 e G) ρ)) : E L (cal e Tryz.prog 3 args G) :=
  d_fn (c := c3) Tryz.func3 (by kernel_rfl) (by kernel_rfl) (by kernel_rfl) c3_ok (by kernel_rfl) (by kernel_rfl) hρ hs h
end Go.Sp
namespace Go.Sp
open Go Go.Proofs
set_option linter.unusedSimpArgs false
set_option linter.unusedVariables false
set_option maxRecDepth 10000
variable {L : List HP}
theorem f15 (p m l : Nat) : Fp eB Tryz.prog 36 #[.pointer (some ⟨p, 0, none⟩)] [ar p 80 [.map (some m), .map (some l)]] false := fun L => by
  refine c36_fn rfl rfl ?_
  repeat' (first | (with_reducible first | refine d_seq fun K hK => ?_ | (refine hK _ _ ?_; clear hK K) | (refine SG.p ?_; try intro b)) | refine i_c ?_ ?_ <;> intro hc <;> try simp only [push_cast, seval] at hc | refine i_x ?_ | clear hK K)
  all_goals (try (exfalso; simp at hc; done))
  (with_reducible first | apply i_ret0 | apply i_ret2 | apply i_ret3 | apply i_ret); exact rfl
  rfl
theorem f18 (r : api_Rec) : Fp (eT2 eWs eB) Tryz.prog 35 #[v_api_Rec r] [] ((wasR r).getD ⟨[], false⟩, (wasR r).isSome) := fun L => by
  refine c35_fn rfl rfl ?_
  repeat' (first | (with_reducible first | refine d_seq fun K hK => ?_ | (refine hK _ _ ?_; clear hK K) | (refine SG.p ?_; try intro b)) | refine i_c ?_ ?_ <;> intro hc <;> try simp only [push_cast, seval] at hc | refine i_x ?_ | clear hK K)
  all_goals (try (exfalso; omega))
  · refine i_ldn (x := (⟨[], false⟩ : past_Was)) rfl rfl rfl ?_
    (with_reducible first | apply i_ret0 | apply i_ret2 | apply i_ret3 | apply i_ret); exact rfl
    simp [wasR, *]
  · refine i_ldn (x := (⟨r.Old, true⟩ : past_Was)) rfl rfl rfl ?_
    (with_reducible first | apply i_ret0 | apply i_ret2 | apply i_ret3 | apply i_ret); exact rfl
    simp [wasR, *]
  · refine i_ldn (x := (⟨r.Old, true⟩ : past_Was)) rfl rfl rfl ?_
    (with_reducible first | apply i_ret0 | apply i_ret2 | apply i_ret3 | apply i_ret); exact rfl
    simp [wasR, *]
  · refine i_ldn (x := (⟨[], false⟩ : past_Was)) rfl rfl rfl ?_
    (with_reducible first | apply i_ret0 | apply i_ret2 | apply i_ret3 | apply i_ret); exact rfl
    simp [wasR, *]
theorem nilg {G : World → Prop} (h : E (HS (([] : List Gn).map gm) :: L) G) : E L G := E.nil0 h
theorem f5 : Fn eP Tryz.prog 8 #[] [] (fun x X => ∃ p mb ml, x = some ⟨p, 0, none⟩ ∧ X = ppt 80 p ⟨mb, ml, [], 0, [], 0⟩) := fun L => by
  refine c8_fn rfl rfl ?_
  repeat' (first | (with_reducible first | refine d_seq fun K hK => ?_ | (refine hK _ _ ?_; clear hK K) | (refine SG.p ?_; try intro b)) | refine i_c ?_ ?_ <;> intro hc <;> try simp only [push_cast, seval] at hc | refine i_x ?_ | clear hK K)
  refine r_nwm eI eM fun mb => ?_
  refine r_nwm eI eI fun ml => ?_
  repeat' (first | (with_reducible first | refine d_seq fun K hK => ?_ | (refine hK _ _ ?_; clear hK K) | (refine SG.p ?_; try intro b)) | refine i_c ?_ ?_ <;> intro hc <;> try simp only [push_cast, seval] at hc | refine i_x ?_ | clear hK K)
  refine nilg ?_
  rw [show ([] : Ents eI eM) = oe [] from rfl]
  exact i_done (some ⟨_, 0, none⟩) (ppt 80 _ ⟨mb, ml, [], 0, [], 0⟩) rfl ⟨_, mb, ml, rfl, rfl⟩
theorem sub_perm {α : Type} {A B : List α} (h : A.Sublist B) : ∃ C, B.Perm (A ++ C) := by
  induction h with
  | slnil => exact ⟨[], .refl _⟩
  | cons x _ ih => obtain ⟨C, h⟩ := ih; exact ⟨x :: C, (h.cons x).trans (List.perm_middle.symm)⟩
  | cons_cons x _ ih => obtain ⟨C, h⟩ := ih; exact ⟨C, h.cons x⟩
theorem HS.left {A B : List HP} {h : PH} (x : HS (A ++ B) h) : HS A h := by
  induction A generalizing h with
  | nil => trivial
  | cons a A ih => exact HS.cong (fun _ hh => ih hh) x
class G1 (L : List HP) (M : outParam (List Gn)) (R : outParam (List HP)) : Prop where p : At L (HS (M.map gm)) R
instance G1.there {M : List Gn} {R : List HP} {y : HP} [h : G1 L M R] : G1 (y :: L) M (y :: R) := ⟨.there h.p⟩
instance G1.here {M : List Gn} : G1 (HS (M.map gm) :: L) M L := ⟨.here⟩
theorem drg {G : World → Prop} (M M' : List Gn) {R : List HP} (hs : M'.Sublist M) [ha : G1 L M R] (h : E (HS (M'.map gm) :: R) G) : E L G := fun w hw => by
  obtain ⟨C, hp⟩ := sub_perm hs
  refine h w (HS.hd (fun _ x => ?_) (ha.p.hs hw))
  have := HS.perm (hp.map gm) x
  rw [List.map_append] at this
  exact HS.left this
theorem pul {G : World → Prop} {M : List Gn} {R : List HP} (g : Gn) (M' : List Gn) (hp : M.Perm (g :: M')) [ha : G1 L M R] (h : E (mp eS eWs g.b g.ks g.c :: HS (M'.map gm) :: R) G) : E L G := fun w hw => E.pull hp h w (ha.p.hs hw)
class G2 (L : List HP) (b : Nat) (ks : outParam (Ents eS eWs)) (c : outParam Nat) (R : outParam (List HP)) : Prop where p : At L (mp eS eWs b ks c) R
instance G2.there {b c : Nat} {ks : Ents eS eWs} {R : List HP} {y : HP} [h : G2 L b ks c R] : G2 (y :: L) b ks c (y :: R) := ⟨.there h.p⟩
instance G2.here {b c : Nat} {ks : Ents eS eWs} : G2 (mp eS eWs b ks c :: L) b ks c L := ⟨.here⟩
theorem psh {G : World → Prop} (g : Gn) (M' M : List Gn) (hp : M.Perm (g :: M')) {R R' : List HP} [hb : G2 L g.b g.ks g.c R] [ha : AX R (HS (M'.map gm)) R'] (h : E (HS (M.map gm) :: R') G) : E L G := fun w hw => by
  have h1 := hb.p.hs hw
  have h2 : Holds w (gm g :: HS (M'.map gm) :: R') := HS.cong (fun _ x => ha.p.hs x) h1
  exact E.push (f := gm) (x := g) (N := M) (N' := M') hp h w h2
theorem psg {G : World → Prop} (g : Gn) (M : List Gn) {R R' : List HP} [hb : G2 L g.b g.ks g.c R] [ha : AX R (HS (M.map gm)) R'] (h : E (HS ((M ++ [g]).map gm) :: R') G) : E L G := psh g M (M ++ [g]) (List.perm_append_singleton g M) h
set_option maxHeartbeats 1000000 in
theorem f7 (p : Nat) (s : Ps) (r : api_Rec) (lsn : Int) : Fn eN Tryz.prog 34 #[.pointer (some ⟨p, 0, none⟩), v_api_Rec r, .int .i64 lsn] (ppt 80 p s) (fun _ X => ∃ b, X = ppt 80 p (nt s r lsn b)) := fun L => by
  refine c34_fn rfl rfl ?_
  repeat' (first | (with_reducible first | refine d_seq fun K hK => ?_ | (refine hK _ _ ?_; clear hK K) | (refine SG.p ?_; try intro b)) | refine i_c ?_ ?_ <;> intro hc <;> try simp only [push_cast, seval] at hc | refine i_x ?_ | clear hK K)
  refine i_clp (f15 p s.mb s.ml) ?_
  repeat' (first | (with_reducible first | refine d_seq fun K hK => ?_ | (refine hK _ _ ?_; clear hK K) | (refine SG.p ?_; try intro b)) | refine i_c ?_ ?_ <;> intro hc <;> try simp only [push_cast, seval] at hc | refine i_x ?_ | clear hK K)
  all_goals (try (exfalso; simp at hc; done))
  all_goals (try (exfalso; omega))
  · refine i_done () (ppt 80 p s) rfl ⟨0, ?_⟩
    simp [nt, *]
  iterate 2
    · repeat' (first | (with_reducible first | refine d_seq fun K hK => ?_ | (refine hK _ _ ?_; clear hK K) | (refine SG.p ?_; try intro b) | refine SP.p ?_) | refine i_c ?_ ?_ <;> intro hc <;> try simp only [push_cast, seval] at hc | refine i_x ?_ | clear hK K)
      refine i_dki (ε := eM) none rfl ?_
      repeat' (first | (with_reducible first | refine d_seq fun K hK => ?_ | (refine hK _ _ ?_; clear hK K) | (refine SG.p ?_; try intro b) | refine SP.p ?_) | refine i_c ?_ ?_ <;> intro hc <;> try simp only [push_cast, seval] at hc | refine i_x ?_ | clear hK K)
      refine i_dki (ε := eI) 0 rfl ?_
      repeat' (first | (with_reducible first | refine d_seq fun K hK => ?_ | (refine hK _ _ ?_; clear hK K) | (refine SG.p ?_; try intro b) | refine SP.p ?_) | refine i_c ?_ ?_ <;> intro hc <;> try simp only [push_cast, seval] at hc | refine i_x ?_ | clear hK K)
      refine drg s.M (dg s.M r.Txn) (dg_sub _ _) ?_
      rw [← oe_dg]
      refine i_done () (ppt 80 p { s with M := dg s.M r.Txn, es := dlk s.es r.Txn }) rfl ⟨0, ?_⟩
      simp [nt, *]
  repeat' (first | (with_reducible first | refine d_seq fun K hK => ?_ | (refine hK _ _ ?_; clear hK K) | (refine SG.p ?_; try intro b) | refine SP.p ?_) | refine i_c ?_ ?_ <;> intro hc <;> try simp only [push_cast, seval] at hc | refine i_x ?_ | clear hK K)
  refine i_mui (ε := eI) 0 lsn rfl rfl ?_
  repeat' (first | (with_reducible first | refine d_seq fun K hK => ?_ | (refine hK _ _ ?_; clear hK K) | (refine SG.p ?_; try intro b) | refine SP.p ?_) | refine i_c ?_ ?_ <;> intro hc <;> try simp only [push_cast, seval] at hc | refine i_x ?_ | clear hK K)
  repeat' (first | (with_reducible first | refine d_seq fun K hK => ?_ | (refine hK _ _ ?_; clear hK K) | (refine SG.p ?_; try intro b) | refine SP.p ?_) | refine i_c ?_ ?_ <;> intro hc <;> try simp only [push_cast, seval] at hc | refine i_x ?_ | clear hK K)
  refine i_clp (f18 r) ?_
  repeat' (first | (with_reducible first | refine d_seq fun K hK => ?_ | (refine hK _ _ ?_; clear hK K) | (refine SG.p ?_; try intro b)) | refine i_c ?_ ?_ <;> intro hc <;> try simp only [push_cast, seval] at hc | refine i_x ?_ | clear hK K)
  · have hw : wasR r = none := by simpa using hc
    refine i_done () (ppt 80 p { s with es := pk s.es r.Txn lsn s.cl, cl := ck s.es r.Txn s.cl }) rfl ⟨0, ?_⟩
    simp [nt, *]
  · obtain ⟨w, hw⟩ : ∃ w, wasR r = some w := Option.isSome_iff_exists.1 (by simpa using hc)
    simp only [hw, Option.getD_some]
    repeat' (first | (with_reducible first | refine d_seq fun K hK => ?_ | (refine hK _ _ ?_; clear hK K) | (refine SG.p ?_; try intro b) | refine SP.p ?_) | refine i_c ?_ ?_ <;> intro hc <;> try simp only [push_cast, seval] at hc | refine i_x ?_ | clear hK K)
    refine i_lk1iq (ε := eM) none rfl ?_
    rw [gk_oe]
    cases hf : fg s.M r.Txn with
    | none =>
      simp only [Option.map_none, Option.getD_none]
      repeat' (first | (with_reducible first | refine d_seq fun K hK => ?_ | (refine hK _ _ ?_; clear hK K) | (refine SG.p ?_; try intro b)) | refine i_c ?_ ?_ <;> intro hc <;> try simp only [push_cast, seval] at hc | refine i_x ?_ | clear hK K)
      all_goals (try (exfalso; simp at hc; done))
      refine r_nwm eS eWs fun nb => ?_
      repeat' (first | (with_reducible first | refine d_seq fun K hK => ?_ | (refine hK _ _ ?_; clear hK K) | (refine SG.p ?_; try intro b) | refine SP.p ?_) | refine i_c ?_ ?_ <;> intro hc <;> try simp only [push_cast, seval] at hc | refine i_x ?_ | clear hK K)
      refine i_mui (ε := eM) none (some nb) rfl rfl ?_
      repeat' (first | (with_reducible first | refine d_seq fun K hK => ?_ | (refine hK _ _ ?_; clear hK K) | (refine SG.p ?_; try intro b) | refine SP.p ?_) | refine i_c ?_ ?_ <;> intro hc <;> try simp only [push_cast, seval] at hc | refine i_x ?_ | clear hK K)
      refine i_lk2s (ε := eWs) ⟨[], false⟩ rfl ?_
      repeat' (first | (with_reducible first | refine d_seq fun K hK => ?_ | (refine hK _ _ ?_; clear hK K) | (refine SG.p ?_; try intro b)) | refine i_c ?_ ?_ <;> intro hc <;> try simp only [push_cast, seval] at hc | refine i_x ?_ | clear hK K)
      all_goals (try (exfalso; simp [gk] at hc; done))
      refine i_mus (ε := eWs) ⟨[], false⟩ w rfl rfl ?_
      repeat' (first | (with_reducible first | refine d_seq fun K hK => ?_ | (refine hK _ _ ?_; clear hK K) | (refine SG.p ?_; try intro b)) | refine i_c ?_ ?_ <;> intro hc <;> try simp only [push_cast, seval] at hc | refine i_x ?_ | clear hK K)
      have hg : gk (oe s.M) r.Txn = none := by rw [gk_oe, hf]; rfl
      rw [pk_new hg, show ck (oe s.M) r.Txn s.cb = s.cb + 1 by simp [ck, hg]]
      rw [show oe s.M ++ [(r.Txn, some nb, s.cb)] = oe (s.M ++ [⟨r.Txn, s.cb, nb, [(r.Key, w, 0)], 1⟩]) by simp [oe]]
      refine psg ⟨r.Txn, s.cb, nb, [(r.Key, w, 0)], 1⟩ s.M ?_
      refine i_done () (ppt 80 p { s with es := pk s.es r.Txn lsn s.cl, cl := ck s.es r.Txn s.cl, M := s.M ++ [⟨r.Txn, s.cb, nb, [(r.Key, w, 0)], 1⟩], cb := s.cb + 1 }) rfl ⟨nb, ?_⟩
      simp [nt, *]
    | some g =>
      simp only [Option.map_some, Option.getD_some]
      obtain ⟨M', hp1, hp2⟩ := up_perm hf
      repeat' (first | (with_reducible first | refine d_seq fun K hK => ?_ | (refine hK _ _ ?_; clear hK K) | (refine SG.p ?_; try intro b)) | refine i_c ?_ ?_ <;> intro hc <;> try simp only [push_cast, seval] at hc | refine i_x ?_ | clear hK K)
      all_goals (try (exfalso; simp at hc; done))
      refine pul g M' hp1 ?_
      refine i_lk2s (ε := eWs) ⟨[], false⟩ rfl ?_
      repeat' (first | (with_reducible first | refine d_seq fun K hK => ?_ | (refine hK _ _ ?_; clear hK K) | (refine SG.p ?_; try intro b)) | refine i_c ?_ ?_ <;> intro hc <;> try simp only [push_cast, seval] at hc | refine i_x ?_ | clear hK K)
      · have hk : gk g.ks r.Key = none := by simpa using hc
        refine i_mus (ε := eWs) ⟨[], false⟩ w rfl rfl ?_
        repeat' (first | (with_reducible first | refine d_seq fun K hK => ?_ | (refine hK _ _ ?_; clear hK K) | (refine SG.p ?_; try intro b)) | refine i_c ?_ ?_ <;> intro hc <;> try simp only [push_cast, seval] at hc | refine i_x ?_ | clear hK K)
        refine psh ⟨g.id, g.born, g.b, pk g.ks r.Key w g.c, ck g.ks r.Key g.c⟩ M' (up s.M r.Txn r.Key w) (hp2 r.Key w) ?_
        rw [← oe_up s.M r.Txn r.Key w]
        refine i_done () (ppt 80 p { s with es := pk s.es r.Txn lsn s.cl, cl := ck s.es r.Txn s.cl, M := up s.M r.Txn r.Key w }) rfl ⟨0, ?_⟩
        simp [nt, *]
      · obtain ⟨v, hk⟩ : ∃ v, gk g.ks r.Key = some v := Option.isSome_iff_exists.1 (by simpa using hc)
        refine psh g M' _ hp1 ?_
        refine i_done () (ppt 80 p { s with es := pk s.es r.Txn lsn s.cl, cl := ck s.es r.Txn s.cl }) rfl ⟨0, ?_⟩
        simp [nt, *]
end Go.Sp
namespace Go.Sp
open Go Go.Proofs
set_option linter.unusedSimpArgs false
set_option linter.unusedVariables false
set_option maxRecDepth 10000
variable {L : List HP}
theorem mem_perm {α : Type} {M : List α} {g : α} (h : g ∈ M) : ∃ M', M.Perm (g :: M') := by
  obtain ⟨A, B, rfl⟩ := List.append_of_mem h
  exact ⟨A ++ B, List.perm_middle⟩
theorem oe_mem {M : List Gn} {x : Int × Option Nat × Nat} (h : x ∈ oe M) : ∃ g ∈ M, x = (g.id, some g.b, g.born) := by
  obtain ⟨g, hg, rfl⟩ := List.mem_map.1 h
  exact ⟨g, hg, rfl⟩
def acts (M : List Gn) : Nat := (M.map (·.ks.length)).sum
def kl (M : List Gn) (x : Int × Option Nat × Nat) : Nat := ((fg M x.1).map (·.ks.length)).getD 0
theorem oe_ids (M : List Gn) : (oe M).map (·.1) = M.map (·.id) := by simp [oe]
theorem kl_sum {M : List Gn} (hn : (M.map (·.id)).Nodup) : ((oe M).map (kl M)).sum = acts M := by
  unfold acts
  congr 1
  simp only [oe, List.map_map]
  refine List.map_congr_left fun g hg => ?_
  simp [kl, fg_of hn hg]
theorem kl_le {M : List Gn} (hn : (M.map (·.id)).Nodup) {S R : Ents eI eM} (h : Rg (oe M) S R) : (S.map (kl M)).sum ≤ acts M := by
  have := (h.map (kl M)).sum_nat
  rw [List.map_append, List.sum_append, kl_sum hn] at this
  omega
set_option maxHeartbeats 1000000 in
theorem f14 (p : Nat) (s : Ps) {n : Nat} (h : s.ok n) (hn : n ≤ 1000000) : Fp eI Tryz.prog 12 #[.pointer (some ⟨p, 0, none⟩)] (ppt 80 p s) (acts s.M : Int) := fun L => by
  have hid : (s.M.map (·.id)).Nodup := by have := h.o.1; rwa [oe_ids] at this
  have hk : acts s.M ≤ n := h.nk
  refine c12_fn rfl rfl ?_
  repeat' (first | (with_reducible first | refine d_seq fun K hK => ?_ | (refine hK _ _ ?_; clear hK K) | (refine SG.p ?_; try intro b)) | refine i_c ?_ ?_ <;> intro hc <;> try simp only [push_cast, seval] at hc | refine i_x ?_ | clear hK K)
  refine i_clp (f15 p s.mb s.ml) ?_
  repeat' (first | (with_reducible first | refine d_seq fun K hK => ?_ | (refine hK _ _ ?_; clear hK K) | (refine SG.p ?_; try intro b)) | refine i_c ?_ ?_ <;> intro hc <;> try simp only [push_cast, seval] at hc | refine i_x ?_ | clear hK K)
  all_goals (try (exfalso; simp at hc; done))
  refine i_mrng (κ := eI) (ε := eM) (a := 3) (b := 88) (by kernel_rfl) fun it => ?_
  repeat' (first | (with_reducible first | refine d_seq fun K hK => ?_ | (refine hK _ _ ?_; clear hK K) | (refine SG.p ?_; try intro b) | refine SP.p ?_) | refine i_c ?_ ?_ <;> intro hc <;> try simp only [push_cast, seval] at hc | refine i_x ?_ | clear hK K)
  refine d_lp [3, 12] (fun t : Ents eI eM × Ents eI eM => [(3, .int .i64 ((t.1.map (kl s.M)).sum : Nat)), (12, .pointer (some ⟨it, 0, none⟩))])
    (fun t => blk it (.mapIter (some s.mb) s.cb (sn t.1) s.cb) :: (ppt 80 p s ++ L)) (fun t => Rg (oe s.M) t.1 t.2) (fun t => t.2.length) ([], oe s.M) rfl ?_ (Rg.start _) ?_
  · show Sub (blk it (.mapIter (some s.mb) s.cb #[] s.cb) :: (ppt 80 p s ++ L)) _
    exact SX.p
  rintro ⟨S, R⟩ hR
  dsimp only at hR ⊢
  have hle := kl_le hid hR
  repeat' (first | (with_reducible first | refine d_seq fun K hK => ?_ | (refine hK _ _ ?_; clear hK K) | (refine SG.p ?_; try intro b) | refine SP.p ?_) | refine i_c ?_ ?_ <;> intro hc <;> try simp only [push_cast, seval] at hc | refine i_x ?_ | clear hK K)
  refine i_mnx (κ := eI) (ε := eM) h.o.2.2 (Nat.le_refl _) (fun ha => ?_) fun x hx hns => ?_
  · repeat' (first | (with_reducible first | refine d_seq fun K hK => ?_ | (refine hK _ _ ?_; clear hK K) | (refine SG.p ?_; try intro b) | refine SP.p ?_) | refine i_c ?_ ?_ <;> intro hc <;> try simp only [push_cast, seval] at hc | refine i_x ?_ | clear hK K)
    obtain rfl := hR.done h.o.2.1 ha
    have hS : S.Perm (oe s.M) := by have := hR; unfold Rg at this; simpa using this
    have e := (hS.map (kl s.M)).sum_nat
    rw [kl_sum hid] at e
    rw [e]
    (with_reducible first | apply i_ret0 | apply i_ret2 | apply i_ret3 | apply i_ret); exact rfl
    rfl
  · repeat' (first | (with_reducible first | refine d_seq fun K hK => ?_ | (refine hK _ _ ?_; clear hK K) | (refine SG.p ?_; try intro b) | refine SP.p ?_) | refine i_c ?_ ?_ <;> intro hc <;> try simp only [push_cast, seval] at hc | refine i_x ?_ | clear hK K)
    rw [sn_push]
    refine i_ment hx h.o.2.1 ?_
    obtain ⟨R', hlt, hst⟩ := hR.step hx hns
    have hle' := kl_le hid hst
    obtain ⟨g, hg, rfl⟩ := oe_mem hx
    have hkg : kl s.M (g.id, some g.b, g.born) = g.ks.length := by simp [kl, fg_of hid hg]
    rw [List.map_append, List.sum_append] at hle'
    simp only [List.map_cons, List.map_nil, List.sum_cons, List.sum_nil, hkg] at hle'
    obtain ⟨M', hp⟩ := mem_perm hg
    repeat' (first | (with_reducible first | refine d_seq fun K hK => ?_ | (refine hK _ _ ?_; clear hK K) | (refine SG.p ?_; try intro b) | refine SP.p ?_) | refine i_c ?_ ?_ <;> intro hc <;> try simp only [push_cast, seval] at hc | refine i_x ?_ | clear hK K)
    refine pul g M' hp ?_
    refine r_mlen (κ := eS) (ε := eWs) (a := 9) (b := 90) (by kernel_rfl) M1.p ?_
    repeat' (first | (with_reducible first | refine d_seq fun K hK => ?_ | (refine hK _ _ ?_; clear hK K) | (refine SG.p ?_; try intro b) | refine SP.p ?_) | refine i_c ?_ ?_ <;> intro hc <;> try simp only [push_cast, seval] at hc | refine i_x ?_ | clear hK K)
    refine psh g M' _ hp ?_
    rw [w64 (by omega) (by omega)]
    refine i_bk (S ++ [(g.id, some g.b, g.born)], R') ?_ hst hlt
    show [_, _] = [_, _]
    simp [hkg]
end Go.Sp
namespace Go.Sp
open Go Go.MapKept Go.WideElems Go.Maps Go.WideMaps
set_option linter.unusedSimpArgs false
theorem ins_perm (x : Lit × DataW Unit) : ∀ l : List (Lit × DataW Unit), (DataW.insert x l).Perm (x :: l)
  | [] => List.Perm.refl _
  | y :: r => by
    unfold DataW.insert
    split
    · exact List.Perm.refl _
    · exact ((ins_perm x r).cons y).trans (List.Perm.swap _ _ _)
theorem fold_perm : ∀ l : List (Lit × DataW Unit), (l.foldr DataW.insert []).Perm l
  | [] => List.Perm.refl _
  | x :: r => (ins_perm x _).trans ((fold_perm r).cons x)
def R0 : Value → Option (DataW Unit × List MemPlace) := fun _ => some (.lit (.bool true), [])
section
variable {κ ε : Enc}
def EOk0 (es : Ents κ ε) (c : Nat) : Prop := (es.map (·.1)).Nodup ∧ (es.map (·.2.2)).Nodup ∧ ∀ x ∈ es, x.2.2 < c
omit κ ε in
theorem wf_i64 {n : Int} (h : wf64 n) : (Lit.int .i64 n).wf = true := by
  obtain ⟨h1, h2⟩ := h
  simp only [Lit.wf, IntKind.min, IntKind.max, IntKind.bits, IntKind.signed]
  simp
  omega
theorem own_of {P : Program} {k : TypeId} {lit : κ.α → Lit} {es : Ents κ ε} {c b : Nat} {w : World} (hk : ∀ x ∈ es, keyOf P k (κ.enc x.1) = some (lit x.1)) (hinj : ∀ a b : κ.α, κ.enc a = κ.enc b → a = b) (ho : EOk0 es c) (hl : es.length ≤ 1000000)
    (hb : w.heap[b]? = some (.map ⟨es.map (men κ ε)⟩ c)) : ∃ l : List (Lit × DataW Unit), (l.map (·.1)).Perm (es.map fun x => lit x.1) ∧ w.ownsMap P k R0 b es.length (.map l) := by
  have hrd : ∀ x ∈ es, Go.WideElems.rd P k R0 (men κ ε x) = some (lit x.1, DataW.lit (.bool true)) := fun x hx => WideElems.rd_mk (key := κ.enc x.1) (val := ε.enc x.2.1) (born := x.2.2) (yv := (DataW.lit (.bool true), [])) (hk x hx) rfl
  have hF : Fit P k R0 (⟨es.map (men κ ε)⟩ : Array MapEntry) c := by
    refine ⟨by simp [maxLen]; omega, ⟨?_, ?_, ?_⟩, ?_⟩
    · intro x hx
      obtain ⟨y, hy, rfl⟩ := List.mem_map.1 hx
      exact ho.2.2 y hy
    · simpa [men, Function.comp_def] using ho.2.1
    · have := ho.1
      simp only [List.map_map, Function.comp_def, men]
      rw [List.nodup_iff_pairwise_ne, List.pairwise_map] at this ⊢
      exact this.imp fun h e => h (hinj _ _ e)
    · intro x hx
      obtain ⟨y, hy, rfl⟩ := List.mem_map.1 hx
      exact ⟨_, hrd y hy⟩
  refine ⟨_, ?_, ⟨_, c, hb, hF, by simp, rfl⟩⟩
  refine ((fold_perm _).map _).trans ?_
  rw [List.map_map, List.map_map]
  rw [List.map_congr_left (g := fun x => lit x.1) fun x hx => by simp [WideElems.rg, hrd x hx]]
end
theorem grown_b {w w' : World} (h : RowKit.Below w.heap.size w w') (row : Option Nat) : w.grownBy w' row := ⟨h.os, h.tape, h.output, h.size, fun k hk _ => h.block k hk⟩
section
variable {P : Program} {f g : FuncId} {T kt tt : TypeId} {c b clk : Nat}
theorem fn_keys (hK : ∀ mb W, Calls P f #[.map mb] W fun e w' => e = .returned (.func (.func g) #[] #[.pointer (some ⟨W.heap.size, 0, none⟩)]) ∧ w' = W.alloc (.cells #[.map mb] T)) (mb : Option Nat) :
    Fn eV P f #[.map mb] [] (fun y X => ∃ c, y = .func (.func g) #[] #[.pointer (some ⟨c, 0, none⟩)] ∧ X = [ar c T [.map mb]]) := fun L w hw => by
  refine (hK mb w).mono ?_
  rintro _ _ ⟨rfl, rfl⟩
  exact ⟨_, rfl, _, ⟨_, rfl, rfl⟩, Holds.push (by simpa using hw) (.cells #[.map mb] T (0, 0)) rfl⟩
theorem fn_srt {w w' : World} {A : List HP} {n : Nat} {L : List HP} {p : Option Addr} {m cp : Nat} {xs : List Value} (hw : Holds w (A ++ L)) (hr : w'.ownsRow w.heap.size kt 1 (.slice p m cp) n xs) (hb : RowKit.Below w.heap.size w w') : Holds w' (ow kt 1 (p, m, cp) xs :: (A ++ L)) := by
  have h0 := hw.nilow kt 1
  have hr' : w'.ownsRow w.heap.size kt 1 (.slice p m cp) m xs := by
    obtain ⟨h1, h2⟩ := hr
    rcases h2 with ⟨e, h2⟩ | ⟨g, cap, cur, e, h2⟩
    · cases e
      exact ⟨by rw [h1, h2], .inl ⟨rfl, rfl⟩⟩
    · cases e
      exact ⟨h1, .inr ⟨g, _, cur, rfl, h2⟩⟩
  exact Holds.grown (s := (none, 0, 0)) (s' := (p, m, cp)) h0 w.heap.size (fun _ => rfl) hr' (grown_b hb _) (fun g e => by cases e)
def srt (es : List Int) : List Int := es.mergeSort leI
def srs (es : List (List UInt8)) : List (List UInt8) := es.mergeSort leB
theorem fn_sorted_i {ε : Enc} {es : Ents eI ε} (hkt : P.underlying kt = some (.int .i64))
    (hS : ∀ (D : DataW Unit) (w : World), w.heap[c]? = some (.cells #[.map (some b)] T (0, 0)) → w.ownsMap P kt R0 b es.length D → Maps.size D ≤ maxLen → Maps.size D * 8 ≤ 140737488355328 →
      Calls P f #[.func (.func g) #[] #[.pointer (some ⟨c, 0, none⟩)]] w fun e w' => ∃ (v : Value) (ss : List Int), e = .returned v ∧ ss.Perm (intKeys D) ∧ w'.ownsRow w.heap.size kt 1 v ss.length ((ss.mergeSort fun x y => decide (x ≤ y)).map encZ) ∧ (v = .slice none 0 0 ↔ ss = []) ∧ RowKit.Below w.heap.size w w')
    (ho : EOk0 es clk) (hwf : ∀ x ∈ es, wf64 x.1) (hl : es.length ≤ 1000000) :
    Fn eSl P f #[.func (.func g) #[] #[.pointer (some ⟨c, 0, none⟩)]] [ar c T [.map (some b)], mp eI ε b es clk] (fun s X => X = [ow kt 1 s ((srt (es.map (·.1))).map fun n => .int .i64 n), ar c T [.map (some b)], mp eI ε b es clk]) := fun L w hw => by
  have hc : w.heap[c]? = some (.cells #[.map (some b)] T (0, 0)) := Holds.get hw
  have hb := mp_get (HS.tl hw)
  obtain ⟨l, hp, hown⟩ := own_of (P := P) (k := kt) (κ := eI) (lit := fun x => .int .i64 x) (fun x hx => keyOf_int_mk hkt (by
    have := hwf x hx
    exact wf_i64 this)) (fun a b h => by simpa using h) ho hl hb
  have hsz : Maps.size (.map l : DataW Unit) = es.length := by
    have := hp.length_eq
    simpa [Maps.size] using this
  refine (hS _ w hc hown (by rw [hsz]; simp [maxLen]; omega) (by rw [hsz]; omega)).mono ?_
  rintro _ w' ⟨v, ss, rfl, hss, hrow, _, hbel⟩
  obtain ⟨p, m, cp, rfl⟩ : ∃ p m cp, v = .slice p m cp := by
    rcases hrow.2 with ⟨e, _⟩ | ⟨_, _, _, e, _⟩
    · exact ⟨_, _, _, e⟩
    · exact ⟨_, _, _, e⟩
  refine ⟨(p, m, cp), rfl, _, rfl, ?_⟩
  have hpk : ss.Perm (es.map (·.1)) := by
    refine hss.trans ?_
    have := hp.map intOf
    rw [List.map_map, List.map_map] at this
    refine List.Perm.trans (.of_eq ?_) (this.trans (.of_eq ?_))
    · rfl
    · exact List.map_congr_left fun x _ => rfl
  have hm : (ss.mergeSort fun x y => decide (x ≤ y)) = srt (es.map (·.1)) := mergeSort_of_perm_i hpk
  rw [hm] at hrow
  exact fn_srt (A := [ar c T [.map (some b)], mp eI ε b es clk]) hw hrow hbel
theorem fn_sorted_s {ε : Enc} {es : Ents eS ε} (hkt : P.underlying kt = some .string)
    (hS : ∀ (D : DataW Unit) (w : World), w.heap[c]? = some (.cells #[.map (some b)] T (0, 0)) → w.ownsMap P kt R0 b es.length D → Maps.size D ≤ maxLen → Maps.size D * 16 ≤ 140737488355328 →
      Calls P f #[.func (.func g) #[] #[.pointer (some ⟨c, 0, none⟩)]] w fun e w' => ∃ (v : Value) (ss : List (List UInt8)), e = .returned v ∧ ss.Perm (strKeys D) ∧ w'.ownsRow w.heap.size kt 1 v ss.length ((ss.mergeSort fun x y => decide (x ≤ y)).map Proofs.encStr) ∧ (v = .slice none 0 0 ↔ ss = []) ∧ RowKit.Below w.heap.size w w')
    (ho : EOk0 es clk) (hwf : ∀ x ∈ es, x.1.length ≤ maxLen) (hl : es.length ≤ 1000000) :
    Fn eSl P f #[.func (.func g) #[] #[.pointer (some ⟨c, 0, none⟩)]] [ar c T [.map (some b)], mp eS ε b es clk] (fun s X => X = [ow kt 1 s ((srs (es.map (·.1))).map fun n => str n), ar c T [.map (some b)], mp eS ε b es clk]) := fun L w hw => by
  have hc : w.heap[c]? = some (.cells #[.map (some b)] T (0, 0)) := Holds.get hw
  have hb := mp_get (HS.tl hw)
  obtain ⟨l, hp, hown⟩ := own_of (P := P) (k := kt) (κ := eS) (lit := fun x => .string x) (fun x hx => keyOf_string_mk (s := ⟨x.1.toArray⟩) hkt (by
    have := hwf x hx
    simpa [ByteArray.size] using this)) (fun a b h => str_inj h) ho hl hb
  have hsz : Maps.size (.map l : DataW Unit) = es.length := by
    have := hp.length_eq
    simpa [Maps.size] using this
  refine (hS _ w hc hown (by rw [hsz]; simp [maxLen]; omega) (by rw [hsz]; omega)).mono ?_
  rintro _ w' ⟨v, ss, rfl, hss, hrow, _, hbel⟩
  obtain ⟨p, m, cp, rfl⟩ : ∃ p m cp, v = .slice p m cp := by
    rcases hrow.2 with ⟨e, _⟩ | ⟨_, _, _, e, _⟩
    · exact ⟨_, _, _, e⟩
    · exact ⟨_, _, _, e⟩
  refine ⟨(p, m, cp), rfl, _, rfl, ?_⟩
  have hpk : ss.Perm (es.map (·.1)) := by
    refine hss.trans ?_
    have := hp.map strOf
    rw [List.map_map, List.map_map] at this
    refine List.Perm.trans (.of_eq ?_) (this.trans (.of_eq ?_))
    · rfl
    · exact List.map_congr_left fun x _ => rfl
  have hm : (ss.mergeSort fun x y => decide (x ≤ y)) = srs (es.map (·.1)) := mergeSort_of_perm hpk
  rw [hm] at hrow
  exact fn_srt (A := [ar c T [.map (some b)], mp eS ε b es clk]) hw hrow hbel
end
end Go.Sp
namespace Go.Sp
open Go Go.Proofs Go.RowKit Go.Maps Go.Sort Go.Shelf
theorem EOk.z {κ ε : Enc} [DecidableEq κ.α] {es : Ents κ ε} {c : Nat} (h : EOk es c) : EOk0 es c := h
theorem sortsI (m : Nat) : AnyZI.SortsIn Tryz.prog Tryz.lsI_ren Fence.wide m :=
  ⟨fun blk off cap ss W hH hblk hsz => callsIn_wide.2 (AnyM.slices_Sort_int Tryz.loI blk off cap ss W hH hblk hsz),
   fun p cap W => callsIn_wide.2 (AnyM.slices_Sort_int_none Tryz.loI p cap W)⟩
theorem sortsS (m : Nat) : AnyZ.SortsIn Tryz.prog Tryz.lsS_ren Fence.wide m :=
  ⟨fun blk off cap ss W hH hblk hsz => callsIn_wide.2 (AnyM.slices_Sort_string Tryz.loS blk off cap ss W hH hblk hsz),
   fun p cap W => callsIn_wide.2 (AnyM.slices_Sort_string_none Tryz.loS p cap W)⟩
theorem kB (mb : Option Nat) : Fn eV Tryz.prog 67 #[.map mb] [] (fun y X => ∃ c, y = .func (.func 95) #[] #[.pointer (some ⟨c, 0, none⟩)] ∧ X = [ar c 77 [.map mb]]) :=
  fn_keys (fun mb W => (callsIn_wide (n := 5)).1 (AnyZI.keys_in Tryz.lkB Fence.wide 5 trivial rfl mb W)) mb
theorem kL (mb : Option Nat) : Fn eV Tryz.prog 38 #[.map mb] [] (fun y X => ∃ c, y = .func (.func 64) #[] #[.pointer (some ⟨c, 0, none⟩)] ∧ X = [ar c 78 [.map mb]]) :=
  fn_keys (fun mb W => (callsIn_wide (n := 5)).1 (AnyZI.keys_in Tryz.lkL Fence.wide 5 trivial rfl mb W)) mb
theorem kS (mb : Option Nat) : Fn eV Tryz.prog 66 #[.map mb] [] (fun y X => ∃ c, y = .func (.func 94) #[] #[.pointer (some ⟨c, 0, none⟩)] ∧ X = [ar c 124 [.map mb]]) :=
  fn_keys (fun mb W => (callsIn_wide (n := 5)).1 (AnyZ.keys_in Tryz.lkS Fence.wide 5 trivial rfl mb W)) mb
theorem cellc {w : World} {c : Nat} {v : Value} {T : TypeId} (h : w.heap[c]? = some (.cells #[v] T (0, 0))) : w.cell? ⟨c, 0, none⟩ = some v ∧ c < w.heap.size :=
  ⟨by simp [World.cell?, h], (Array.getElem?_eq_some_iff.1 h).1⟩
theorem sB (c b clk : Nat) (es : Ents eI eM) (ho : EOk es clk) (hwf : ∀ x ∈ es, wf64 x.1) (hl : es.length ≤ 1000000) :
    Fn eSl Tryz.prog 37 #[.func (.func 95) #[] #[.pointer (some ⟨c, 0, none⟩)]] [ar c 77 [.map (some b)], mp eI eM b es clk] (fun s X => X = [ow 3 1 s ((srt (es.map (·.1))).map fun n => .int .i64 n), ar c 77 [.map (some b)], mp eI eM b es clk]) :=
  fn_sorted_i Tryz.underlying3 (fun D w hc hown h1 h2 => by
    have hseq : SeqGives Fence.wide 2 Tryz.prog 95 #[.pointer (some ⟨c, 0, none⟩)] encZ (fun ss => ss.Perm (intKeys D)) (Maps.size D) w :=
      AnyZI.keys_gives (ρ := Tryz.lkB_ren) { Tryz.lkB with } Fence.wide _ trivial rfl (by omega) c b es.length D w (cellc hc).2 (cellc hc).1 hown
    have cS := AnyZI.sorted_in Tryz.lsI Fence.wide 5 trivial trivial trivial trivial rfl (by omega) (sortsI _) (enters_of Tryz.func63 (by kernel_rfl) rfl) 95 #[.pointer (some ⟨c, 0, none⟩)] trivial (enters_of Tryz.func95 (by kernel_rfl) rfl) _ _ h1 h2 _ hseq
    exact (callsIn_wide (n := 5)).1 cS) ho.z hwf hl
theorem sL (c b clk : Nat) (es : Ents eI eI) (ho : EOk es clk) (hwf : ∀ x ∈ es, wf64 x.1) (hl : es.length ≤ 1000000) :
    Fn eSl Tryz.prog 37 #[.func (.func 64) #[] #[.pointer (some ⟨c, 0, none⟩)]] [ar c 78 [.map (some b)], mp eI eI b es clk] (fun s X => X = [ow 3 1 s ((srt (es.map (·.1))).map fun n => .int .i64 n), ar c 78 [.map (some b)], mp eI eI b es clk]) :=
  fn_sorted_i Tryz.underlying3 (fun D w hc hown h1 h2 => by
    have hseq : SeqGives Fence.wide 2 Tryz.prog 64 #[.pointer (some ⟨c, 0, none⟩)] encZ (fun ss => ss.Perm (intKeys D)) (Maps.size D) w :=
      AnyZI.keys_gives (ρ := Tryz.lkL_ren) { Tryz.lkL with } Fence.wide _ trivial rfl (by omega) c b es.length D w (cellc hc).2 (cellc hc).1 hown
    have cS := AnyZI.sorted_in Tryz.lsI Fence.wide 5 trivial trivial trivial trivial rfl (by omega) (sortsI _) (enters_of Tryz.func63 (by kernel_rfl) rfl) 64 #[.pointer (some ⟨c, 0, none⟩)] trivial (enters_of Tryz.func64 (by kernel_rfl) rfl) _ _ h1 h2 _ hseq
    exact (callsIn_wide (n := 5)).1 cS) ho.z hwf hl
theorem sS (c b clk : Nat) (es : Ents eS eB) (ho : EOk es clk) (hwf : ∀ x ∈ es, x.1.length ≤ maxLen) (hl : es.length ≤ 1000000) :
    Fn eSl Tryz.prog 65 #[.func (.func 94) #[] #[.pointer (some ⟨c, 0, none⟩)]] [ar c 124 [.map (some b)], mp eS eB b es clk] (fun s X => X = [ow 9 1 s ((srs (es.map (·.1))).map fun n => str n), ar c 124 [.map (some b)], mp eS eB b es clk]) :=
  fn_sorted_s Tryz.underlying9 (fun D w hc hown h1 h2 => by
    have hseq : SeqGives Fence.wide 2 Tryz.prog 94 #[.pointer (some ⟨c, 0, none⟩)] encStr (fun ss => ss.Perm (strKeys D)) (Maps.size D) w :=
      AnyZ.keys_gives (ρ := Tryz.lkS_ren) { Tryz.lkS with } Fence.wide _ trivial rfl (by omega) c b es.length D w (cellc hc).2 (cellc hc).1 hown
    have cS := AnyZ.sorted_in Tryz.lsS Fence.wide 5 trivial trivial trivial trivial rfl (by omega) (sortsS _) (enters_of Tryz.func93 (by kernel_rfl) rfl) 94 #[.pointer (some ⟨c, 0, none⟩)] trivial (enters_of Tryz.func94 (by kernel_rfl) rfl) _ _ h1 h2 _ hseq
    exact (callsIn_wide (n := 5)).1 cS) ho.z hwf hl
end Go.Sp
namespace Go.Sp
open Go Go.Proofs
set_option linter.unusedSimpArgs false
set_option linter.unusedVariables false
set_option maxRecDepth 10000
variable {L : List HP}
def lkp (M : List Gn) (k : List UInt8) : List Int → Option past_Was
  | [] => none
  | i :: r => match (fg M i).bind fun g => gk g.ks k with
    | some w => some w
    | none => lkp M k r
def getp (M : List Gn) (k : List UInt8) : Option past_Was := lkp M k (srt (M.map (·.id)))
theorem Ps.ok.wfo {s : Ps} {n : Nat} (h : s.ok n) : ∀ x ∈ oe s.M, wf64 x.1 := fun x hx => by
  obtain ⟨g, hg, rfl⟩ := oe_mem hx
  exact h.wo g hg
theorem oe_len (M : List Gn) : (oe M).length = M.length := by simp [oe]
set_option maxHeartbeats 1000000 in
theorem f6' (p : Nat) (s : Ps) (k : List UInt8) {n : Nat} (h : s.ok n) (hn : n ≤ 1000000) (r : Option past_Was) (hr : getp s.M k = r) : Fp (eT2 eWs eB) Tryz.prog 40 #[.pointer (some ⟨p, 0, none⟩), str k] (ppt 80 p s) (r.getD ⟨[], false⟩, r.isSome) := fun L => by
  refine c40_fn rfl rfl ?_
  repeat' (first | (with_reducible first | refine d_seq fun K hK => ?_ | (refine hK _ _ ?_; clear hK K) | (refine SG.p ?_; try intro b)) | refine i_c ?_ ?_ <;> intro hc <;> try simp only [push_cast, seval] at hc | refine i_x ?_ | clear hK K)
  refine i_clp (f15 p s.mb s.ml) ?_
  repeat' (first | (with_reducible first | refine d_seq fun K hK => ?_ | (refine hK _ _ ?_; clear hK K) | (refine SG.p ?_; try intro b)) | refine i_c ?_ ?_ <;> intro hc <;> try simp only [push_cast, seval] at hc | refine i_x ?_ | clear hK K)
  all_goals (try (exfalso; simp at hc; done))
  refine i_cal (kB (some s.mb)) ?_
  rintro y _ ⟨c, rfl, rfl⟩
  have hlen : (oe s.M).length ≤ 1000000 := by rw [oe_len]; exact Nat.le_trans h.no hn
  refine i_cal (sB c s.mb s.cb (oe s.M) h.o h.wfo hlen) ?_
  rintro ⟨sp, sn, sc⟩ _ rfl
  rw [oe_ids]
  simp only [List.cons_append, List.nil_append]
  have hil : (srt (s.M.map (·.id))).length ≤ 1000000 := by have := h.no; simp [srt]; omega
  generalize hg : srt (s.M.map (·.id)) = ids at *
  refine i_ow (t := 3) (sz := 1) (sp, sn, sc) fun hR => ?_
  have hlen2 : sn = ids.length := by have := hR.1; simpa using this.symm
  subst hlen2
  have hgp : lkp s.M k ids = r := by rw [← hr]; unfold getp; rw [hg]
  have hids : ∀ i ∈ ids, ∃ g, fg s.M i = some g ∧ g ∈ s.M := fun i hi => by
    have : i ∈ s.M.map (·.id) := by rw [← hg] at hi; exact (List.mergeSort_perm _ _).mem_iff.1 hi
    obtain ⟨g, hgm, rfl⟩ := List.mem_map.1 this
    have hid : (s.M.map (·.id)).Nodup := by have := h.o.1; rwa [oe_ids] at this
    exact ⟨g, fg_of hid hgm, hgm⟩
  repeat' (first | (with_reducible first | refine d_seq fun K hK => ?_ | (refine hK _ _ ?_; clear hK K) | (refine SG.p ?_; try intro b) | refine SP.p ?_) | refine i_c ?_ ?_ <;> intro hc <;> try simp only [push_cast, seval] at hc | refine i_x ?_ | clear hK K)
  refine d_lp [0, 1, 4, 18, 19, 20] (fun i : Nat => [(0, .pointer (some ⟨p, 0, none⟩)), (1, str k), (4, .pointer (some ⟨b, 0, none⟩)), (18, .slice sp ids.length sc), (19, .int .i64 (ids.length : Int)), (20, .int .i64 (i : Int))])
    (fun _ => ow 3 1 (sp, ids.length, sc) (ids.map fun n => .int .i64 n) :: ar b 90 [str [], .bool false] :: (ppt 80 p s ++ L)) (fun i => i ≤ ids.length ∧ lkp s.M k (ids.drop i) = r) (fun i => ids.length - i) 0 rfl SX.p ⟨Nat.zero_le _, hgp⟩ ?_
  rintro i ⟨hi, ho⟩
  try dsimp only at hi ho ⊢
  by_cases hlt : i < ids.length
  · have hx : (ids.map fun n => Value.int .i64 n)[i]? = some (eI.enc ids[i]) := by simp [hlt]
    obtain ⟨ad, rfl⟩ := hR.ptr (by omega)
    have ei : IntKind.wrap .i64 ((i : Int) + 1) = ((i + 1 : Nat) : Int) := by rw [w64 (by omega) (by omega)]; omega
    rw [List.drop_eq_getElem_cons hlt] at ho
    obtain ⟨g, hfg, hgm⟩ := hids ids[i] (List.getElem_mem hlt)
    generalize ids[i] = id at *
    repeat' (first | (with_reducible first | refine d_seq fun K hK => ?_ | (refine hK _ _ ?_; clear hK K) | (refine SG.p ?_; try intro b)) | refine i_c ?_ ?_ <;> intro hc <;> try simp only [push_cast, seval] at hc | refine i_x ?_ | clear hK K)
    all_goals try (exfalso; omega)
    refine i_o1 hx ?_
    repeat' (first | (with_reducible first | refine d_seq fun K hK => ?_ | (refine hK _ _ ?_; clear hK K) | (refine SG.p ?_; try intro b)) | refine i_c ?_ ?_ <;> intro hc <;> try simp only [push_cast, seval] at hc | refine i_x ?_ | clear hK K)
    refine i_lk1i (ε := eM) none rfl ?_
    rw [gk_oe, hfg]
    simp only [Option.map_some, Option.getD_some]
    obtain ⟨M', hp⟩ := mem_perm hgm
    refine pul g M' hp ?_
    refine i_lk2s (ε := eWs) ⟨[], false⟩ rfl ?_
    unfold lkp at ho
    rw [hfg] at ho
    simp only [Option.bind_some] at ho
    cases hk : gk g.ks k with
    | none =>
      rw [hk] at ho
      simp only [Option.getD_none, Option.isSome_none]
      repeat' (first | (with_reducible first | refine d_seq fun K hK => ?_ | (refine hK _ _ ?_; clear hK K) | (refine SG.p ?_; try intro b)) | refine i_c ?_ ?_ <;> intro hc <;> try simp only [push_cast, seval] at hc | refine i_x ?_ | clear hK K)
      all_goals (try (exfalso; simp at hc; done))
      rw [ei]
      refine psh g M' _ hp ?_
      exact i_bk (i + 1) rfl ⟨by omega, ho⟩ (by omega)
    | some w =>
      rw [hk] at ho
      obtain rfl : some w = r := ho
      simp only [Option.getD_some, Option.isSome_some]
      repeat' (first | (with_reducible first | refine d_seq fun K hK => ?_ | (refine hK _ _ ?_; clear hK K) | (refine SG.p ?_; try intro b)) | refine i_c ?_ ?_ <;> intro hc <;> try simp only [push_cast, seval] at hc | refine i_x ?_ | clear hK K)
      all_goals (try (exfalso; simp at hc; done))
      refine psh g M' _ hp ?_
      exact i_ret2 rfl rfl
  · rw [List.drop_eq_nil_of_le (by omega)] at ho
    obtain rfl : none = r := ho
    repeat' (first | (with_reducible first | refine d_seq fun K hK => ?_ | (refine hK _ _ ?_; clear hK K) | (refine SG.p ?_; try intro b)) | refine i_c ?_ ?_ <;> intro hc <;> try simp only [push_cast, seval] at hc | refine i_x ?_ | clear hK K)
    all_goals try (exfalso; omega)
    refine i_ldn (x := (⟨[], false⟩ : past_Was)) rfl rfl rfl ?_
    exact i_ret2 rfl rfl
theorem f6 (p : Nat) (s : Ps) (k : List UInt8) {n : Nat} (h : s.ok n) (hn : n ≤ 1000000) : Fp (eT2 eWs eB) Tryz.prog 40 #[.pointer (some ⟨p, 0, none⟩), str k] (ppt 80 p s) ((getp s.M k).getD ⟨[], false⟩, (getp s.M k).isSome) := f6' p s k h hn _ rfl
end Go.Sp
namespace Go.Sp
open Go Go.Proofs
set_option linter.unusedSimpArgs false
set_option linter.unusedVariables false
set_option maxRecDepth 10000
variable {L : List HP}
theorem less_lt : ∀ a b : List UInt8, Op.bytesLess a b = decide (a < b)
  | [], [] => by simp [Op.bytesLess]
  | [], _ :: _ => by simp [Op.bytesLess]
  | _ :: _, [] => by simp [Op.bytesLess]
  | x :: a, y :: b => by
    rw [Op.bytesLess, less_lt a b]
    have e : (x == y) = decide (x = y) := by by_cases h : x = y <;> simp [h]
    rw [e]
    simp [List.cons_lt_cons_iff]
theorem leB_le (a b : List UInt8) : leB a b = le a b := by
  have h := less_le b a
  rw [less_lt] at h
  have : leB a b = !decide (b < a) := by
    show decide (a ≤ b) = _
    rw [← decide_not]
    exact decide_eq_decide.2 List.not_lt.symm
  rw [this, h, Bool.not_not]
def Kset (M : List Gn) (ks : List (List UInt8)) : Prop := ks.Pairwise (fun a b => Op.bytesLess a b = true) ∧ ∀ k, k ∈ ks ↔ ∃ g ∈ M, k ∈ g.ks.map (·.1)
theorem srs_ok {l : List (List UInt8)} (h : l.Nodup) : (srs l).Pairwise (fun a b => Op.bytesLess a b = true) ∧ (∀ k, k ∈ srs l ↔ k ∈ l) ∧ (srs l).length = l.length := by
  have hp : (srs l).Perm l := List.mergeSort_perm _ _
  refine ⟨?_, fun k => hp.mem_iff, hp.length_eq⟩
  have h1 : (srs l).Pairwise fun a b => leB a b = true := List.pairwise_mergeSort (fun a b c h1 h2 => by rw [leB_le] at *; exact le_trans' h1 h2) (fun a b => by rw [leB_le, leB_le, Bool.or_eq_true]; exact le_total' a b) l
  have h2 : (srs l).Nodup := hp.nodup_iff.2 h
  refine (h1.and h2).imp fun {a b} ⟨h3, h4⟩ => ?_
  rw [leB_le] at h3
  simp only [le, Bool.or_eq_true, beq_iff_eq] at h3
  rcases h3 with h3 | h3
  · exact h3
  · exact absurd h3 h4
def Kin (M : List Gn) (S : Ents eI eM) (k : List UInt8) : Prop := ∃ x ∈ S, ∃ g ∈ M, g.id = x.1 ∧ k ∈ g.ks.map (·.1)
theorem pk_keys_mem {ε : Enc} {es : Ents eS ε} {i : List UInt8} {v : ε.α} {c : Nat} (k : List UInt8) : k ∈ (pk es i v c).map (·.1) ↔ k ∈ es.map (·.1) ∨ k = i := by
  rw [pkkeys (κ := eS)]
  split
  · simp
  · rename_i h
    constructor
    · exact .inl
    · rintro (h1 | rfl)
      · exact h1
      · obtain ⟨v', hv⟩ := Option.ne_none_iff_exists'.1 h
        obtain ⟨b, hb⟩ := gksome hv
        exact List.mem_map_of_mem (f := (·.1)) hb
set_option maxHeartbeats 2000000 in
theorem f13 (p : Nat) (s : Ps) {n : Nat} (h : s.ok n) (hn : n ≤ 1000000) : Fn eSl Tryz.prog 39 #[.pointer (some ⟨p, 0, none⟩)] (ppt 80 p s) (fun t X => ∃ ks, Kset s.M ks ∧ ks.length ≤ n ∧ X = ow 9 1 t (ks.map fun k => str k) :: ppt 80 p s) := fun L => by
  have hid : (s.M.map (·.id)).Nodup := by have := h.o.1; rwa [oe_ids] at this
  have hk : acts s.M ≤ n := h.nk
  refine c39_fn rfl rfl ?_
  repeat' (first | (with_reducible first | refine d_seq fun K hK => ?_ | (refine hK _ _ ?_; clear hK K) | (refine SG.p ?_; try intro b)) | refine i_c ?_ ?_ <;> intro hc <;> try simp only [push_cast, seval] at hc | refine i_x ?_ | clear hK K)
  refine i_clp (f15 p s.mb s.ml) ?_
  repeat' (first | (with_reducible first | refine d_seq fun K hK => ?_ | (refine hK _ _ ?_; clear hK K) | (refine SG.p ?_; try intro b)) | refine i_c ?_ ?_ <;> intro hc <;> try simp only [push_cast, seval] at hc | refine i_x ?_ | clear hK K)
  all_goals (try (exfalso; simp at hc; done))
  refine r_nwm eS eB fun ab => ?_
  repeat' (first | (with_reducible first | refine d_seq fun K hK => ?_ | (refine hK _ _ ?_; clear hK K) | (refine SG.p ?_; try intro b) | refine SP.p ?_) | refine i_c ?_ ?_ <;> intro hc <;> try simp only [push_cast, seval] at hc | refine i_x ?_ | clear hK K)
  refine i_mrng (κ := eI) (ε := eM) (a := 3) (b := 88) (by kernel_rfl) fun it => ?_
  repeat' (first | (with_reducible first | refine d_seq fun K hK => ?_ | (refine hK _ _ ?_; clear hK K) | (refine SG.p ?_; try intro b) | refine SP.p ?_) | refine i_c ?_ ?_ <;> intro hc <;> try simp only [push_cast, seval] at hc | refine i_x ?_ | clear hK K)
  refine d_lp [3, 14] (fun t : (Ents eI eM × Ents eI eM) × (Ents eS eB × Nat) => [(3, .map (some ab)), (14, .pointer (some ⟨it, 0, none⟩))])
    (fun t => blk it (.mapIter (some s.mb) s.cb (sn t.1.1) s.cb) :: mp eS eB ab t.2.1 t.2.2 :: (ppt 80 p s ++ L))
    (fun t => Rg (oe s.M) t.1.1 t.1.2 ∧ EOk t.2.1 t.2.2 ∧ (∀ k, k ∈ t.2.1.map (·.1) ↔ Kin s.M t.1.1 k) ∧ t.2.1.length ≤ (t.1.1.map (kl s.M)).sum ∧ ∀ x ∈ t.2.1, x.1.length ≤ maxLen)
    (fun t => t.1.2.length) (([], oe s.M), ([], 0)) rfl ?_ ⟨Rg.start _, EOk.nil _, fun k => by simp [Kin], Nat.le_refl _, fun _ h => by cases h⟩ ?_
  · show Sub (blk it (.mapIter (some s.mb) s.cb #[] s.cb) :: mp eS eB ab [] 0 :: (ppt 80 p s ++ L)) _
    exact SX.p
  rintro ⟨⟨S, R⟩, es, c⟩ ⟨hR, he, hm, hlen, hkl⟩
  dsimp only at hR he hm hlen hkl ⊢
  have hle := kl_le hid hR
  repeat' (first | (with_reducible first | refine d_seq fun K hK => ?_ | (refine hK _ _ ?_; clear hK K) | (refine SG.p ?_; try intro b) | refine SP.p ?_) | refine i_c ?_ ?_ <;> intro hc <;> try simp only [push_cast, seval] at hc | refine i_x ?_ | clear hK K)
  refine i_mnx (κ := eI) (ε := eM) h.o.2.2 (Nat.le_refl _) (fun ha => ?_) fun x hx hns => ?_
  · repeat' (first | (with_reducible first | refine d_seq fun K hK => ?_ | (refine hK _ _ ?_; clear hK K) | (refine SG.p ?_; try intro b) | refine SP.p ?_) | refine i_c ?_ ?_ <;> intro hc <;> try simp only [push_cast, seval] at hc | refine i_x ?_ | clear hK K)
    obtain rfl := hR.done h.o.2.1 ha
    have hS : S.Perm (oe s.M) := by have := hR; unfold Rg at this; simpa using this
    have hsum := (hS.map (kl s.M)).sum_nat
    rw [kl_sum hid] at hsum
    refine i_cal (kS (some ab)) ?_
    rintro _ _ ⟨cc, rfl, rfl⟩
    refine i_cal (sS cc ab c es he hkl (by omega)) ?_
    rintro ⟨sp, sl, sc⟩ _ rfl
    repeat' (first | (with_reducible first | refine d_seq fun K hK => ?_ | (refine hK _ _ ?_; clear hK K) | (refine SG.p ?_; try intro b)) | refine i_c ?_ ?_ <;> intro hc <;> try simp only [push_cast, seval] at hc | refine i_x ?_ | clear hK K)
    obtain ⟨q1, q2, q3⟩ := srs_ok he.1
    refine i_done (e := eSl) (sp, sl, sc) (ow 9 1 (sp, sl, sc) ((srs (es.map (·.1))).map fun k => str k) :: ppt 80 p s) rfl ⟨_, ⟨q1, fun k => ?_⟩, ?_, rfl⟩
    · rw [q2, hm]
      constructor
      · rintro ⟨x, _, g, hg, _, hk⟩
        exact ⟨g, hg, hk⟩
      · rintro ⟨g, hg, hk⟩
        exact ⟨(g.id, some g.b, g.born), hS.mem_iff.2 (List.mem_map_of_mem (f := fun g : Gn => (g.id, some g.b, g.born)) hg), g, hg, rfl, hk⟩
    · rw [q3, List.length_map]; omega
  · repeat' (first | (with_reducible first | refine d_seq fun K hK => ?_ | (refine hK _ _ ?_; clear hK K) | (refine SG.p ?_; try intro b) | refine SP.p ?_) | refine i_c ?_ ?_ <;> intro hc <;> try simp only [push_cast, seval] at hc | refine i_x ?_ | clear hK K)
    rw [sn_push]
    refine i_ment hx h.o.2.1 ?_
    obtain ⟨R', hlt, hst⟩ := hR.step hx hns
    have hle' := kl_le hid hst
    obtain ⟨g, hg, rfl⟩ := oe_mem hx
    have hkg : kl s.M (g.id, some g.b, g.born) = g.ks.length := by simp [kl, fg_of hid hg]
    rw [List.map_append, List.sum_append] at hle'
    simp only [List.map_cons, List.map_nil, List.sum_cons, List.sum_nil, hkg] at hle'
    obtain ⟨M', hp⟩ := mem_perm hg
    repeat' (first | (with_reducible first | refine d_seq fun K hK => ?_ | (refine hK _ _ ?_; clear hK K) | (refine SG.p ?_; try intro b) | refine SP.p ?_) | refine i_c ?_ ?_ <;> intro hc <;> try simp only [push_cast, seval] at hc | refine i_x ?_ | clear hK K)
    refine pul g M' hp ?_
    refine i_mrng (κ := eS) (ε := eWs) (a := 9) (b := 90) (by kernel_rfl) fun it2 => ?_
    repeat' (first | (with_reducible first | refine d_seq fun K hK => ?_ | (refine hK _ _ ?_; clear hK K) | (refine SG.p ?_; try intro b) | refine SP.p ?_) | refine i_c ?_ ?_ <;> intro hc <;> try simp only [push_cast, seval] at hc | refine i_x ?_ | clear hK K)
    refine d_lp [3, 14, 20] (fun t : (Ents eS eWs × Ents eS eWs) × (Ents eS eB × Nat) => [(3, .map (some ab)), (14, .pointer (some ⟨it, 0, none⟩)), (20, .pointer (some ⟨it2, 0, none⟩))])
      (fun t => blk it2 (.mapIter (some g.b) g.c (sn t.1.1) g.c) :: mp eS eWs g.b g.ks g.c :: HS (M'.map gm) :: blk it (.mapIter (some s.mb) s.cb (sn (S ++ [(g.id, some g.b, g.born)])) s.cb) :: mp eS eB ab t.2.1 t.2.2 :: ar p 80 [.map (some s.mb), .map (some s.ml)] :: mp eI eM s.mb (oe s.M) s.cb :: mp eI eI s.ml s.es s.cl :: L)
      (fun t => Rg g.ks t.1.1 t.1.2 ∧ EOk t.2.1 t.2.2 ∧ (∀ k, k ∈ t.2.1.map (·.1) ↔ Kin s.M S k ∨ k ∈ t.1.1.map (·.1)) ∧ t.2.1.length ≤ (S.map (kl s.M)).sum + t.1.1.length ∧ ∀ x ∈ t.2.1, x.1.length ≤ maxLen)
      (fun t => t.1.2.length) (([], g.ks), (es, c)) rfl ?_ ⟨Rg.start _, he, fun k => by rw [hm]; simp, by simpa using hlen, hkl⟩ ?_
    · show Sub (blk it2 (.mapIter (some g.b) g.c #[] g.c) :: mp eS eWs g.b g.ks g.c :: HS (M'.map gm) :: blk it (.mapIter (some s.mb) s.cb (sn (S ++ [(g.id, some g.b, g.born)])) s.cb) :: mp eS eB ab es c :: ar p 80 [.map (some s.mb), .map (some s.ml)] :: mp eI eM s.mb (oe s.M) s.cb :: mp eI eI s.ml s.es s.cl :: L) _
      exact SX.p
    clear he hm hlen hkl
    rintro ⟨⟨S2, R2⟩, es, c⟩ ⟨hR2, he, hm, hlen, hkl⟩
    dsimp only at hR2 he hm hlen hkl ⊢
    have hgk := h.g g hg
    repeat' (first | (with_reducible first | refine d_seq fun K hK => ?_ | (refine hK _ _ ?_; clear hK K) | (refine SG.p ?_; try intro b) | refine SP.p ?_) | refine i_c ?_ ?_ <;> intro hc <;> try simp only [push_cast, seval] at hc | refine i_x ?_ | clear hK K)
    refine i_mnx (κ := eS) (ε := eWs) hgk.2.2 (Nat.le_refl _) (fun ha => ?_) fun x hx2 hns2 => ?_
    · repeat' (first | (with_reducible first | refine d_seq fun K hK => ?_ | (refine hK _ _ ?_; clear hK K) | (refine SG.p ?_; try intro b) | refine SP.p ?_) | refine i_c ?_ ?_ <;> intro hc <;> try simp only [push_cast, seval] at hc | refine i_x ?_ | clear hK K)
      obtain rfl := hR2.done hgk.2.1 ha
      have hS2 : S2.Perm g.ks := by have := hR2; unfold Rg at this; simpa using this
      refine psh g M' _ hp ?_
      refine i_bk ((S ++ [(g.id, some g.b, g.born)], R'), (es, c)) rfl ⟨hst, he, fun k => ?_, ?_, hkl⟩ hlt
      · rw [hm, (hS2.map (·.1)).mem_iff]
        constructor
        · rintro (⟨x, hx, q⟩ | hk)
          · exact ⟨x, List.mem_append_left _ hx, q⟩
          · exact ⟨_, List.mem_append_right _ List.mem_cons_self, g, hg, rfl, hk⟩
        · rintro ⟨x, hx, g', hg', q1, q2⟩
          rcases List.mem_append.1 hx with hx | hx
          · exact .inl ⟨x, hx, g', hg', q1, q2⟩
          · simp at hx
            subst hx
            have e1 := fg_of hid hg
            have e2 := fg_of hid hg'
            rw [q1] at e2
            rw [show (g.id, some g.b, g.born).1 = g.id from rfl] at e2
            rw [e1] at e2
            cases e2
            exact .inr q2
      · have := hS2.length_eq
        dsimp only
        rw [List.map_append, List.sum_append]
        simp only [List.map_cons, List.map_nil, List.sum_cons, List.sum_nil, hkg]
        omega
    · repeat' (first | (with_reducible first | refine d_seq fun K hK => ?_ | (refine hK _ _ ?_; clear hK K) | (refine SG.p ?_; try intro b) | refine SP.p ?_) | refine i_c ?_ ?_ <;> intro hc <;> try simp only [push_cast, seval] at hc | refine i_x ?_ | clear hK K)
      rw [sn_push]
      refine i_ment (κ := eS) (ε := eWs) hx2 hgk.2.1 ?_
      obtain ⟨R2', hlt2, hst2⟩ := hR2.step hx2 hns2
      repeat' (first | (with_reducible first | refine d_seq fun K hK => ?_ | (refine hK _ _ ?_; clear hK K) | (refine SG.p ?_; try intro b) | refine SP.p ?_) | refine i_c ?_ ?_ <;> intro hc <;> try simp only [push_cast, seval] at hc | refine i_x ?_ | clear hK K)
      refine i_mus (ε := eB) false true rfl rfl ?_
      repeat' (first | (with_reducible first | refine d_seq fun K hK => ?_ | (refine hK _ _ ?_; clear hK K) | (refine SG.p ?_; try intro b) | refine SP.p ?_) | refine i_c ?_ ?_ <;> intro hc <;> try simp only [push_cast, seval] at hc | refine i_x ?_ | clear hK K)
      refine i_bk ((S2 ++ [x], R2'), (pk es x.1 true c, ck es x.1 c)) rfl ⟨hst2, he.pk _ _, fun k => ?_, ?_, fun y hy => ?_⟩ hlt2
      · dsimp only
        refine (pk_keys_mem (ε := eB) k).trans ?_
        rw [hm]
        simp [or_assoc]
      · have := pk_len (κ := eS) (ε := eB) es x.1 true c
        dsimp only
        simp only [List.length_append, List.length_cons, List.length_nil]
        omega
      · rcases pkmem (κ := eS) (ε := eB) hy with e | ⟨z, hz, e⟩
        · rw [e]; exact h.wk g hg x hx2
        · rw [← e]; exact hkl z hz
end Go.Sp
namespace Go.Sp
open Go Go.Proofs
set_option linter.unusedSimpArgs false
set_option linter.unusedVariables false
def Kf (M : List Gn) (i : Int) (k : List UInt8) : Option past_Was := (fg M i).bind fun g => gk g.ks k
theorem gk_isSome {κ ε : Enc} [DecidableEq κ.α] {es : Ents κ ε} {k : κ.α} : (gk es k).isSome = true ↔ k ∈ es.map (·.1) := by
  constructor
  · intro h
    obtain ⟨v, hv⟩ := Option.isSome_iff_exists.1 h
    obtain ⟨b, hb⟩ := gksome hv
    exact List.mem_map_of_mem (f := (·.1)) hb
  · intro h
    cases hg : gk es k with
    | some v => rfl
    | none =>
      obtain ⟨x, hx, rfl⟩ := List.mem_map.1 h
      exact absurd rfl (gknone.1 hg x hx)
theorem Kf_some {M : List Gn} (hid : (M.map (·.id)).Nodup) {i : Int} {k : List UInt8} : (Kf M i k).isSome = true ↔ ∃ g ∈ M, g.id = i ∧ k ∈ g.ks.map (·.1) := by
  unfold Kf
  constructor
  · intro h
    cases hf : fg M i with
    | none => rw [hf] at h; cases h
    | some g =>
      rw [hf] at h
      exact ⟨g, (fg_mem hf).1, (fg_mem hf).2, (gk_isSome (κ := eS) (ε := eWs)).1 h⟩
  · rintro ⟨g, hg, rfl, hk⟩
    rw [fg_of hid hg]
    exact (gk_isSome (κ := eS) (ε := eWs)).2 hk
theorem lkp_is {M : List Gn} {k : List UInt8} : ∀ {ids : List Int}, ids.Pairwise (· ≤ ·) → ∀ {w}, lkp M k ids = some w ↔ ∃ i ∈ ids, Kf M i k = some w ∧ ∀ j ∈ ids, j < i → Kf M j k = none
  | [], _, w => by simp [lkp]
  | i :: r, hp, w => by
    rw [List.pairwise_cons] at hp
    unfold lkp
    cases h : (fg M i).bind fun g => gk g.ks k with
    | some v =>
      have hK : Kf M i k = some v := h
      simp only [Option.some.injEq]
      constructor
      · rintro rfl
        refine ⟨i, List.mem_cons_self, hK, fun j hj hlt => ?_⟩
        rcases List.mem_cons.1 hj with rfl | hj
        · omega
        · have := hp.1 j hj; omega
      · rintro ⟨j, hj, h1, h2⟩
        rcases List.mem_cons.1 hj with rfl | hj'
        · rw [hK] at h1; exact Option.some.inj h1
        · rcases Int.lt_or_le i j with hlt | hle
          · have := h2 i List.mem_cons_self hlt
            rw [hK] at this; cases this
          · have e : i = j := by have := hp.1 j hj'; omega
            subst e
            rw [hK] at h1; exact Option.some.inj h1
    | none =>
      have hK : Kf M i k = none := h
      simp only
      rw [lkp_is hp.2]
      constructor
      · rintro ⟨j, hj, h1, h2⟩
        refine ⟨j, List.mem_cons_of_mem _ hj, h1, fun q hq hlt => ?_⟩
        rcases List.mem_cons.1 hq with rfl | hq
        · exact hK
        · exact h2 q hq hlt
      · rintro ⟨j, hj, h1, h2⟩
        rcases List.mem_cons.1 hj with rfl | hj
        · rw [hK] at h1; cases h1
        · exact ⟨j, hj, h1, fun q hq hlt => h2 q (List.mem_cons_of_mem _ hq) hlt⟩
theorem srt_le (l : List Int) : (srt l).Pairwise (· ≤ ·) := by
  have h : (srt l).Pairwise fun a b => leI a b = true := List.pairwise_mergeSort (fun a b c h1 h2 => by simp only [leI, decide_eq_true_eq] at *; omega) (fun a b => by simp only [leI, Bool.or_eq_true, decide_eq_true_eq]; omega) l
  exact h.imp fun h => by simpa [leI] using h
theorem srt_mem (l : List Int) (i : Int) : i ∈ srt l ↔ i ∈ l := (List.mergeSort_perm _ _).mem_iff
theorem Kf_ids {M : List Gn} {i : Int} {k : List UInt8} (h : i ∉ M.map (·.id)) : Kf M i k = none := by
  unfold Kf
  have : fg M i = none := fg_none.2 fun g hg e => h (by rw [← e]; exact List.mem_map_of_mem (f := (·.id)) hg)
  rw [this]
  rfl
theorem getp_is {M : List Gn} {k : List UInt8} {w : past_Was} : getp M k = some w ↔ ∃ i, Kf M i k = some w ∧ ∀ j, j < i → Kf M j k = none := by
  unfold getp
  rw [lkp_is (srt_le _)]
  constructor
  · rintro ⟨i, _, h1, h2⟩
    refine ⟨i, h1, fun j hj => ?_⟩
    by_cases hm : j ∈ M.map (·.id)
    · exact h2 j ((srt_mem _ _).2 hm) hj
    · exact Kf_ids hm
  · rintro ⟨i, h1, h2⟩
    refine ⟨i, ?_, h1, fun j _ hj => h2 j hj⟩
    rw [srt_mem]
    refine Classical.byContradiction fun hm => ?_
    rw [Kf_ids hm] at h1; cases h1
theorem getp_same {M M' : List Gn} (h : ∀ i k, Kf M i k = Kf M' i k) (k : List UInt8) : getp M k = getp M' k := by
  have e : ∀ w, getp M k = some w ↔ getp M' k = some w := fun w => by
    rw [getp_is, getp_is]
    simp only [h]
  cases h1 : getp M k with
  | some w => exact ((e w).1 h1).symm
  | none =>
    cases h2 : getp M' k with
    | none => rfl
    | some w => rw [(e w).2 h2] at h1; cases h1
theorem getp_some {M : List Gn} (hid : (M.map (·.id)).Nodup) {k : List UInt8} : (getp M k).isSome = true ↔ ∃ g ∈ M, k ∈ g.ks.map (·.1) := by
  unfold getp
  have hl : ∀ ids : List Int, (lkp M k ids).isSome = true ↔ ∃ i ∈ ids, (Kf M i k).isSome = true := by
    intro ids
    induction ids with
    | nil => simp [lkp]
    | cons i r ih =>
      unfold lkp
      cases h : (fg M i).bind fun g => gk g.ks k with
      | some w =>
        have : Kf M i k = some w := h
        simp [this]
      | none =>
        have : Kf M i k = none := h
        simp [this, ih]
  rw [hl]
  constructor
  · rintro ⟨i, _, h⟩
    obtain ⟨g, hg, _, hk⟩ := (Kf_some hid).1 h
    exact ⟨g, hg, hk⟩
  · rintro ⟨g, hg, hk⟩
    exact ⟨g.id, (srt_mem _ _).2 (List.mem_map_of_mem (f := (·.id)) hg), (Kf_some hid).2 ⟨g, hg, rfl, hk⟩⟩
theorem less_asymm {a b : List UInt8} (h : Op.bytesLess a b = true) : Op.bytesLess b a = false := by
  cases h2 : Op.bytesLess b a with
  | false => rfl
  | true => have := less_trans h h2; rw [less_irrefl] at this; cases this
theorem sorted_unique : ∀ {a b : List (List UInt8)}, a.Pairwise (fun a b => Op.bytesLess a b = true) → b.Pairwise (fun a b => Op.bytesLess a b = true) → (∀ k, k ∈ a ↔ k ∈ b) → a = b
  | [], [], _, _, _ => rfl
  | [], y :: b, _, _, h => absurd ((h y).2 List.mem_cons_self) (by simp)
  | x :: a, [], _, _, h => absurd ((h x).1 List.mem_cons_self) (by simp)
  | x :: a, y :: b, ha, hb, h => by
    rw [List.pairwise_cons] at ha hb
    have e : x = y := by
      rcases List.mem_cons.1 ((h x).1 List.mem_cons_self) with e | e
      · exact e
      · rcases List.mem_cons.1 ((h y).2 List.mem_cons_self) with e2 | e2
        · exact e2.symm
        · have h1 := hb.1 x e
          have h2 := ha.1 y e2
          rw [less_asymm h1] at h2
          cases h2
    subst e
    congr 1
    refine sorted_unique ha.2 hb.2 fun k => ?_
    constructor
    · intro hk
      rcases List.mem_cons.1 ((h k).1 (List.mem_cons_of_mem _ hk)) with e | e
      · subst e
        have := ha.1 k hk
        rw [less_irrefl] at this; cases this
      · exact e
    · intro hk
      rcases List.mem_cons.1 ((h k).2 (List.mem_cons_of_mem _ hk)) with e | e
      · subst e
        have := hb.1 k hk
        rw [less_irrefl] at this; cases this
      · exact e
theorem Kset_same {M M' : List Gn} (hi : (M.map (·.id)).Nodup) (hi' : (M'.map (·.id)).Nodup) (h : ∀ i k, Kf M i k = Kf M' i k) {a b : List (List UInt8)} (ha : Kset M a) (hb : Kset M' b) : a = b := by
  refine sorted_unique ha.1 hb.1 fun k => (ha.2 k).trans (Iff.trans ?_ (hb.2 k).symm)
  rw [← getp_some hi, ← getp_some hi', getp_same h]
def prs (M : List Gn) : List (Int × List UInt8) := M.flatMap fun g => g.ks.map fun x => (g.id, x.1)
theorem prs_len (M : List Gn) : (prs M).length = acts M := by
  unfold prs acts
  rw [List.length_flatMap]
  congr 1
  exact List.map_congr_left fun g _ => by simp
theorem prs_mem {M : List Gn} (hid : (M.map (·.id)).Nodup) (p : Int × List UInt8) : p ∈ prs M ↔ (Kf M p.1 p.2).isSome = true := by
  rw [Kf_some hid]
  unfold prs
  rw [List.mem_flatMap]
  constructor
  · rintro ⟨g, hg, hp⟩
    obtain ⟨x, hx, rfl⟩ := List.mem_map.1 hp
    exact ⟨g, hg, rfl, List.mem_map_of_mem (f := (·.1)) hx⟩
  · rintro ⟨g, hg, e, hk⟩
    obtain ⟨x, hx, e2⟩ := List.mem_map.1 hk
    exact ⟨g, hg, List.mem_map.2 ⟨x, hx, by rw [e, e2]⟩⟩
theorem prs_nodup : ∀ {M : List Gn}, (M.map (·.id)).Nodup → (∀ g ∈ M, (g.ks.map (·.1)).Nodup) → (prs M).Nodup
  | [], _, _ => List.nodup_nil
  | g :: r, hid, hk => by
    rw [List.map_cons, List.nodup_cons] at hid
    show ((g.ks.map fun x => (g.id, x.1)) ++ prs r).Nodup
    rw [List.nodup_append]
    refine ⟨?_, prs_nodup hid.2 fun g hg => hk g (List.mem_cons_of_mem _ hg), ?_⟩
    · have h := hk g List.mem_cons_self
      rw [List.nodup_iff_pairwise_ne, List.pairwise_map] at h ⊢
      exact h.imp fun h e => h (by simpa using e)
    · intro a ha b hb e
      subst e
      obtain ⟨x, hx, rfl⟩ := List.mem_map.1 ha
      obtain ⟨g', hg', hp⟩ := List.mem_flatMap.1 hb
      obtain ⟨y, _, e⟩ := List.mem_map.1 hp
      have : g'.id = g.id := by simpa using (congrArg Prod.fst e)
      exact hid.1 (this ▸ List.mem_map_of_mem (f := (·.id)) hg')
theorem acts_same {M M' : List Gn} (hi : (M.map (·.id)).Nodup) (hi' : (M'.map (·.id)).Nodup) (hk : ∀ g ∈ M, (g.ks.map (·.1)).Nodup) (hk' : ∀ g ∈ M', (g.ks.map (·.1)).Nodup) (h : ∀ i k, Kf M i k = Kf M' i k) : acts M = acts M' := by
  rw [← prs_len, ← prs_len]
  exact ((List.perm_ext_iff_of_nodup (prs_nodup hi hk) (prs_nodup hi' hk')).2 fun p => by rw [prs_mem hi, prs_mem hi', h]).length_eq
theorem fg_dg {M : List Gn} (hid : (M.map (·.id)).Nodup) (i j : Int) : fg (dg M i) j = if i = j then none else fg M j := by
  induction M with
  | nil => simp [dg, fg]
  | cons g r ih =>
    rw [List.map_cons, List.nodup_cons] at hid
    unfold dg
    by_cases hx : g.id = i
    · simp only [hx, if_true]
      by_cases hj : i = j
      · subst hj
        simp only [if_true]
        refine fg_none.2 fun y hy e => hid.1 ?_
        rw [hx, ← e]
        exact List.mem_map_of_mem (f := (·.id)) hy
      · simp [fg, hx, hj]
    · simp only [hx, if_false]
      by_cases hj : g.id = j
      · have : ¬ i = j := fun e => hx (hj.trans e.symm)
        simp [fg, hj, this]
      · simp [fg, hj, ih hid.2]
theorem fg_up {M : List Gn} (i j : Int) (k : List UInt8) (w : past_Was) : fg (up M i k w) j = (fg M j).map fun g => if i = j then ug k w g else g := by
  induction M with
  | nil => rfl
  | cons g r ih =>
    unfold up
    by_cases hx : g.id = i
    · simp only [hx, if_true]
      by_cases hj : i = j
      · simp [fg, ug, hx, hj]
      · have : ¬ (ug k w g).id = j := fun e => hj (hx.symm.trans e)
        simp only [fg, this, if_false, hx, hj]
        cases fg r j <;> rfl
    · simp only [hx, if_false]
      by_cases hj : g.id = j
      · have : ¬ i = j := fun e => hx (hj.trans e.symm)
        simp [fg, hj, this]
      · simp [fg, hj, ih]
theorem fg_snoc {M : List Gn} (g : Gn) (j : Int) : fg (M ++ [g]) j = match fg M j with | some x => some x | none => if g.id = j then some g else none := by
  induction M with
  | nil => simp [fg]
  | cons x r ih =>
    show (if x.id = j then some x else fg (r ++ [g]) j) = match (if x.id = j then some x else fg r j) with | some x => some x | none => if g.id = j then some g else none
    by_cases h : x.id = j
    · rw [if_pos h, if_pos h]
    · rw [if_neg h, if_neg h, ih]
theorem Kf_nt {s : Ps} {n : Nat} (hs : s.ok n) {r : api_Rec} (h0 : r.Txn ≠ 0) (lsn : Int) (b : Nat) (i : Int) (k : List UInt8) :
    Kf (nt s r lsn b).M i k = if i = r.Txn then (if r.Kind = 7 ∨ r.Kind = 8 then none else match Kf s.M i k with
      | some w => some w
      | none => if r.Key = k then wasR r else none) else Kf s.M i k := by
  have hid : (s.M.map (·.id)).Nodup := by have := hs.o.1; rwa [oe_ids] at this
  unfold nt
  rw [if_neg h0]
  by_cases hk : r.Kind = 7 ∨ r.Kind = 8
  · rw [if_pos hk]
    simp only [if_pos hk, Kf]
    rw [fg_dg hid]
    by_cases hi : i = r.Txn
    · simp [hi]
    · have : ¬ r.Txn = i := fun e => hi e.symm
      simp [hi, this]
  · rw [if_neg hk, if_neg hk]
    cases hw : wasR r with
    | none =>
      simp only
      by_cases hi : i = r.Txn
      · rw [if_pos hi]
        cases Kf s.M i k with
        | some w => rfl
        | none => simp
      · rw [if_neg hi]
    | some w =>
      simp only
      cases hf : fg s.M r.Txn with
      | none =>
        simp only
        unfold Kf
        rw [fg_snoc]
        by_cases hi : i = r.Txn
        · subst hi
          rw [if_pos rfl, hf]
          simp only [if_true, Option.bind_some, Option.bind_none, gk]
        · rw [if_neg hi]
          have : ¬ r.Txn = i := fun e => hi e.symm
          cases fg s.M i with
          | some g => rfl
          | none => simp [this]
      | some g =>
        simp only
        by_cases hgk : gk g.ks r.Key = none
        · rw [if_pos hgk]
          unfold Kf
          simp only
          rw [fg_up]
          by_cases hi : i = r.Txn
          · subst hi
            rw [if_pos rfl, hf]
            simp only [Option.map_some, if_true, Option.bind_some, ug]
            rw [gkpk (κ := eS) (ε := eWs)]
            by_cases hkk : r.Key = k
            · subst hkk
              rw [if_pos rfl, hgk, if_pos rfl]
            · rw [if_neg hkk, if_neg hkk]
              cases gk g.ks k <;> rfl
          · rw [if_neg hi]
            have : ¬ r.Txn = i := fun e => hi e.symm
            cases fg s.M i with
            | some g => simp [this]
            | none => rfl
        · rw [if_neg hgk]
          unfold Kf
          simp only
          by_cases hi : i = r.Txn
          · subst hi
            rw [if_pos rfl, hf]
            simp only [Option.bind_some]
            by_cases hkk : r.Key = k
            · subst hkk
              cases hq : gk g.ks r.Key with
              | none => exact absurd hq hgk
              | some v => rfl
            · rw [if_neg hkk]
              cases gk g.ks k <;> rfl
          · rw [if_neg hi]
theorem es_nt {s : Ps} {n : Nat} (hs : s.ok n) {r : api_Rec} (h0 : r.Txn ≠ 0) (lsn : Int) (b : Nat) (i : Int) :
    gk (nt s r lsn b).es i = if i = r.Txn then (if r.Kind = 7 ∨ r.Kind = 8 then none else some lsn) else gk s.es i := by
  unfold nt
  rw [if_neg h0]
  have hsw : ∀ {p q : Prop} [Decidable p] [Decidable q], True := fun {_ _ _ _} => trivial
  by_cases hk : r.Kind = 7 ∨ r.Kind = 8
  · rw [if_pos hk, if_pos hk]
    refine (gk_dk (κ := eI) (ε := eI) hs.l.1 r.Txn i).trans ?_
    by_cases hi : i = r.Txn
    · rw [if_pos hi, if_pos hi.symm]
    · rw [if_neg hi, if_neg fun e => hi e.symm]
  · rw [if_neg hk, if_neg hk]
    have h : gk (pk s.es r.Txn lsn s.cl) i = if i = r.Txn then some lsn else gk s.es i := by
      refine (gkpk (κ := eI) (ε := eI) s.es r.Txn i lsn s.cl).trans ?_
      by_cases hi : i = r.Txn
      · rw [if_pos hi, if_pos hi.symm]
      · rw [if_neg hi, if_neg fun e => hi e.symm]
    split
    · exact h
    · split
      · split
        · exact h
        · exact h
      · exact h
end Go.Sp
namespace Go.Sp
open Go Go.Proofs
set_option linter.unusedSimpArgs false
set_option linter.unusedVariables false
def rcR (c : Rc) : Option past_Was := if c.kind = 3 then some ⟨[], false⟩ else if c.kind = 4 ∨ c.kind = 5 then some ⟨c.old, true⟩ else none
theorem rec_is {A : HP} {r : api_Rec} {c : Rc} (h : RcAt A r c) : r.Kind = c.kind ∧ r.Txn = c.txn ∧ r.Prev = c.prev ∧ r.Key = c.key ∧ wasR r = rcR c := by
  have e := h.e
  generalize c.imgs = x at e
  generalize c.tbl = y at e
  subst e
  exact ⟨rfl, rfl, rfl, rfl, rfl⟩
def kf : List (Int × Rc) → List UInt8 → Option past_Was
  | [], _ => none
  | (_, c) :: h, k => match kf h k with
    | some w => some w
    | none => if c.key = k then rcR c else none
def Chn (G : Lg) (t : Int) : List (Int × Rc) → Int → Prop
  | [], l => l = 0
  | (a, c) :: h, l => l = a ∧ 1 ≤ a ∧ (∃ n, G.read a = (c, n, 0)) ∧ c.txn = t ∧ c.prev < a ∧ c.key.length ≤ maxLen ∧ Chn G t h c.prev
theorem read_app {G : Lg} {a : Int} {c : Rc} {n : Int} (h : G.read a = (c, n, 0)) (f : List UInt8) : ({ G with all := G.all ++ f } : Lg).read a = (c, n, 0) := by
  unfold Lg.read at h ⊢
  dsimp only
  by_cases h1 : a < 1 ∨ (G.all.length : Int) < a
  · rw [if_pos h1] at h
    simp at h
  · rw [if_neg h1] at h
    rw [if_neg (by rw [List.length_append]; omega)]
    by_cases h2 : (opn G.all (a - 1)).2.2 = 0
    · rw [if_pos h2] at h
      have hn1 : ¬ (a - 1 < 0 ∨ (G.all.length : Int) < a - 1) := by omega
      have hn2 : ¬ (a - 1 < 0 ∨ ((G.all ++ f).length : Int) < a - 1) := by rw [List.length_append]; omega
      have e : opn (G.all ++ f) (a - 1) = opn G.all (a - 1) := by
        unfold opn at h2 ⊢
        rw [if_neg hn1] at h2 ⊢
        rw [if_neg hn2]
        rw [List.drop_append_of_le_length (by omega)]
        obtain ⟨c', n', e'⟩ : ∃ c' n', opn0 (G.all.drop (a - 1).toNat) = (c', n', 0) := ⟨_, _, Prod.ext rfl (Prod.ext rfl h2)⟩
        obtain ⟨hs, hc, f', Y, ht, hf, hl⟩ := opn0_ok e'
        rw [e', ht, List.append_assoc, opn0_frame hs hf, hc, hl]
      rw [e, if_pos h2]
      exact h
    · rw [if_neg h2] at h
      exact absurd (congrArg (·.2.2) h) h2
theorem read_new {G : Lg} {c : Rc} {f : List UInt8} (hs : c.short) (hf : c.frame = (f, 0)) : ∃ n, ({ G with all := G.all ++ f } : Lg).read ((G.all.length + 1 : Nat) : Int) = (c.clean, n, 0) := by
  have hl := frame_len hs hf
  unfold Lg.read
  dsimp only
  rw [if_neg (by rw [List.length_append]; omega)]
  have e : opn (G.all ++ f) (((G.all.length + 1 : Nat) : Int) - 1) = (c.clean, (f.length : Int), 0) := by
    unfold opn
    rw [if_neg (by rw [List.length_append]; omega)]
    have : ((((G.all.length + 1 : Nat) : Int)) - 1).toNat = G.all.length := by omega
    rw [this, List.drop_left]
    have := opn0_frame hs hf []
    rwa [List.append_nil] at this
  rw [e]
  exact ⟨_, rfl⟩
theorem Chn.app {G : Lg} {t : Int} (f : List UInt8) : ∀ {h : List (Int × Rc)} {l : Int}, Chn G t h l → Chn { G with all := G.all ++ f } t h l
  | [], _, h => h
  | (a, c) :: r, l, ⟨h1, h2, ⟨n, h3⟩, h4, h5, h6, h7⟩ => ⟨h1, h2, ⟨n, read_app h3 f⟩, h4, h5, h6, Chn.app f h7⟩
theorem Chn.le {G : Lg} {t : Int} {h : List (Int × Rc)} {l : Int} (hc : Chn G t h l) : l ≤ G.all.length := by
  cases h with
  | nil => have : l = 0 := hc; omega
  | cons x r =>
    obtain ⟨a, c⟩ := x
    obtain ⟨rfl, h2, ⟨n, h3⟩, _⟩ := hc
    refine Classical.byContradiction fun hn => ?_
    unfold Lg.read at h3
    rw [if_pos (.inr (by omega))] at h3
    simp at h3
theorem clean_is (c : Rc) (h : 3 ≤ c.kind ∧ c.kind ≤ 8) : c.clean.kind = c.kind ∧ c.clean.txn = c.txn ∧ c.clean.prev = c.prev ∧ (c.clean.key = c.key ∨ c.clean.key = []) := by
  unfold Rc.clean
  rw [if_neg (by omega)]
  by_cases h1 : c.kind = 3 ∨ c.kind = 4 ∨ c.kind = 5
  · rw [if_pos h1]
    unfold tdy
    split
    · exact ⟨rfl, rfl, rfl, .inl rfl⟩
    · split
      · exact ⟨rfl, rfl, rfl, .inl rfl⟩
      · exact ⟨rfl, rfl, rfl, .inl rfl⟩
  · rw [if_neg h1]
    by_cases h2 : c.kind = 6
    · rw [if_pos h2]
      unfold tdy
      split
      · exact ⟨rfl, rfl, rfl, .inl rfl⟩
      · split
        · exact ⟨rfl, rfl, rfl, .inl rfl⟩
        · exact ⟨rfl, rfl, rfl, .inl rfl⟩
    · rw [if_neg h2, if_pos (by omega)]
      exact ⟨rfl, rfl, rfl, .inr rfl⟩
theorem kf_step {a : Int} {c : Rc} {h : List (Int × Rc)} {es : Ents eS eWs} {cl : Nat} (k : List UInt8) :
    (match kf h k with | some w => some w | none => gk (match rcR c with | some w => pk es c.key w cl | none => es) k) = match kf ((a, c) :: h) k with | some w => some w | none => gk es k := by
  show _ = match (match kf h k with | some w => some w | none => if c.key = k then rcR c else none) with | some w => some w | none => gk es k
  cases kf h k with
  | some w => rfl
  | none =>
    simp only
    cases hw : rcR c with
    | none =>
      simp only
      by_cases hk : c.key = k
      · rw [if_pos hk]
      · rw [if_neg hk]
    | some w =>
      simp only
      refine (gkpk (κ := eS) (ε := eWs) es c.key k w cl).trans ?_
      by_cases hk : c.key = k
      · rw [if_pos hk, if_pos hk]
      · rw [if_neg hk, if_neg hk]
end Go.Sp
namespace Go.Sp
open Go Go.Proofs
set_option linter.unusedSimpArgs false
set_option linter.unusedVariables false
set_option maxRecDepth 10000
variable {L : List HP}
def ptbl (es : Ents eI eI) : List api_Active := (srt (es.map (·.1))).map fun i => ⟨i, (gk es i).getD 0⟩
theorem tk_snoc {α : Type} {l : List α} {i : Nat} {x : α} (hx : l[i]? = some x) : l.take (i + 1) = l.take i ++ [x] := by
  rw [List.take_add_one, hx]; rfl
set_option maxHeartbeats 1000000 in
theorem p11 (p : Nat) (s : Ps) {n : Nat} (h : s.ok n) (hn : n ≤ 1000000) : Fn eSl Tryz.prog 11 #[.pointer (some ⟨p, 0, none⟩)] (ppt 80 p s) (fun t X => X = ow 40 2 t ((ptbl s.es).flatMap cAct) :: ppt 80 p s) := fun L => by
  refine c11_fn rfl rfl ?_
  repeat' (first | (with_reducible first | refine d_seq fun K hK => ?_ | (refine hK _ _ ?_; clear hK K) | (refine SG.p ?_; try intro b)) | refine i_c ?_ ?_ <;> intro hc <;> try simp only [push_cast, seval] at hc | refine i_x ?_ | clear hK K)
  refine i_clp (f15 p s.mb s.ml) ?_
  repeat' (first | (with_reducible first | refine d_seq fun K hK => ?_ | (refine hK _ _ ?_; clear hK K) | (refine SG.p ?_; try intro b)) | refine i_c ?_ ?_ <;> intro hc <;> try simp only [push_cast, seval] at hc | refine i_x ?_ | clear hK K)
  all_goals (try (exfalso; simp at hc; done))
  refine i_cal (kL (some s.ml)) ?_
  rintro y _ ⟨c, rfl, rfl⟩
  have hlen : s.es.length ≤ 1000000 := Nat.le_trans h.nl hn
  refine i_cal (sL c s.ml s.cl s.es h.l h.wl hlen) ?_
  rintro ⟨sp, sn, sc⟩ _ rfl
  simp only [List.cons_append, List.nil_append]
  have hil : (srt (s.es.map (·.1))).length ≤ 1000000 := by simp [srt]; exact hlen
  have htb : ptbl s.es = (srt (s.es.map (·.1))).map fun i => ⟨i, (gk s.es i).getD 0⟩ := rfl
  generalize ptbl s.es = tb at *
  generalize hg : srt (s.es.map (·.1)) = ids at *
  refine i_ow (t := 3) (sz := 1) (sp, sn, sc) fun hR => ?_
  have hlen2 : sn = ids.length := by have := hR.1; simpa using this.symm
  subst hlen2
  repeat' (first | (with_reducible first | refine d_seq fun K hK => ?_ | (refine hK _ _ ?_; clear hK K) | (refine SG.p ?_; try intro b) | refine SP.p ?_) | refine i_c ?_ ?_ <;> intro hc <;> try simp only [push_cast, seval] at hc | refine i_x ?_ | clear hK K)
  refine r_nilow 40 2 ?_
  refine d_lp [0, 3, 13, 14, 15] (fun t : Nat × SlV => [(0, .pointer (some ⟨p, 0, none⟩)), (3, .slice t.2.1 t.2.2.1 t.2.2.2), (13, .slice sp ids.length sc), (14, .int .i64 (ids.length : Int)), (15, .int .i64 (t.1 : Int))])
    (fun t => ow 40 2 t.2 ((tb.take t.1).flatMap cAct) :: ow 3 1 (sp, ids.length, sc) (ids.map fun n => .int .i64 n) :: (ppt 80 p s ++ L)) (fun t => t.1 ≤ ids.length) (fun t => ids.length - t.1) (0, (none, 0, 0)) rfl ?_ (Nat.zero_le _) ?_
  · show Sub (ow 40 2 (none, 0, 0) [] :: ow 3 1 (sp, ids.length, sc) (ids.map fun n => .int .i64 n) :: (ppt 80 p s ++ L)) _
    exact SX.p
  rintro ⟨i, op, on, oc⟩ hi
  dsimp only at hi ⊢
  have htl : tb.length = ids.length := by rw [htb]; simp
  by_cases hlt : i < ids.length
  · have hx : (ids.map fun n => Value.int .i64 n)[i]? = some (eI.enc ids[i]) := by simp [hlt]
    have hy : tb[i]? = some ⟨ids[i], (gk s.es ids[i]).getD 0⟩ := by rw [htb]; simp [hlt]
    have htk := tk_snoc hy
    obtain ⟨ad, rfl⟩ := hR.ptr (by omega)
    have ei : IntKind.wrap .i64 ((i : Int) + 1) = ((i + 1 : Nat) : Int) := by rw [w64 (by omega) (by omega)]; omega
    generalize ids[i] = id at *
    repeat' (first | (with_reducible first | refine d_seq fun K hK => ?_ | (refine hK _ _ ?_; clear hK K) | (refine SG.p ?_; try intro b)) | refine i_c ?_ ?_ <;> intro hc <;> try simp only [push_cast, seval] at hc | refine i_x ?_ | clear hK K)
    all_goals try (exfalso; omega)
    refine i_o1 hx ?_
    repeat' (first | (with_reducible first | refine d_seq fun K hK => ?_ | (refine hK _ _ ?_; clear hK K) | (refine SG.p ?_; try intro b)) | refine i_c ?_ ?_ <;> intro hc <;> try simp only [push_cast, seval] at hc | refine i_x ?_ | clear hK K)
    refine i_lk1i (ε := eI) 0 rfl ?_
    repeat' (first | (with_reducible first | refine d_seq fun K hK => ?_ | (refine hK _ _ ?_; clear hK K) | (refine SG.p ?_; try intro b)) | refine i_c ?_ ?_ <;> intro hc <;> try simp only [push_cast, seval] at hc | refine i_x ?_ | clear hK K)
    refine i_ow (t := 40) (sz := 2) (op, on, oc) fun hRo => ?_
    have hon : on = (tb.take i).length := hRo.len cAct_len (by decide)
    rw [List.length_take] at hon
    refine i_app (t := 40) (sz := 2) (m := 1) (op, on, oc) 16 (by kernel_rfl) rfl rfl rfl (by dsimp only; omega) fun s' h1 h2 => ?_
    have e : (tb.take i).flatMap cAct ++ [.int .i64 id, .int .i64 ((gk s.es id).getD 0)] = (tb.take (i + 1)).flatMap cAct := by
      rw [htk, List.flatMap_append]
      rfl
    rw [e]
    repeat' (first | (with_reducible first | refine d_seq fun K hK => ?_ | (refine hK _ _ ?_; clear hK K) | (refine SG.p ?_; try intro b)) | refine i_c ?_ ?_ <;> intro hc <;> try simp only [push_cast, seval] at hc | refine i_x ?_ | clear hK K)
    rw [ei]
    exact i_bk (i + 1, s') rfl (by dsimp only; omega) (by dsimp only; omega)
  · obtain rfl : i = ids.length := by omega
    rw [← htl, List.take_length, htl]
    repeat' (first | (with_reducible first | refine d_seq fun K hK => ?_ | (refine hK _ _ ?_; clear hK K) | (refine SG.p ?_; try intro b)) | refine i_c ?_ ?_ <;> intro hc <;> try simp only [push_cast, seval] at hc | refine i_x ?_ | clear hK K)
    all_goals try (exfalso; omega)
    exact i_done (e := eSl) (op, on, oc) (ow 40 2 (op, on, oc) (tb.flatMap cAct) :: ppt 80 p s) rfl rfl
end Go.Sp
namespace Go.Sp
open Go Go.Proofs
set_option linter.unusedSimpArgs false
set_option linter.unusedVariables false
set_option maxRecDepth 10000
variable {L : List HP}
structure Ld (T : List api_Active) (hs : api_Active → List (Int × Rc)) (s : Ps) : Prop where
  ok : s.ok (T.length * 101)
  k : ∀ a ∈ T, ∀ k, Kf s.M a.Txn k = kf (hs a) k
  n : ∀ i, i ∉ T.map (·.Txn) → fg s.M i = none ∧ gk s.es i = none
  e : ∀ a ∈ T, gk s.es a.Txn = some a.Last
abbrev ldg (s : Ps) (a : api_Active) (b : Nat) (es : Ents eS eWs) (c : Nat) : Ps := ⟨s.mb, s.ml, s.M ++ [⟨a.Txn, s.cb, b, es, c⟩], s.cb + 1, s.es ++ [(a.Txn, a.Last, s.cl)], s.cl + 1⟩
theorem gk_snoc {κ ε : Enc} [DecidableEq κ.α] (es : Ents κ ε) (i : κ.α) (v : ε.α) (c : Nat) (j : κ.α) (hn : gk es i = none) : gk (es ++ [(i, v, c)]) j = if i = j then some v else gk es j := by
  rw [← pk_new hn, gkpk]
theorem Ld.step {T : List api_Active} {hs : api_Active → List (Int × Rc)} {s : Ps} (h : Ld T hs s) {a : api_Active} (hn : a.Txn ∉ T.map (·.Txn)) (hw : wf64 a.Txn) {b : Nat} {es : Ents eS eWs} {c : Nat} (he : EOk es c) (hk : ∀ k, gk es k = kf (hs a) k) (hl : es.length ≤ 100) (hkl : ∀ x ∈ es, x.1.length ≤ maxLen) :
    Ld (T ++ [a]) hs (ldg s a b es c) := by
  obtain ⟨hok, h1, h2, h3⟩ := h
  obtain ⟨n1, n2⟩ := h2 _ hn
  obtain ⟨ho, hl', hg, hwo, hwl, hno, hnl, hnk, hwk⟩ := hok
  have m1 : gk (oe s.M) a.Txn = none := by rw [gk_oe, n1]; rfl
  refine ⟨⟨?_, ?_, ?_, ?_, ?_, ?_, ?_, ?_, ?_⟩, ?_, ?_, ?_⟩
  · have := ho.pk a.Txn (some b)
    rw [pk_new m1, show ck (oe s.M) a.Txn s.cb = s.cb + 1 by simp [ck, m1]] at this
    simpa [oe] using this
  · have := hl'.pk a.Txn a.Last
    rw [pk_new n2, show ck s.es a.Txn s.cl = s.cl + 1 by simp [ck, n2]] at this
    exact this
  · intro g hx
    rcases List.mem_append.1 hx with e | e
    · exact hg g e
    · simp at e; subst e; exact he
  · intro g hx
    rcases List.mem_append.1 hx with e | e
    · exact hwo g e
    · simp at e; subst e; exact hw
  · intro x hx
    rcases List.mem_append.1 hx with e | e
    · exact hwl x e
    · simp at e; subst e; exact hw
  · simp only [List.length_append, List.length_cons, List.length_nil]; omega
  · simp only [List.length_append, List.length_cons, List.length_nil]; omega
  · simp only [List.map_append, List.sum_append, List.map_cons, List.map_nil, List.sum_cons, List.sum_nil, List.length_append, List.length_cons, List.length_nil]; omega
  · intro g hx
    rcases List.mem_append.1 hx with e | e
    · exact hwk g e
    · simp at e; subst e; exact hkl
  · intro x hx k
    rcases List.mem_append.1 hx with e | e
    · have hne : ¬ a.Txn = x.Txn := fun q => hn (q ▸ List.mem_map_of_mem (f := (·.Txn)) e)
      unfold Kf
      rw [fg_snoc, ← h1 x e k]
      unfold Kf
      cases fg s.M x.Txn with
      | some g => rfl
      | none => simp [hne]
    · simp at e; subst e
      unfold Kf
      rw [fg_snoc, n1]
      simp only [if_true, Option.bind_some]
      exact hk k
  · intro i hi
    rw [List.map_append, List.mem_append] at hi
    have hi1 : i ∉ T.map (·.Txn) := fun q => hi (.inl q)
    have hi2 : ¬ a.Txn = i := fun q => hi (.inr (by simp [q]))
    obtain ⟨q1, q2⟩ := h2 i hi1
    refine ⟨?_, ?_⟩
    · show fg (s.M ++ [_]) i = none
      rw [fg_snoc, q1]
      simp [hi2]
    · refine (gk_snoc (κ := eI) (ε := eI) s.es a.Txn a.Last s.cl i n2).trans ?_
      rw [if_neg hi2]; exact q2
  · intro x hx
    rcases List.mem_append.1 hx with e | e
    · have hne : ¬ a.Txn = x.Txn := fun q => hn (q ▸ List.mem_map_of_mem (f := (·.Txn)) e)
      refine (gk_snoc (κ := eI) (ε := eI) s.es a.Txn a.Last s.cl x.Txn n2).trans ?_
      rw [if_neg hne]; exact h3 x e
    · simp at e; subst e
      refine (gk_snoc (κ := eI) (ε := eI) s.es x.Txn x.Last s.cl x.Txn n2).trans ?_
      rw [if_pos rfl]
set_option maxHeartbeats 1000000 in
theorem p10 (G : Lg) (sb : Nat) (hl : G.all.length ≤ 1000000) {A : HP} {sl : SlV} {T : List api_Active} (hR : Rs A sl 2 (T.flatMap cAct)) (hTl : T.length ≤ 1000) (hnd : (T.map (·.Txn)).Nodup) (hw : ∀ a ∈ T, wf64 a.Txn) (hs : api_Active → List (Int × Rc)) (hch : ∀ a ∈ T, Chn G a.Txn (hs a) a.Last ∧ (hs a).length ≤ 100) :
    Fn (eT2 eP eI) Tryz.prog 10 #[G.p, .slice sl.1 sl.2.1 sl.2.2] [lgp G sb, A] (fun y X => ∃ p s, y = (some ⟨p, 0, none⟩, 0) ∧ X = lgp G sb :: A :: ppt 80 p s ∧ Ld T hs s) := fun L => by
  obtain ⟨sp, sn, sc⟩ := sl
  obtain rfl : sn = T.length := hR.len cAct_len (by decide)
  refine c10_fn rfl rfl ?_
  repeat' (first | (with_reducible first | refine d_seq fun K hK => ?_ | (refine hK _ _ ?_; clear hK K) | (refine SG.p ?_; try intro b)) | refine i_c ?_ ?_ <;> intro hc <;> try simp only [push_cast, seval] at hc | refine i_x ?_ | clear hK K)
  refine i_cal f5 ?_
  rintro _ _ ⟨p, mb, ml, rfl, rfl⟩
  repeat' (first | (with_reducible first | refine d_seq fun K hK => ?_ | (refine hK _ _ ?_; clear hK K) | (refine SG.p ?_; try intro b)) | refine i_c ?_ ?_ <;> intro hc <;> try simp only [push_cast, seval] at hc | refine i_x ?_ | clear hK K)
  refine d_lp [0, 6, 17, 18, 19] (fun t : Nat × Ps => [(0, G.p), (6, .pointer (some ⟨p, 0, none⟩)), (17, .slice sp T.length sc), (18, .int .i64 (T.length : Int)), (19, .int .i64 (t.1 : Int))])
    (fun t => ppt 80 p t.2 ++ lgp G sb :: A :: L) (fun t => t.1 ≤ T.length ∧ Ld (T.take t.1) hs t.2) (fun t => T.length - t.1) (0, ⟨mb, ml, [], 0, [], 0⟩) rfl SX.p ⟨Nat.zero_le _, ⟨ok0 _ _, fun _ h => (by cases h), fun _ _ => ⟨rfl, rfl⟩, fun _ h => (by cases h)⟩⟩ ?_
  rintro ⟨i, s⟩ ⟨hi, hld⟩
  dsimp only at hi hld ⊢
  by_cases hlt : i < T.length
  · have hx : T[i]? = some T[i] := List.getElem?_eq_getElem hlt
    have hm : T[i] ∈ T := List.getElem_mem hlt
    have htk := tk_snoc hx
    obtain ⟨ad, rfl⟩ := hR.ptr (by omega)
    have ei : IntKind.wrap .i64 ((i : Int) + 1) = ((i + 1 : Nat) : Int) := by rw [w64 (by omega) (by omega)]; omega
    have hni : T[i].Txn ∉ (T.take i).map (·.Txn) := fun q => by
      have h1 : ((T.take (i + 1)).map (·.Txn)).Nodup := hnd.sublist ((List.take_sublist _ _).map _)
      rw [htk, List.map_append, List.nodup_append] at h1
      exact h1.2.2 _ q _ (by simp) rfl
    obtain ⟨hc0, hc1⟩ := hch _ hm
    have hwa := hw _ hm
    generalize T[i] = a at *
    repeat' (first | (with_reducible first | refine d_seq fun K hK => ?_ | (refine hK _ _ ?_; clear hK K) | (refine SG.p ?_; try intro b)) | refine i_c ?_ ?_ <;> intro hc <;> try simp only [push_cast, seval] at hc | refine i_x ?_ | clear hK K)
    all_goals try (exfalso; omega)
    refine i_sn (y := a) hR cAct_len hx rfl ?_
    repeat' (first | (with_reducible first | refine d_seq fun K hK => ?_ | (refine hK _ _ ?_; clear hK K) | (refine SG.p ?_; try intro b)) | refine i_c ?_ ?_ <;> intro hc <;> try simp only [push_cast, seval] at hc | refine i_x ?_ | clear hK K)
    refine r_nwm eS eWs fun kb => ?_
    repeat' (first | (with_reducible first | refine d_seq fun K hK => ?_ | (refine hK _ _ ?_; clear hK K) | (refine SG.p ?_; try intro b)) | refine i_c ?_ ?_ <;> intro hc <;> try simp only [push_cast, seval] at hc | refine i_x ?_ | clear hK K)
    refine d_lp [0, 6, 8, 9, 10, 17, 18, 19] (fun t : (List (Int × Rc) × Int) × (Ents eS eWs × Nat) => [(0, G.p), (6, .pointer (some ⟨p, 0, none⟩)), (8, .pointer (some ⟨b, 0, none⟩)), (9, .map (some kb)), (10, .int .i64 t.1.2), (17, .slice (some ad) T.length sc), (18, .int .i64 (T.length : Int)), (19, .int .i64 (i : Int))])
      (fun t => mp eS eWs kb t.2.1 t.2.2 :: ar b 40 [.int .i64 a.Txn, .int .i64 a.Last] :: (ppt 80 p s ++ lgp G sb :: A :: L))
      (fun t => Chn G a.Txn t.1.1 t.1.2 ∧ EOk t.2.1 t.2.2 ∧ (∀ k, (match kf t.1.1 k with | some w => some w | none => gk t.2.1 k) = kf (hs a) k) ∧ t.2.1.length + t.1.1.length ≤ 100 ∧ ∀ x ∈ t.2.1, x.1.length ≤ maxLen)
      (fun t => t.1.1.length) ((hs a, a.Last), ([], 0)) rfl SX.p ⟨hc0, EOk.nil _, fun k => by cases kf (hs a) k <;> rfl, by simpa using hc1, fun _ h => by cases h⟩ ?_
    rintro ⟨⟨h, l⟩, es, c⟩ ⟨q1, q2, q3, q4, q5⟩
    dsimp only at q1 q2 q3 q4 q5 ⊢
    cases h with
    | nil =>
      have hl0 : l = 0 := q1
      subst hl0
      obtain ⟨n1, n2⟩ := hld.n _ hni
      have m1 : gk (oe s.M) a.Txn = none := by rw [gk_oe, n1]; rfl
      have hbo : ∀ y ∈ oe s.M, y.2.2 < s.cb := hld.ok.o.2.2
      have hbl : ∀ y ∈ s.es, y.2.2 < s.cl := hld.ok.l.2.2
      have hstep : Ld (T.take (i + 1)) hs (ldg s a kb es c) := by
        rw [htk]
        exact hld.step hni hwa q2 (fun k => q3 k) (by simpa using q4) q5
      repeat' (first | (with_reducible first | refine d_seq fun K hK => ?_ | (refine hK _ _ ?_; clear hK K) | (refine SG.p ?_; try intro b)) | refine i_c ?_ ?_ <;> intro hc <;> try simp only [push_cast, seval] at hc | refine i_x ?_ | clear hK K)
      all_goals try (exfalso; omega)
      refine r_ph [ar b 40 [.int .i64 a.Txn, .int .i64 a.Last], ar p 80 [.map (some s.mb), .map (some s.ml)]] SX.p ?_
      repeat' (first | (with_reducible first | refine d_seq fun K hK => ?_ | (refine hK _ _ ?_; clear hK K) | (refine SG.p ?_; try intro b) | refine SP.p ?_) | refine i_c ?_ ?_ <;> intro hc <;> try simp only [push_cast, seval] at hc | refine i_x ?_ | clear hK K)
      refine i_mei (ε := eM) none rfl m1 ?_
      repeat' (first | (with_reducible first | refine d_seq fun K hK => ?_ | (refine hK _ _ ?_; clear hK K) | (refine SG.p ?_; try intro b) | refine SP.p ?_) | refine i_c ?_ ?_ <;> intro hc <;> try simp only [push_cast, seval] at hc | refine i_x ?_ | clear hK K)
      refine i_esi (ε := eM) (some kb) rfl hbo ?_
      repeat' (first | (with_reducible first | refine d_seq fun K hK => ?_ | (refine hK _ _ ?_; clear hK K) | (refine SG.p ?_; try intro b) | refine SP.p ?_) | refine i_c ?_ ?_ <;> intro hc <;> try simp only [push_cast, seval] at hc | refine i_x ?_ | clear hK K)
      refine i_mei (ε := eI) 0 rfl n2 ?_
      repeat' (first | (with_reducible first | refine d_seq fun K hK => ?_ | (refine hK _ _ ?_; clear hK K) | (refine SG.p ?_; try intro b) | refine SP.p ?_) | refine i_c ?_ ?_ <;> intro hc <;> try simp only [push_cast, seval] at hc | refine i_x ?_ | clear hK K)
      refine i_esi (ε := eI) a.Last rfl hbl ?_
      repeat' (first | (with_reducible first | refine d_seq fun K hK => ?_ | (refine hK _ _ ?_; clear hK K) | (refine SG.p ?_; try intro b)) | refine i_c ?_ ?_ <;> intro hc <;> try simp only [push_cast, seval] at hc | refine i_x ?_ | clear hK K)
      rw [ei, show oe s.M ++ [(a.Txn, some kb, s.cb)] = oe (s.M ++ [⟨a.Txn, s.cb, kb, es, c⟩]) by simp [oe]]
      refine psg ⟨a.Txn, s.cb, kb, es, c⟩ s.M ?_
      exact i_bk (i + 1, ldg s a kb es c) rfl ⟨by dsimp only; omega, hstep⟩ (by dsimp only; omega)
    | cons x h =>
      obtain ⟨a0, rc⟩ := x
      obtain ⟨rfl, r1, ⟨rn, r2⟩, r3, r4, r5, r6⟩ := q1
      have hr := g35 G sb hl l
      rw [r2] at hr
      repeat' (first | (with_reducible first | refine d_seq fun K hK => ?_ | (refine hK _ _ ?_; clear hK K) | (refine SG.p ?_; try intro b)) | refine i_c ?_ ?_ <;> intro hc <;> try simp only [push_cast, seval] at hc | refine i_x ?_ | clear hK K)
      all_goals try (exfalso; omega)
      refine i_cal hr ?_
      rintro ⟨rr, y2⟩ X ⟨A2, rfl, hra, he⟩
      obtain ⟨e1, e2, e3, e4, e5⟩ := rec_is hra
      dsimp only at hra he e1 e2 e3 e4 e5
      subst he
      rw [r3] at e2
      obtain ⟨k1, k2, k3, k4, k5, k6, k7, k8, k9, k10, k11, k12, k13⟩ := rr
      dsimp only at e1 e2 e3 e4 e5
      subst e2 e3 e4
      have hw35 := f18 ⟨k1, a.Txn, rc.prev, k4, k5, rc.key, k7, k8, k9, k10, k11, k12, k13⟩
      rw [e5] at hw35
      repeat' (first | (with_reducible first | refine d_seq fun K hK => ?_ | (refine hK _ _ ?_; clear hK K) | (refine SG.p ?_; try intro b)) | refine i_c ?_ ?_ <;> intro hc <;> try simp only [push_cast, seval] at hc | refine i_x ?_ | clear hK K)
      all_goals try (exfalso; omega)
      all_goals (try (exfalso; simp at hc; done))
      refine i_ldn (x := (⟨k1, a.Txn, rc.prev, k4, k5, rc.key, k7, k8, k9, k10, k11, k12, k13⟩ : api_Rec)) rfl rfl rfl ?_
      refine i_clp hw35 ?_
      cases hrc : rcR rc with
      | none =>
        simp only [Option.getD_none, Option.isSome_none]
        repeat' (first | (with_reducible first | refine d_seq fun K hK => ?_ | (refine hK _ _ ?_; clear hK K) | (refine SG.p ?_; try intro b)) | refine i_c ?_ ?_ <;> intro hc <;> try simp only [push_cast, seval] at hc | refine i_x ?_ | clear hK K)
        all_goals (try (exfalso; simp at hc; done))
        have q3' : ∀ k, (match kf h k with | some w => some w | none => gk es k) = kf (hs a) k := fun k => by
          have := kf_step (a := l) (c := rc) (h := h) (es := es) (cl := c) k
          rw [hrc] at this
          rw [← q3 k]; exact this
        exact i_bk ((h, rc.prev), (es, c)) rfl ⟨r6, q2, q3', by simp at q4; dsimp only; omega, q5⟩ (by simp)
      | some w =>
        simp only [Option.getD_some, Option.isSome_some]
        repeat' (first | (with_reducible first | refine d_seq fun K hK => ?_ | (refine hK _ _ ?_; clear hK K) | (refine SG.p ?_; try intro b)) | refine i_c ?_ ?_ <;> intro hc <;> try simp only [push_cast, seval] at hc | refine i_x ?_ | clear hK K)
        all_goals (try (exfalso; simp at hc; done))
        refine i_mus (ε := eWs) ⟨[], false⟩ w rfl rfl ?_
        repeat' (first | (with_reducible first | refine d_seq fun K hK => ?_ | (refine hK _ _ ?_; clear hK K) | (refine SG.p ?_; try intro b)) | refine i_c ?_ ?_ <;> intro hc <;> try simp only [push_cast, seval] at hc | refine i_x ?_ | clear hK K)
        have q3' : ∀ k, (match kf h k with | some w => some w | none => gk (pk es rc.key w c) k) = kf (hs a) k := fun k => by
          have := kf_step (a := l) (c := rc) (h := h) (es := es) (cl := c) k
          rw [hrc] at this
          rw [← q3 k]; exact this
        have hpl := pk_len (κ := eS) (ε := eWs) es rc.key w c
        exact i_bk ((h, rc.prev), (pk es rc.key w c, ck es rc.key c)) rfl ⟨r6, q2.pk _ _, q3', by simp at q4; dsimp only; omega, fun x hx => by
          rcases pkmem (κ := eS) (ε := eWs) hx with e | ⟨z, hz, e⟩
          · rw [e]; exact r5
          · rw [← e]; exact q5 z hz⟩ (by simp)
  · have hTi : T.take i = T := List.take_of_length_le (by omega)
    rw [hTi] at hld
    repeat' (first | (with_reducible first | refine d_seq fun K hK => ?_ | (refine hK _ _ ?_; clear hK K) | (refine SG.p ?_; try intro b)) | refine i_c ?_ ?_ <;> intro hc <;> try simp only [push_cast, seval] at hc | refine i_x ?_ | clear hK K)
    all_goals try (exfalso; omega)
    exact i_done (e := eT2 eP eI) (some ⟨p, 0, none⟩, 0) (lgp G sb :: A :: ppt 80 p s) rfl ⟨p, s, rfl, rfl, hld⟩
end Go.Sp
namespace Go.Sp
open Go Go.Proofs
set_option linter.unusedSimpArgs false
set_option linter.unusedVariables false
set_option maxRecDepth 10000
variable {L : List HP}
theorem i_o1q {e : Enc} {R R' : List HP} {t : TypeId} {xs : List Value} {k : e.α → W} {a : Addr} {n c i : Nat} {y : e.α} [ho : O2 R a t 1 n c xs R'] (hx : xs[i]? = some (e.enc y)) (h : E L (k y)) : E L (ldq (HW R) e (a.add i) k) :=
  r_ldqA ho.p (fun h' hq => (ow_fact hq).2.2 a rfl h' hq i _ hx) h
theorem eqWn (x y : past_Was) (a b : Operand) (w : World) : (oEq .neq 90 a b (v_past_Was x) (v_past_Was y)).run Tryz.prog w = .ok (.bool (!(decide (x = y)))) w := by
  have h1 : Tryz.prog.eqGuardType Tryz.prog.depth 90 = false := by kernel_rfl
  have h2 : Tryz.prog.underlying 90 = some (.struct (Tryz.prog.fieldsOf 90)) := by kernel_rfl
  have h3 : Tryz.prog.stoodInHeld 90 = false := by kernel_rfl
  unfold oEq v_past_Was
  rw [Sem.run_bind, run_eqGuard_agg _ _ _ _ _ _ _ h1, Result.andThen_ok, run_neq_struct, run_equalIn_agg _ 9999 90 _ _ h2 h3]
  simp only [Program.fieldsOf, Tryz.underlying90]
  simp [Op.eqFields, go_sem, str]
  obtain ⟨x1, x2⟩ := x
  obtain ⟨y1, y2⟩ := y
  simp only [past_Was.mk.injEq]
  repeat' split
  all_goals simp [*]
theorem eqAn (x y : api_Active) (a b : Operand) (w : World) : (oEq .neq 40 a b (v_api_Active x) (v_api_Active y)).run Tryz.prog w = .ok (.bool (!(decide (x = y)))) w := by
  have h1 : Tryz.prog.eqGuardType Tryz.prog.depth 40 = false := by kernel_rfl
  have h2 : Tryz.prog.underlying 40 = some (.struct (Tryz.prog.fieldsOf 40)) := by kernel_rfl
  have h3 : Tryz.prog.stoodInHeld 40 = false := by kernel_rfl
  unfold oEq v_api_Active
  rw [Sem.run_bind, run_eqGuard_agg _ _ _ _ _ _ _ h1, Result.andThen_ok, run_neq_struct, run_equalIn_agg _ 9999 40 _ _ h2 h3]
  simp only [Program.fieldsOf, Tryz.underlying40]
  simp [Op.eqFields, go_sem, str]
  obtain ⟨x1, x2⟩ := x
  obtain ⟨y1, y2⟩ := y
  simp only [api_Active.mk.injEq]
  repeat' split
  all_goals simp [*]
set_option maxHeartbeats 1000000 in
theorem p13 (p q : Nat) (s u : Ps) {n m : Nat} (hs : s.ok n) (hu : u.ok m) (hn : n ≤ 1000000) (hm : m ≤ 1000000) (hKK : ∀ i k, Kf s.M i k = Kf u.M i k) :
    Fp eB Tryz.prog 13 #[.pointer (some ⟨p, 0, none⟩), .pointer (some ⟨q, 0, none⟩)] (ppt 80 p s ++ ppt 80 q u) true := fun L => by
  have hi : (s.M.map (·.id)).Nodup := by have := hs.o.1; rwa [oe_ids] at this
  have hi' : (u.M.map (·.id)).Nodup := by have := hu.o.1; rwa [oe_ids] at this
  have hgp := getp_same hKK
  have A1 := f13 p s hs hn
  have A2 := f13 q u hu hm
  have A3 := f14 p s hs hn
  have A4 : ∀ k, _ := fun k => f6 p s k hs hn
  have A5 : ∀ k, _ := fun k => f6 q u k hu hm
  refine c13_fn rfl rfl ?_
  repeat' (first | (with_reducible first | refine d_seq fun K hK => ?_ | (refine hK _ _ ?_; clear hK K) | (refine SG.p ?_; try intro b)) | refine i_c ?_ ?_ <;> intro hc <;> try simp only [push_cast, seval] at hc | refine i_x ?_ | clear hK K)
  refine i_cal A1 ?_
  rintro ⟨kp, kn, kc⟩ _ ⟨ks, hks, hkl, rfl⟩
  refine i_cal A2 ?_
  rintro ⟨jp, jn, jc⟩ _ ⟨js, hjs, hjl, rfl⟩
  obtain rfl := Kset_same hi hi' hKK hks hjs
  simp only [List.cons_append, List.nil_append]
  refine i_ow (t := 9) (sz := 1) (kp, kn, kc) fun hR => ?_
  have hlen2 : kn = ks.length := by have := hR.1; simpa using this.symm
  subst hlen2
  refine i_ow (t := 9) (sz := 1) (jp, jn, jc) fun hR2 => ?_
  have hlen2 : jn = ks.length := by have := hR2.1; simpa using this.symm
  subst hlen2
  repeat' (first | (with_reducible first | refine d_seq fun K hK => ?_ | (refine hK _ _ ?_; clear hK K) | (refine SG.p ?_; try intro b)) | refine i_c ?_ ?_ <;> intro hc <;> try simp only [push_cast, seval] at hc | refine i_x ?_ | clear hK K)
  all_goals (try (exfalso; simp at hc; done))
  refine d_lp [0, 1, 5, 6, 7] (fun i : Nat => [(0, .pointer (some ⟨p, 0, none⟩)), (1, .pointer (some ⟨q, 0, none⟩)), (5, .slice kp ks.length kc), (6, .slice jp ks.length jc), (7, .int .i64 (i : Int))])
    (fun _ => ow 9 1 (kp, ks.length, kc) (ks.map fun k => str k) :: ow 9 1 (jp, ks.length, jc) (ks.map fun k => str k) :: (ppt 80 p s ++ ppt 80 q u ++ L)) (fun i => i ≤ ks.length) (fun i => ks.length - i) 0 rfl SX.p (Nat.zero_le _) ?_
  intro i hi0
  by_cases hlt : i < ks.length
  · have hx : (ks.map fun k => str k)[i]? = some (eS.enc ks[i]) := by simp [hlt]
    have hgk : (getp s.M ks[i]).isSome = true := (getp_some hi).2 ((hks.2 _).1 (List.getElem_mem hlt))
    obtain ⟨ad, rfl⟩ := hR.ptr (by omega)
    obtain ⟨bd, rfl⟩ := hR2.ptr (by omega)
    have ei : IntKind.wrap .i64 ((i : Int) + 1) = ((i + 1 : Nat) : Int) := by rw [w64 (by omega) (by omega)]; omega
    have A4 := A4 ks[i]
    have A5 := A5 ks[i]
    rw [← hgp] at A5
    generalize ks[i] = k at *
    obtain ⟨w, hw⟩ := Option.isSome_iff_exists.1 hgk
    rw [hw] at A4 A5
    simp only [Option.getD_some, Option.isSome_some] at A4 A5
    clear hks hjs hgp hKK
    repeat' (first | (with_reducible first | refine d_seq fun K hK => ?_ | (refine hK _ _ ?_; clear hK K) | (refine SG.p ?_; try intro b)) | refine i_c ?_ ?_ <;> intro hc <;> try simp only [push_cast, seval] at hc | refine i_x ?_ | clear hK K)
    all_goals try (exfalso; omega)
    refine i_o1 hx ?_
    refine i_clp A4 ?_
    repeat' (first | (with_reducible first | refine d_seq fun K hK => ?_ | (refine hK _ _ ?_; clear hK K) | (refine SG.p ?_; try intro b)) | refine i_c ?_ ?_ <;> intro hc <;> try simp only [push_cast, seval] at hc | refine i_x ?_ | clear hK K)
    all_goals try (exfalso; omega)
    refine i_o1 hx ?_
    refine i_clp A5 ?_
    repeat' (first | (with_reducible first | refine d_seq fun K hK => ?_ | (refine hK _ _ ?_; clear hK K) | (refine SG.p ?_; try intro b)) | refine i_c ?_ ?_ <;> intro hc <;> try simp only [push_cast, seval] at hc | refine i_x ?_ | clear hK K)
    repeat' (first | (with_reducible first | refine d_seq fun K hK => ?_ | (refine hK _ _ ?_; clear hK K) | (refine SG.p ?_; try intro b) | refine SP.p ?_) | refine i_c ?_ ?_ <;> intro hc <;> try simp only [push_cast, seval] at hc | refine i_x ?_ | clear hK K)
    all_goals try (exfalso; omega)
    refine i_o1q hx ?_
    repeat' (first | (with_reducible first | refine d_seq fun K hK => ?_ | (refine hK _ _ ?_; clear hK K) | (refine SG.p ?_; try intro b) | refine SP.p ?_) | refine i_c ?_ ?_ <;> intro hc <;> try simp only [push_cast, seval] at hc | refine i_x ?_ | clear hK K)
    all_goals try (exfalso; omega)
    refine i_o1q hx ?_
    repeat' (first | (with_reducible first | refine d_seq fun K hK => ?_ | (refine hK _ _ ?_; clear hK K) | (refine SG.p ?_; try intro b) | refine SP.p ?_) | refine i_c ?_ ?_ <;> intro hc <;> try simp only [push_cast, seval] at hc | refine i_x ?_ | clear hK K)
    all_goals (try (exfalso; simp at hc; done))
    refine i_clp A3 ?_
    repeat' (first | (with_reducible first | refine d_seq fun K hK => ?_ | (refine hK _ _ ?_; clear hK K) | (refine SG.p ?_; try intro b) | refine SP.p ?_) | refine i_c ?_ ?_ <;> intro hc <;> try simp only [push_cast, seval] at hc | refine i_x ?_ | clear hK K)
    · refine r_valq (e := eB) (eqWn w w _ _) ?_
      repeat' (first | (with_reducible first | refine d_seq fun K hK => ?_ | (refine hK _ _ ?_; clear hK K) | (refine SG.p ?_; try intro b)) | refine i_c ?_ ?_ <;> intro hc <;> try simp only [push_cast, seval] at hc | refine i_x ?_ | clear hK K)
      all_goals (try (exfalso; simp at hc; done))
      rw [ei]
      exact i_bk (i + 1) rfl (by omega) (by omega)
    · rw [ei]
      exact i_bk (i + 1) rfl (by omega) (by omega)
  · repeat' (first | (with_reducible first | refine d_seq fun K hK => ?_ | (refine hK _ _ ?_; clear hK K) | (refine SG.p ?_; try intro b)) | refine i_c ?_ ?_ <;> intro hc <;> try simp only [push_cast, seval] at hc | refine i_x ?_ | clear hK K)
    all_goals try (exfalso; omega)
    exact i_ret (e := eB) rfl rfl
end Go.Sp
namespace Go.Sp
open Go Go.Proofs
set_option linter.unusedSimpArgs false
set_option linter.unusedVariables false
structure Lk (G : Lg) (s : Ps) (last : List Int) (H : Nat → List (Int × Rc)) (n : Nat) : Prop where
  ok : s.ok n
  ll : last.length = 4
  ch : ∀ w : Nat, w < 4 → Chn G (10 + (w : Int)) (H w) (last.getD w 0)
  hl : ∀ w : Nat, w < 4 → (H w).length ≤ n
  es : ∀ w : Nat, w < 4 → gk s.es (10 + (w : Int)) = if H w = [] then none else some (last.getD w 0)
  no : ∀ i, i < 10 ∨ 13 < i → fg s.M i = none ∧ gk s.es i = none
  k : ∀ w : Nat, w < 4 → ∀ k, Kf s.M (10 + (w : Int)) k = kf (H w) k
  le : G.all.length ≤ 58 * G.sectors
  de : G.dead = false
theorem Lk.mono {G : Lg} {s : Ps} {last : List Int} {H : Nat → List (Int × Rc)} {n m : Nat} (h : Lk G s last H n) (hm : n ≤ m) : Lk G s last H m :=
  ⟨h.ok.mono hm, h.ll, h.ch, fun w hw => Nat.le_trans (h.hl w hw) hm, h.es, h.no, h.k, h.le, h.de⟩
def updH (H : Nat → List (Int × Rc)) (w : Nat) (l : List (Int × Rc)) : Nat → List (Int × Rc) := fun v => if v = w then l else H v
theorem Lk.step {G : Lg} {s : Ps} {last : List Int} {H : Nat → List (Int × Rc)} {n : Nat} (h : Lk G s last H n) {who : Nat} (hw : who < 4) {f : List UInt8} {c : Rc} {rn : Int} (hr : ({ G with all := G.all ++ f } : Lg).read ((G.all.length + 1 : Nat) : Int) = (c, rn, 0))
    (hfit : G.all.length + f.length ≤ 58 * G.sectors) (ht : c.txn = 10 + (who : Int)) (hk : 3 ≤ c.kind ∧ c.kind ≤ 8) (hp : c.prev = last.getD who 0) (hkey : c.key.length ≤ maxLen) {r : api_Rec} (r1 : r.Kind = c.kind) (r2 : r.Txn = c.txn) (r3 : r.Key = c.key) (r4 : wasR r = rcR c) (nb : Nat) :
    Lk { G with all := G.all ++ f } (nt s r ((G.all.length + 1 : Nat) : Int) nb) (last.set who (if 7 ≤ c.kind then 0 else ((G.all.length + 1 : Nat) : Int))) (updH H who (if 7 ≤ c.kind then [] else (((G.all.length + 1 : Nat) : Int), c) :: H who)) (n + 1) := by
  have h0 : r.Txn ≠ 0 := by rw [r2, ht]; omega
  have hwf : wf64 r.Txn := by rw [r2, ht]; unfold wf64; omega
  have hpl : last.getD who 0 ≤ G.all.length := (h.ch who hw).le
  have h78 : (r.Kind = 7 ∨ r.Kind = 8) ↔ 7 ≤ c.kind := by rw [r1]; omega
  have hgs : ∀ v, v < 4 → ∀ x : Int, (last.set who x).getD v 0 = if v = who then x else last.getD v 0 := fun v hv x => by
    have hll := h.ll
    simp only [List.getD_eq_getElem?_getD, List.getElem?_set]
    by_cases e : who = v
    · subst e
      simp [hll, hv]
    · have e2 : ¬ v = who := fun q => e q.symm
      simp [e, e2]
  refine ⟨nt_ok h.ok hwf (by rw [r3]; exact hkey) _ _, by rw [List.length_set]; exact h.ll, ?_, ?_, ?_, ?_, ?_, by simpa using hfit, h.de⟩
  · intro w hw4
    rw [hgs w hw4]
    unfold updH
    by_cases e : w = who
    · subst e
      rw [if_pos rfl, if_pos rfl]
      by_cases h7 : 7 ≤ c.kind
      · rw [if_pos h7, if_pos h7]; rfl
      · rw [if_neg h7, if_neg h7]
        exact ⟨rfl, by omega, ⟨rn, hr⟩, ht, by rw [hp]; omega, hkey, by rw [hp]; exact (h.ch w hw4).app f⟩
    · rw [if_neg e, if_neg e]
      exact (h.ch w hw4).app f
  · intro w hw4
    unfold updH
    have := h.hl w hw4
    by_cases e : w = who
    · subst e
      rw [if_pos rfl]
      split
      · simp
      · simp; omega
    · rw [if_neg e]; omega
  · intro w hw4
    rw [es_nt h.ok h0, hgs w hw4]
    unfold updH
    by_cases e : w = who
    · subst e
      rw [if_pos (by rw [r2, ht]), if_pos rfl, if_pos rfl]
      by_cases h7 : 7 ≤ c.kind
      · rw [if_pos (h78.2 h7), if_pos h7, if_pos h7, if_pos rfl]
      · rw [if_neg fun q => h7 (h78.1 q), if_neg h7, if_neg h7, if_neg (by simp)]
    · rw [if_neg (by rw [r2, ht]; omega), if_neg e, if_neg e]
      exact h.es w hw4
  · intro i hi
    have hne : ¬ i = r.Txn := by rw [r2, ht]; omega
    refine ⟨?_, by rw [es_nt h.ok h0, if_neg hne]; exact (h.no i hi).2⟩
    have hid : (s.M.map (·.id)).Nodup := by have := h.ok.o.1; rwa [oe_ids] at this
    have hn := (h.no i hi).1
    have hne2 : ¬ r.Txn = i := fun q => hne q.symm
    unfold nt
    rw [if_neg h0]
    split
    · show fg (dg s.M r.Txn) i = none
      rw [fg_dg hid, hn]; simp
    · split
      · exact hn
      · split
        · split
          · show fg (up s.M r.Txn r.Key _) i = none
            rw [fg_up, hn]; rfl
          · exact hn
        · show fg (s.M ++ [_]) i = none
          rw [fg_snoc, hn]
          simp [hne2]
  · intro w hw4 k
    rw [Kf_nt h.ok h0]
    unfold updH
    by_cases e : w = who
    · subst e
      rw [if_pos (by rw [r2, ht]), if_pos rfl]
      by_cases h7 : 7 ≤ c.kind
      · rw [if_pos (h78.2 h7), if_pos h7]; rfl
      · rw [if_neg fun q => h7 (h78.1 q), if_neg h7, h.k w hw4, r3, r4]
        rfl
    · rw [if_neg (by rw [r2, ht]; omega), if_neg e]
      exact h.k w hw4 k
end Go.Sp
namespace Go.Sp
open Go Go.Proofs
set_option linter.unusedSimpArgs false
set_option linter.unusedVariables false
set_option maxRecDepth 10000
variable {L : List HP}
abbrev cOp (o : gharrylaw14_Op) : List Value := [.int .i64 o.Kind, .int .i64 o.Who, str o.Key, str o.Old, str o.New]
theorem cOp_len (o : gharrylaw14_Op) : (cOp o).length = 5 := rfl
abbrev ag (G : Lg) (al : List UInt8) : Lg := { G with all := al }
set_option maxHeartbeats 1000000 in
theorem p9 (G : Lg) (sb p : Nat) (s0 : Ps) {A : HP} {sl : SlV} {ops : List gharrylaw14_Op} (hR : Rs A sl 5 (ops.flatMap cOp)) (hQ : ∀ o ∈ ops, o.Key.length ≤ maxLen) (hl : ops.length ≤ maxLen) (h0 : Lk G s0 [0, 0, 0, 0] (fun _ => []) 0) (hsec : G.sectors ≤ 200) :
    Fn eB Tryz.prog 9 #[G.p, .pointer (some ⟨p, 0, none⟩), .slice sl.1 sl.2.1 sl.2.2] (lgp G sb :: A :: ppt 80 p s0) (fun y X => y = true ∧ ∃ al s last H, X = lgp (ag G al) sb :: A :: ppt 80 p s ∧ Lk (ag G al) s last H 60) := fun L => by
  obtain ⟨sp, sn, sc⟩ := sl
  obtain rfl : sn = ops.length := hR.len cOp_len (by decide)
  simp only [maxLen] at hl
  refine c9_fn rfl rfl ?_
  repeat' (first | (with_reducible first | refine d_seq fun K hK => ?_ | (refine hK _ _ ?_; clear hK K) | (refine SG.p ?_; try intro b)) | refine i_c ?_ ?_ <;> intro hc <;> try simp only [push_cast, seval] at hc | refine i_x ?_ | clear hK K)
  obtain ⟨lb, hlb⟩ : ∃ lb, lb = b := ⟨_, rfl⟩
  rw [← hlb]
  clear hlb
  refine d_lp [0, 1, 2, 7, 8] (fun t : Nat × List UInt8 × Ps × List Int × (Nat → List (Int × Rc)) => [(0, G.p), (1, .pointer (some ⟨p, 0, none⟩)), (2, .slice sp ops.length sc), (7, .pointer (some ⟨lb, 0, none⟩)), (8, .int .i64 (t.1 : Int))])
    (fun t => ar lb 81 (t.2.2.2.1.map eI.enc) :: lgp (ag G t.2.1) sb :: A :: (ppt 80 p t.2.2.1 ++ L)) (fun t => t.1 ≤ 60 ∧ t.1 ≤ ops.length ∧ Lk (ag G t.2.1) t.2.2.1 t.2.2.2.1 t.2.2.2.2 t.1) (fun t => 60 - t.1) (0, G.all, s0, [0, 0, 0, 0], fun _ => []) rfl ?_ ⟨Nat.zero_le _, Nat.zero_le _, h0⟩ ?_
  · show Sub (ar lb 81 (List.map (fun n => Value.int .i64 n) (List.replicate 4 0)) :: lgp G sb :: A :: (ppt 80 p s0 ++ L)) _
    exact SX.p
  rintro ⟨i, al, s, last, H⟩ ⟨h60, hi, hk⟩
  dsimp only at h60 hi hk ⊢
  by_cases hlt : i < ops.length ∧ i < 60
  · obtain ⟨hlt, hlt2⟩ := hlt
    have hx : ops[i]? = some ops[i] := List.getElem?_eq_getElem hlt
    have hq := hQ ops[i] (List.getElem_mem hlt)
    obtain ⟨ad, rfl⟩ := hR.ptr (by omega)
    have ei : IntKind.wrap .i64 ((i : Int) + 1) = ((i + 1 : Nat) : Int) := by rw [w64 (by omega) (by omega)]; omega
    generalize ops[i] = o at *
    obtain ⟨oK, oW, oKey, oOld, oNew⟩ := o
    dsimp only at hq
    repeat' (first | (with_reducible first | refine d_seq fun K hK => ?_ | (refine hK _ _ ?_; clear hK K) | (refine SG.p ?_; try intro b)) | refine i_c ?_ ?_ <;> intro hc <;> try simp only [push_cast, seval] at hc | refine i_x ?_ | clear hK K)
    all_goals try (exfalso; omega)
    refine i_sn (y := ⟨oK, oW, oKey, oOld, oNew⟩) hR cOp_len hx rfl ?_
    repeat' (first | (with_reducible first | refine d_seq fun K hK => ?_ | (refine hK _ _ ?_; clear hK K) | (refine SG.p ?_; try intro b)) | refine i_c ?_ ?_ <;> intro hc <;> try simp only [push_cast, seval] at hc | refine i_x ?_ | clear hK K)
    all_goals try (exfalso; omega)
    iterate 4
      · rw [ei]
        exact i_bk (i + 1, al, s, last, H) rfl ⟨by dsimp only; omega, by dsimp only; omega, hk.mono (by omega)⟩ (by dsimp only; omega)
    obtain ⟨who, rfl⟩ : ∃ who : Nat, oW = (who : Int) := ⟨oW.toNat, by omega⟩
    have hw4 : who < 4 := by omega
    have hll := hk.ll
    have hla : (last.map eI.enc)[who]? = some (eI.enc (last.getD who 0)) := by
      rw [List.getElem?_map, List.getD_eq_getElem?_getD, List.getElem?_eq_getElem (by omega)]
      rfl
    have eK : IntKind.wrap .i64 (3 + oK) = 3 + oK := w64 (by omega) (by omega)
    have eW : IntKind.wrap .i64 (10 + (who : Int)) = 10 + (who : Int) := w64 (by omega) (by omega)
    repeat' (first | (with_reducible first | refine d_seq fun K hK => ?_ | (refine hK _ _ ?_; clear hK K) | (refine SG.p ?_; try intro b) | refine SP.p ?_) | refine i_c ?_ ?_ <;> intro hc <;> try simp only [push_cast, seval] at hc | refine i_x ?_ | clear hK K)
    refine i_ldq hla ?_
    have hp : last.getD who 0 = last.getD who 0 := rfl
    generalize hlw : last.getD who 0 = lw at *
    clear hp hla
    repeat' (first | (with_reducible first | refine d_seq fun K hK => ?_ | (refine hK _ _ ?_; clear hK K) | (refine SG.p ?_; try intro b) | refine SP.p ?_) | refine i_c ?_ ?_ <;> intro hc <;> try simp only [push_cast, seval] at hc | refine i_x ?_ | clear hK K)
    all_goals try (exfalso; omega)
    simp only [eK, eW]
    refine i_ldn (x := (⟨3 + oK, 10 + (who : Int), lw, 0, 3, oKey, oOld, oNew, 0, (none, 0, 0), (none, 0, 0), 0, 0⟩ : api_Rec)) rfl rfl rfl ?_
    refine E.nil0 ?_
    have hra : RcAt (HS []) (⟨3 + oK, 10 + (who : Int), lw, 0, 3, oKey, oOld, oNew, 0, (none, 0, 0), (none, 0, 0), 0, 0⟩ : api_Rec) (⟨3 + oK, 10 + (who : Int), lw, 0, 3, oKey, oOld, oNew, 0, [], [], 0, 0⟩ : Rc) := ⟨rfl, Rs_nil, Rs_nil, by simp, by simp⟩
    have hap := g20 (ag G al) sb hk.le (by show G.sectors ≤ _; omega) (HS []) _ _ hra
    rw [append_is hk.de] at hap
    have hcl := clean_is (⟨3 + oK, 10 + (who : Int), lw, 0, 3, oKey, oOld, oNew, 0, [], [], 0, 0⟩ : Rc) (by dsimp only; omega)
    have hsh : (⟨3 + oK, 10 + (who : Int), lw, 0, 3, oKey, oOld, oNew, 0, [], [], 0, 0⟩ : Rc).short := ⟨by simp, by simp⟩
    generalize hc0 : (⟨3 + oK, 10 + (who : Int), lw, 0, 3, oKey, oOld, oNew, 0, [], [], 0, 0⟩ : Rc) = c0 at *
    by_cases hf0 : c0.frame.2 = 0
    · rw [if_pos hf0] at hap
      obtain ⟨f, hf⟩ : ∃ f, c0.frame = (f, 0) := ⟨c0.frame.1, Prod.ext rfl hf0⟩
      rw [hf] at hap
      dsimp only at hap
      by_cases hfit : (ag G al).all.length + f.length ≤ 58 * (ag G al).sectors
      · rw [if_pos hfit] at hap
        obtain ⟨rn, hrd⟩ := read_new (G := ag G al) hsh hf
        have hrd : (ag G (al ++ f)).read ((al.length + 1 : Nat) : Int) = (c0.clean, rn, 0) := hrd
        have hfit' : al.length + f.length ≤ 58 * G.sectors := hfit
        have hr2 := g35 (ag G (al ++ f)) sb (by show (al ++ f).length ≤ _; rw [List.length_append]; omega) ((al.length + 1 : Nat) : Int)
        rw [hrd] at hr2
        have hk0 : c0.kind = 3 + oK := by rw [← hc0]
        have ht0 : c0.txn = 10 + (who : Int) := by rw [← hc0]
        have hp0 : c0.prev = lw := by rw [← hc0]
        have hy0 : c0.key = oKey := by rw [← hc0]
        obtain ⟨d1, d2, d3, d4⟩ := hcl
        have hkl : c0.clean.key.length ≤ maxLen := by
          rcases d4 with e | e
          · rw [e, hy0]; exact hq
          · rw [e]; exact Nat.zero_le _
        have hap : Fq (eT2 eI eI) Tryz.prog 32 #[G.p, v_api_Rec (⟨3 + oK, 10 + (who : Int), lw, 0, 3, oKey, oOld, oNew, 0, (none, 0, 0), (none, 0, 0), 0, 0⟩ : api_Rec)] [lgp (ag G al) sb, HS []] [lgp (ag G (al ++ f)) sb, HS []] (((al.length + 1 : Nat) : Int), 0) := hap
        refine i_clq hap ?_
        repeat' (first | (with_reducible first | refine d_seq fun K hK => ?_ | (refine hK _ _ ?_; clear hK K) | (refine SG.p ?_; try intro b)) | refine i_c ?_ ?_ <;> intro hc <;> try simp only [push_cast, seval] at hc | refine i_x ?_ | clear hK K)
        all_goals (try (exfalso; simp at hc; done))
        refine i_cal hr2 ?_
        rintro ⟨⟨k1, k2, k3, k4, k5, k6, k7, k8, k9, k10, k11, k12, k13⟩, y2⟩ X ⟨A2, rfl, hrr, he⟩
        obtain ⟨e1, e2, e3, e4, e5⟩ := rec_is hrr
        dsimp only at hrr he e1 e2 e3 e4 e5
        subst he
        repeat' (first | (with_reducible first | refine d_seq fun K hK => ?_ | (refine hK _ _ ?_; clear hK K) | (refine SG.p ?_; try intro b)) | refine i_c ?_ ?_ <;> intro hc <;> try simp only [push_cast, seval] at hc | refine i_x ?_ | clear hK K)
        all_goals (try (exfalso; simp at hc; done))
        refine i_ldn (x := (⟨k1, k2, k3, k4, k5, k6, k7, k8, k9, k10, k11, k12, k13⟩ : api_Rec)) rfl rfl rfl ?_
        refine i_cal (f7 p s ⟨k1, k2, k3, k4, k5, k6, k7, k8, k9, k10, k11, k12, k13⟩ ((al.length + 1 : Nat) : Int)) ?_
        rintro _ _ ⟨nb, rfl⟩
        have hst := Lk.step hk hw4 (f := f) (c := c0.clean) (rn := rn) hrd hfit (by rw [d2, ht0]) (by rw [d1, hk0]; omega) (by rw [d3, hp0, hlw]) hkl (r := ⟨k1, k2, k3, k4, k5, k6, k7, k8, k9, k10, k11, k12, k13⟩) e1 e2 e4 e5 nb
        rw [d1, hk0] at hst
        generalize nt s ⟨k1, k2, k3, k4, k5, k6, k7, k8, k9, k10, k11, k12, k13⟩ ((al.length + 1 : Nat) : Int) nb = s2 at *
        have hset : ∀ (l : List Int) (x : Int), (l.map eI.enc).set who (eI.enc x) = (l.set who x).map eI.enc := fun l x => by rw [List.map_set]
        have es1 : (last.map fun n => Value.int .i64 n).set who (.int .i64 ((al.length + 1 : Nat) : Int)) = (last.set who ((al.length + 1 : Nat) : Int)).map eI.enc := hset _ _
        have es2 : ((last.map fun n => Value.int .i64 n).set who (.int .i64 ((al.length + 1 : Nat) : Int))).set who (.int .i64 0) = (last.set who 0).map eI.enc := by
          rw [List.set_set]; exact hset _ _
        repeat' (first | (with_reducible first | refine d_seq fun K hK => ?_ | (refine hK _ _ ?_; clear hK K) | (refine SG.p ?_; try intro b)) | refine i_c ?_ ?_ <;> intro hc <;> try simp only [push_cast, seval] at hc | refine i_x ?_ | clear hK K)
        refine i_st (by rw [List.length_map, hll]; exact hw4) rfl ?_
        repeat' (first | (with_reducible first | refine d_seq fun K hK => ?_ | (refine hK _ _ ?_; clear hK K) | (refine SG.p ?_; try intro b)) | refine i_c ?_ ?_ <;> intro hc <;> try simp only [push_cast, seval] at hc | refine i_x ?_ | clear hK K)
        · refine i_st (by rw [List.length_set, List.length_map, hll]; exact hw4) rfl ?_
          repeat' (first | (with_reducible first | refine d_seq fun K hK => ?_ | (refine hK _ _ ?_; clear hK K) | (refine SG.p ?_; try intro b)) | refine i_c ?_ ?_ <;> intro hc <;> try simp only [push_cast, seval] at hc | refine i_x ?_ | clear hK K)
          rw [if_pos (by omega), if_pos (by omega)] at hst
          rw [es2, ei]
          exact i_bk (i + 1, al ++ f, s2, last.set who 0, _) rfl ⟨by dsimp only; omega, by dsimp only; omega, hst⟩ (by dsimp only; omega)
        · rw [if_neg (by omega), if_neg (by omega)] at hst
          rw [es1, ei]
          exact i_bk (i + 1, al ++ f, s2, last.set who ((al.length + 1 : Nat) : Int), _) rfl ⟨by dsimp only; omega, by dsimp only; omega, hst⟩ (by dsimp only; omega)
      · rw [if_neg hfit] at hap
        refine i_clq hap ?_
        repeat' (first | (with_reducible first | refine d_seq fun K hK => ?_ | (refine hK _ _ ?_; clear hK K) | (refine SG.p ?_; try intro b)) | refine i_c ?_ ?_ <;> intro hc <;> try simp only [push_cast, seval] at hc | refine i_x ?_ | clear hK K)
        all_goals (try (exfalso; simp at hc; done))
        rw [ei]
        exact i_bk (i + 1, al, s, last, H) rfl ⟨by dsimp only; omega, by dsimp only; omega, hk.mono (by omega)⟩ (by dsimp only; omega)
    · rw [if_neg hf0] at hap
      refine i_clq hap ?_
      repeat' (first | (with_reducible first | refine d_seq fun K hK => ?_ | (refine hK _ _ ?_; clear hK K) | (refine SG.p ?_; try intro b)) | refine i_c ?_ ?_ <;> intro hc <;> try simp only [push_cast, seval] at hc | refine i_x ?_ | clear hK K)
      all_goals (try (exfalso; simp_all; done))
      rw [ei]
      exact i_bk (i + 1, al, s, last, H) rfl ⟨by dsimp only; omega, by dsimp only; omega, hk.mono (by omega)⟩ (by dsimp only; omega)
  · repeat' (first | (with_reducible first | refine d_seq fun K hK => ?_ | (refine hK _ _ ?_; clear hK K) | (refine SG.p ?_; try intro b)) | refine i_c ?_ ?_ <;> intro hc <;> try simp only [push_cast, seval] at hc | refine i_x ?_ | clear hK K)
    all_goals try (exfalso; omega)
    all_goals exact i_done (e := eB) true (lgp (ag G al) sb :: A :: ppt 80 p s) rfl ⟨rfl, al, s, last, H, rfl, hk.mono h60⟩
end Go.Sp
namespace Go.Sp
open Go Go.Proofs
set_option linter.unusedSimpArgs false
set_option linter.unusedVariables false
set_option maxRecDepth 10000
variable {L : List HP}
set_option maxHeartbeats 1000000 in
theorem f9 : Fp eB Tryz.prog 14 #[] [] true := fun L => by
  refine c14_fn rfl rfl ?_
  repeat' (first | (with_reducible first | refine d_seq fun K hK => ?_ | (refine hK _ _ ?_; clear hK K) | (refine SG.p ?_; try intro b)) | refine i_c ?_ ?_ <;> intro hc <;> try simp only [push_cast, seval] at hc | refine i_x ?_ | clear hK K)
  refine i_cal f5 ?_
  rintro _ _ ⟨p, mb, ml, rfl, rfl⟩
  repeat' (first | (with_reducible first | refine d_seq fun K hK => ?_ | (refine hK _ _ ?_; clear hK K) | (refine SG.p ?_; try intro b)) | refine i_c ?_ ?_ <;> intro hc <;> try simp only [push_cast, seval] at hc | refine i_x ?_ | clear hK K)
  refine i_cal (f7 p ⟨mb, ml, [], 0, [], 0⟩ _ 3) ?_
  rintro _ _ ⟨nb1, rfl⟩
  have h1 := nt_ok (ok0 mb ml) (r := ⟨3, 5, 0, 0, 0, [97], [], [49], 0, (none, 0, 0), (none, 0, 0), 0, 0⟩) ⟨by decide, by decide⟩ (by decide) 3 nb1
  have e1 : nt ⟨mb, ml, [], 0, [], 0⟩ ⟨3, 5, 0, 0, 0, [97], [], [49], 0, (none, 0, 0), (none, 0, 0), 0, 0⟩ 3 nb1 = ⟨mb, ml, [⟨5, 0, nb1, [([97], ⟨[], false⟩, 0)], 1⟩], 1, [(5, 3, 0)], 1⟩ := rfl
  rw [e1] at h1 ⊢
  have g1 : getp [⟨5, 0, nb1, [([97], ⟨[], false⟩, 0)], 1⟩] [97] = some ⟨[], false⟩ := by simp [getp, srt, lkp, fg, gk]
  repeat' (first | (with_reducible first | refine d_seq fun K hK => ?_ | (refine hK _ _ ?_; clear hK K) | (refine SG.p ?_; try intro b)) | refine i_c ?_ ?_ <;> intro hc <;> try simp only [push_cast, seval] at hc | refine i_x ?_ | clear hK K)
  refine i_clp (f6' p _ [97] h1 (by decide) _ g1) ?_
  simp only [Option.getD_some, Option.isSome_some]
  repeat' (first | (with_reducible first | refine d_seq fun K hK => ?_ | (refine hK _ _ ?_; clear hK K) | (refine SG.p ?_; try intro b)) | refine i_c ?_ ?_ <;> intro hc <;> try simp only [push_cast, seval] at hc | refine i_x ?_ | clear hK K)
  all_goals (try (exfalso; simp at *; done))
  refine i_clp (f14 p _ h1 (by decide)) ?_
  repeat' (first | (with_reducible first | refine d_seq fun K hK => ?_ | (refine hK _ _ ?_; clear hK K) | (refine SG.p ?_; try intro b)) | refine i_c ?_ ?_ <;> intro hc <;> try simp only [push_cast, seval] at hc | refine i_x ?_ | clear hK K)
  all_goals (try (exfalso; simp [acts] at *; done))
  refine i_cal (f7 p ⟨mb, ml, [⟨5, 0, nb1, [([97], ⟨[], false⟩, 0)], 1⟩], 1, [(5, 3, 0)], 1⟩ _ 9) ?_
  rintro _ _ ⟨nb2, rfl⟩
  have h2 := nt_ok h1 (r := ⟨7, 5, 0, 0, 0, [], [], [], 0, (none, 0, 0), (none, 0, 0), 0, 0⟩) ⟨by decide, by decide⟩ (by decide) 9 nb2
  have e2 : nt ⟨mb, ml, [⟨5, 0, nb1, [([97], ⟨[], false⟩, 0)], 1⟩], 1, [(5, 3, 0)], 1⟩ ⟨7, 5, 0, 0, 0, [], [], [], 0, (none, 0, 0), (none, 0, 0), 0, 0⟩ 9 nb2 = ⟨mb, ml, [], 1, [], 1⟩ := rfl
  rw [e2] at h2 ⊢
  have g2 : getp [] [97] = none := by simp [getp, srt, lkp]
  repeat' (first | (with_reducible first | refine d_seq fun K hK => ?_ | (refine hK _ _ ?_; clear hK K) | (refine SG.p ?_; try intro b)) | refine i_c ?_ ?_ <;> intro hc <;> try simp only [push_cast, seval] at hc | refine i_x ?_ | clear hK K)
  refine i_clp (f6' p _ [97] h2 (by decide) _ g2) ?_
  simp only [Option.getD_none, Option.isSome_none]
  repeat' (first | (with_reducible first | refine d_seq fun K hK => ?_ | (refine hK _ _ ?_; clear hK K) | (refine SG.p ?_; try intro b)) | refine i_c ?_ ?_ <;> intro hc <;> try simp only [push_cast, seval] at hc | refine i_x ?_ | clear hK K)
  all_goals (try (exfalso; simp at *; done))
  exact i_ret (e := eB) rfl rfl
end Go.Sp
namespace Go.Sp
open Go Go.Proofs
set_option linter.unusedSimpArgs false
set_option linter.unusedVariables false
set_option maxRecDepth 10000
variable {L : List HP}
section
variable {G : Lg} {s u : Ps} {last : List Int} {H : Nat → List (Int × Rc)} {n : Nat}
abbrev hsH (H : Nat → List (Int × Rc)) (a : api_Active) : List (Int × Rc) := H (a.Txn - 10).toNat
theorem ptbl_txn (es : Ents eI eI) : (ptbl es).map (·.Txn) = srt (es.map (·.1)) := by
  unfold ptbl
  rw [List.map_map]
  exact List.map_id _
theorem gk_mem_iff {es : Ents eI eI} {i : Int} : gk es i ≠ none ↔ i ∈ es.map (·.1) := by
  rw [← gk_isSome (κ := eI) (ε := eI) (es := es) (k := i)]
  cases gk es i <;> simp
theorem Lk.tbl (h : Lk G s last H n) (hn : n ≤ 100) : ((ptbl s.es).map (·.Txn)).Nodup ∧ (∀ a ∈ ptbl s.es, wf64 a.Txn) ∧ (∀ a ∈ ptbl s.es, Chn G a.Txn (hsH H a) a.Last ∧ (hsH H a).length ≤ 100) ∧ (ptbl s.es).length ≤ 1000 := by
  have hp : (srt (s.es.map (·.1))).Perm (s.es.map (·.1)) := List.mergeSort_perm _ _
  have key : ∀ a ∈ ptbl s.es, a.Txn ∈ s.es.map (·.1) ∧ a.Last = (gk s.es a.Txn).getD 0 := fun a ha => by
    obtain ⟨i, hi, rfl⟩ := List.mem_map.1 ha
    exact ⟨(hp.mem_iff).1 hi, rfl⟩
  refine ⟨?_, fun a ha => ?_, fun a ha => ?_, ?_⟩
  · rw [ptbl_txn]
    exact hp.nodup_iff.2 h.ok.l.1
  · obtain ⟨x, hx, e⟩ := List.mem_map.1 (key a ha).1
    rw [← e]; exact h.ok.wl x hx
  · obtain ⟨k1, k2⟩ := key a ha
    have hne := gk_mem_iff.2 k1
    have hr : ¬ (a.Txn < 10 ∨ 13 < a.Txn) := fun q => hne (h.no _ q).2
    obtain ⟨w, hw⟩ : ∃ w : Nat, a.Txn = 10 + (w : Int) := ⟨(a.Txn - 10).toNat, by omega⟩
    have hw4 : w < 4 := by omega
    have hes := h.es w hw4
    have hch := h.ch w hw4
    have hll := h.hl w hw4
    have eH : hsH H a = H w := by unfold hsH; congr 1; omega
    rw [eH, hw]
    rw [hw] at k2 hne
    by_cases h0 : H w = []
    · rw [if_pos h0] at hes
      exact absurd hes hne
    · rw [if_neg h0] at hes
      rw [hes] at k2
      rw [k2]
      exact ⟨hch, by omega⟩
  · unfold ptbl
    rw [List.length_map, hp.length_eq, List.length_map]
    have := h.ok.nl
    omega
theorem Lk.same (h : Lk G s last H n) (hu : Ld (ptbl s.es) (hsH H) u) : (∀ i k, Kf s.M i k = Kf u.M i k) ∧ ptbl u.es = ptbl s.es := by
  have hp : (srt (s.es.map (·.1))).Perm (s.es.map (·.1)) := List.mergeSort_perm _ _
  have hin : ∀ i, i ∈ (ptbl s.es).map (·.Txn) ↔ gk s.es i ≠ none := fun i => by
    rw [ptbl_txn, hp.mem_iff, gk_mem_iff]
  have hel : ∀ i, gk s.es i ≠ none → ∃ a ∈ ptbl s.es, a.Txn = i ∧ some a.Last = gk s.es i := fun i hi => by
    refine ⟨⟨i, (gk s.es i).getD 0⟩, List.mem_map.2 ⟨i, hp.mem_iff.2 (gk_mem_iff.1 hi), rfl⟩, rfl, ?_⟩
    cases hq : gk s.es i with
    | none => exact absurd hq hi
    | some v => rfl
  have hges : ∀ i, gk u.es i = gk s.es i := fun i => by
    by_cases hi : gk s.es i = none
    · rw [hi]
      exact (hu.n i fun q => (hin i).1 q hi).2
    · obtain ⟨a, ha, rfl, e⟩ := hel i hi
      rw [hu.e a ha, e]
  refine ⟨fun i k => ?_, ?_⟩
  · by_cases hi : gk s.es i = none
    · have h1 := (hu.n i fun q => (hin i).1 q hi).1
      have h2 : Kf u.M i k = none := by unfold Kf; rw [h1]; rfl
      rw [h2]
      by_cases hr : i < 10 ∨ 13 < i
      · unfold Kf; rw [(h.no i hr).1]; rfl
      · obtain ⟨w, rfl⟩ : ∃ w : Nat, i = 10 + (w : Int) := ⟨(i - 10).toNat, by omega⟩
        have hw4 : w < 4 := by omega
        rw [h.k w hw4]
        have hes := h.es w hw4
        rw [hi] at hes
        by_cases h0 : H w = []
        · rw [h0]; rfl
        · rw [if_neg h0] at hes; cases hes
    · have hr : ¬ (i < 10 ∨ 13 < i) := fun q => hi (h.no _ q).2
      obtain ⟨a, ha, rfl, e⟩ := hel i hi
      rw [hu.k a ha k]
      obtain ⟨w, hw⟩ : ∃ w : Nat, a.Txn = 10 + (w : Int) := ⟨(a.Txn - 10).toNat, by omega⟩
      have eH : hsH H a = H w := by unfold hsH; congr 1; omega
      rw [eH, hw, h.k w (by omega)]
  · have hpu : (u.es.map (·.1)).Perm (s.es.map (·.1)) := (List.perm_ext_iff_of_nodup hu.ok.l.1 h.ok.l.1).2 fun i => by
      rw [← gk_mem_iff, ← gk_mem_iff, hges]
    unfold ptbl
    have : srt (u.es.map (·.1)) = srt (s.es.map (·.1)) := mergeSort_of_perm_i hpu
    rw [this]
    exact List.map_congr_left fun i _ => by rw [hges]
end
theorem Lk.zero {G : Lg} (hd : G.dead = false) (ha : G.all = []) (mb ml : Nat) : Lk G ⟨mb, ml, [], 0, [], 0⟩ [0, 0, 0, 0] (fun _ => []) 0 :=
  ⟨ok0 _ _, rfl, fun w hw => by
    have : ([0, 0, 0, 0] : List Int).getD w 0 = 0 := by
      rcases w with _ | _ | _ | _ | w <;> rfl
    rw [this]; rfl, fun _ _ => Nat.le_refl _, fun _ _ => rfl, fun _ _ => ⟨rfl, rfl⟩, fun _ _ _ => rfl, by rw [ha]; exact Nat.zero_le _, hd⟩
set_option maxHeartbeats 1000000 in
theorem p3 {A : HP} {sl : SlV} {ops : List gharrylaw14_Op} (hR : Rs A sl 5 (ops.flatMap cOp)) (hQ : ∀ o ∈ ops, o.Key.length ≤ maxLen) (hl : ops.length ≤ maxLen) :
    Fp eB Tryz.prog 3 #[.slice sl.1 sl.2.1 sl.2.2] [A] true := fun L => by
  obtain ⟨sp, sn, sc⟩ := sl
  refine c3_fn rfl rfl ?_
  repeat' (first | (with_reducible first | refine d_seq fun K hK => ?_ | (refine hK _ _ ?_; clear hK K) | (refine SG.p ?_; try intro b)) | refine i_c ?_ ?_ <;> intro hc <;> try simp only [push_cast, seval] at hc | refine i_x ?_ | clear hK K)
  refine i_cal (F25 200 (by decide) (by decide)) ?_
  rintro y X ⟨sb, bb, mb, rfl, rfl⟩
  have hc0 : (Dk.new sb bb mb 200).calm sb 200 := Dk.calm.new (by decide) (by decide)
  have hz : ∀ m, m < 200 → at4 ((Dk.new sb bb mb 200).get ((0 + m : Nat) : Int)) = 0 := fun m hm => by rw [new_get (by omega)]; exact at4_nil
  generalize Dk.new sb bb mb 200 = Z at *
  repeat' (first | (with_reducible first | refine d_seq fun K hK => ?_ | (refine hK _ _ ?_; clear hK K) | (refine SG.p ?_; try intro b)) | refine i_c ?_ ?_ <;> intro hc <;> try simp only [push_cast, seval] at hc | refine i_x ?_ | clear hK K)
  all_goals try contradiction
  refine i_cal (wopen0 hc0 hz (by decide) (by decide) (by decide) (by decide : 1 ≤ 1) (by decide)) ?_
  rintro y X ⟨q, Y, ρ, rfl, rfl, hW, hE⟩
  dsimp only [List.cons_append, List.nil_append]
  repeat' (first | (with_reducible first | refine d_seq fun K hK => ?_ | (refine hK _ _ ?_; clear hK K) | (refine SG.p ?_; try intro b)) | refine i_c ?_ ?_ <;> intro hc <;> try simp only [push_cast, seval] at hc | refine i_x ?_ | clear hK K)
  all_goals try contradiction
  refine i_cal f5 ?_
  rintro _ _ ⟨p, mb2, ml2, rfl, rfl⟩
  repeat' (first | (with_reducible first | refine d_seq fun K hK => ?_ | (refine hK _ _ ?_; clear hK K) | (refine SG.p ?_; try intro b)) | refine i_c ?_ ?_ <;> intro hc <;> try simp only [push_cast, seval] at hc | refine i_x ?_ | clear hK K)
  have h9 := p9 ⟨q, 0, 200, 1, [], 0, false⟩ sb p ⟨mb2, ml2, [], 0, [], 0⟩ hR hQ hl (Lk.zero rfl rfl _ _) (Nat.le_refl _)
  refine i_cal h9 ?_
  rintro _ _ ⟨rfl, al, s, last, H, rfl, hk⟩
  obtain ⟨t1, t2, t3, t4⟩ := hk.tbl (by decide)
  have hlen : (ag ⟨q, 0, 200, 1, [], 0, false⟩ al).all.length ≤ 1000000 := Nat.le_trans hk.le (show 58 * 200 ≤ 1000000 by decide)
  have hok := hk.ok
  have hsm := fun u (hu : Ld (ptbl s.es) (hsH H) u) => hk.same hu
  have h11 := p11 p s hok (by decide)
  have h12 := f14 p s hok (by decide)
  repeat' (first | (with_reducible first | refine d_seq fun K hK => ?_ | (refine hK _ _ ?_; clear hK K) | (refine SG.p ?_; try intro b)) | refine i_c ?_ ?_ <;> intro hc <;> try simp only [push_cast, seval] at hc | refine i_x ?_ | clear hK K)
  all_goals (try (exfalso; simp at hc; done))
  refine i_cal h11 ?_
  rintro ⟨tp, tn, tc⟩ _ rfl
  simp only [List.cons_append, List.nil_append]
  refine i_ow (t := 40) (sz := 2) (tp, tn, tc) fun hRt => ?_
  have h10 := p10 (ag ⟨q, 0, 200, 1, [], 0, false⟩ al) sb hlen hRt t4 t1 t2 (hsH H) t3
  obtain rfl : tn = (ptbl s.es).length := hRt.len cAct_len (by decide)
  refine i_cal h10 ?_
  rintro _ _ ⟨p2, u, rfl, rfl, hu⟩
  obtain ⟨hKK, hTT⟩ := hsm u hu
  have huo := hu.ok
  have hb : (ptbl s.es).length * 101 ≤ 1000000 := by omega
  have hi : (s.M.map (·.id)).Nodup := by have := hok.o.1; rwa [oe_ids] at this
  have hi' : (u.M.map (·.id)).Nodup := by have := huo.o.1; rwa [oe_ids] at this
  have hac := acts_same hi hi' (fun g hg => (hok.g g hg).1) (fun g hg => (huo.g g hg).1) hKK
  have u12 := f14 p2 u huo hb
  rw [← hac] at u12
  have h13 := p13 p p2 s u hok huo (by decide) hb hKK
  have u11 := p11 p2 u huo hb
  rw [hTT] at u11
  have hal : (acts s.M : Int) ≤ 60 := by have := hok.nk; have e : acts s.M ≤ 60 := this; omega
  generalize hTB : ptbl s.es = TB at *
  simp only [List.cons_append, List.nil_append]
  clear hsm hu hKK hTT t1 t2 t3 h9 h10
  repeat' (first | (with_reducible first | refine d_seq fun K hK => ?_ | (refine hK _ _ ?_; clear hK K) | (refine SG.p ?_; try intro b)) | refine i_c ?_ ?_ <;> intro hc <;> try simp only [push_cast, seval] at hc | refine i_x ?_ | clear hK K)
  refine i_clp u12 ?_
  refine i_clp h12 ?_
  repeat' (first | (with_reducible first | refine d_seq fun K hK => ?_ | (refine hK _ _ ?_; clear hK K) | (refine SG.p ?_; try intro b)) | refine i_c ?_ ?_ <;> intro hc <;> try simp only [push_cast, seval] at hc | refine i_x ?_ | clear hK K)
  all_goals (try (exfalso; simp at hc; done))
  refine i_clp h13 ?_
  repeat' (first | (with_reducible first | refine d_seq fun K hK => ?_ | (refine hK _ _ ?_; clear hK K) | (refine SG.p ?_; try intro b)) | refine i_c ?_ ?_ <;> intro hc <;> try simp only [push_cast, seval] at hc | refine i_x ?_ | clear hK K)
  all_goals (try (exfalso; simp at hc; done))
  refine i_cal h11 ?_
  rintro ⟨ap, an, ac⟩ _ rfl
  refine i_cal u11 ?_
  rintro ⟨bp, bn, bc⟩ _ rfl
  simp only [List.cons_append, List.nil_append]
  refine i_ow (t := 40) (sz := 2) (ap, an, ac) fun hRa => ?_
  obtain rfl : an = TB.length := hRa.len cAct_len (by decide)
  refine i_ow (t := 40) (sz := 2) (bp, bn, bc) fun hRb => ?_
  obtain rfl : bn = TB.length := hRb.len cAct_len (by decide)
  repeat' (first | (with_reducible first | refine d_seq fun K hK => ?_ | (refine hK _ _ ?_; clear hK K) | (refine SG.p ?_; try intro b)) | refine i_c ?_ ?_ <;> intro hc <;> try simp only [push_cast, seval] at hc | refine i_x ?_ | clear hK K)
  refine d_lp [10, 11, 12] (fun i : Nat => [(10, .slice ap TB.length ac), (11, .slice bp TB.length bc), (12, .int .i64 (i : Int))])
    (fun _ => ow 40 2 (bp, TB.length, bc) (TB.flatMap cAct) :: ow 40 2 (ap, TB.length, ac) (TB.flatMap cAct) :: A :: L) (fun i => i ≤ TB.length) (fun i => TB.length - i) 0 rfl SX.p (Nat.zero_le _) ?_
  intro i hi0
  by_cases hlt : i < TB.length
  · have hx : TB[i]? = some TB[i] := List.getElem?_eq_getElem hlt
    obtain ⟨ad, rfl⟩ := hRa.ptr (by omega)
    obtain ⟨bd, rfl⟩ := hRb.ptr (by omega)
    have ei : IntKind.wrap .i64 ((i : Int) + 1) = ((i + 1 : Nat) : Int) := by rw [w64 (by omega) (by omega)]; omega
    generalize TB[i] = x at *
    repeat' (first | (with_reducible first | refine d_seq fun K hK => ?_ | (refine hK _ _ ?_; clear hK K) | (refine SG.p ?_; try intro b) | refine SP.p ?_) | refine i_c ?_ ?_ <;> intro hc <;> try simp only [push_cast, seval] at hc | refine i_x ?_ | clear hK K)
    all_goals try (exfalso; omega)
    all_goals (try (exfalso; simp at hc; done))
    all_goals (refine i_snq (e := e_api_Active) (y := x) hRa cAct_len hx rfl ?_)
    all_goals (repeat' (first | (with_reducible first | refine d_seq fun K hK => ?_ | (refine hK _ _ ?_; clear hK K) | (refine SG.p ?_; try intro b) | refine SP.p ?_) | refine i_c ?_ ?_ <;> intro hc <;> try simp only [push_cast, seval] at hc | refine i_x ?_ | clear hK K))
    all_goals try (exfalso; omega)
    all_goals (refine i_snq (e := e_api_Active) (y := x) hRb cAct_len hx rfl ?_)
    all_goals (refine r_valq (e := eB) (eqAn x x _ _) ?_)
    all_goals (repeat' (first | (with_reducible first | refine d_seq fun K hK => ?_ | (refine hK _ _ ?_; clear hK K) | (refine SG.p ?_; try intro b)) | refine i_c ?_ ?_ <;> intro hc <;> try simp only [push_cast, seval] at hc | refine i_x ?_ | clear hK K))
    all_goals (try (exfalso; simp at hc; done))
    all_goals (rw [ei]; exact i_bk (i + 1) rfl (by omega) (by omega))
  · repeat' (first | (with_reducible first | refine d_seq fun K hK => ?_ | (refine hK _ _ ?_; clear hK K) | (refine SG.p ?_; try intro b)) | refine i_c ?_ ?_ <;> intro hc <;> try simp only [push_cast, seval] at hc | refine i_x ?_ | clear hK K)
    all_goals try (exfalso; omega)
    all_goals (try (exfalso; simp at hc; done))
    refine i_clp f9 ?_
    repeat' (first | (with_reducible first | refine d_seq fun K hK => ?_ | (refine hK _ _ ?_; clear hK K) | (refine SG.p ?_; try intro b)) | refine i_c ?_ ?_ <;> intro hc <;> try simp only [push_cast, seval] at hc | refine i_x ?_ | clear hK K)
    exact i_ret (e := eB) rfl rfl
theorem opT_of {cs : List Value} (h : lfs [.i .i64, .i .i64, .s, .s, .s] cs) : ∃ x : gharrylaw14_Op, cs = cOp x ∧ x.Key.length ≤ maxLen := by
  rcases cs with _ | ⟨v1, _ | ⟨v2, _ | ⟨v3, _ | ⟨v4, _ | ⟨v5, _ | ⟨v6, cs⟩⟩⟩⟩⟩⟩ <;> simp only [lfs, and_false, false_and, and_true] at h
  obtain ⟨⟨n1, rfl, _⟩, ⟨n2, rfl, _⟩, ⟨t1, rfl, q1⟩, ⟨t2, rfl, _⟩, ⟨t3, rfl, _⟩⟩ := h
  exact ⟨⟨n1, n2, t1, t2, t3⟩, rfl, q1⟩
end Go.Sp
