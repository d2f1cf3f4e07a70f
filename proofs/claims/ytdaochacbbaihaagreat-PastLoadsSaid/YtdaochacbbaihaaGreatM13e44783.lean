/- Texts of a proof, one behind the other: Grr0 M6 M7 M8 M9 M10 M11 M12 M13 M14 Sh Gd0 D1 D2 D3 D4 D5. No condition. -/
import Derived.Test.YtdaochacbbaihaaGreatM0fe3bdfc
import Derived.Test.YtdaochacbbaihaaGreatM6b8bf837
import Derived.Shelf.SortM.Plain
import Derived.Shelf.SortM.SortNone
import Derived.Shelf.SlIterI.Nil
import Derived.Shelf.SlIter.Nil
import Derived.Shelf.Strings.Repeat
import Derived.Shelf.Strings.Builder1
import Derived.Test.YtdaochacbbaihaaGreatProg
namespace Go.Sp
open Go
set_option maxRecDepth 100000
set_option linter.unusedVariables false
open Go.Proofs
variable (K : Env → W) (k : Value → W) {e : Enc} {args : Array Value} {G : e.α → W} {L : List HP} {ρ : Env}
attribute [local instance] cI cB cP cA
noncomputable def c50 := cf Tryz.f50 69 [(0, [0, 1]), (1, [0, 1, 4]), (2, [4]), (3, [0, 1, 4]), (4, [0, 4]), (5, [4]), (6, [0, 4]), (7, [0, 4, 7]), (8, [4]), (9, [0, 4, 7]), (10, [4]), (11, [0, 4, 7]), (12, [4, 7, 8, 9]), (13, [4, 9]), (14, [4, 7, 8]), (15, [4, 7, 9, 10]), (16, [4, 9]), (17, [4, 7, 10])] [(0, [0, 1, 4]), (1, [0, 1, 4, 18]), (2, [4, 5, 6]), (3, [0, 4]), (4, [0, 4, 25]), (5, [4, 5, 6]), (6, [0, 4, 7]), (7, [0, 4, 7, 30]), (8, [4, 5, 6]), (9, [0, 4, 7, 38]), (10, [4, 5, 6]), (11, [4, 7, 8, 9]), (12, [4, 7, 8, 9, 54]), (13, [4, 5, 6]), (14, [4, 7, 9, 10]), (15, [4, 7, 9, 10, 63]), (16, [4, 5, 6]), (17, [4, 5, 6]), (1000000, [4, 5, 6])] [] []
@[go_sem] theorem c50_i : c50.li 0 = [0, 1] ∧ c50.li 1 = [0, 1, 4] ∧ c50.li 2 = [4] ∧ c50.li 3 = [0, 1, 4] ∧ c50.li 4 = [0, 4] ∧ c50.li 5 = [4] ∧ c50.li 6 = [0, 4] ∧ c50.li 7 = [0, 4, 7] ∧ c50.li 8 = [4] ∧ c50.li 9 = [0, 4, 7] ∧ c50.li 10 = [4] ∧ c50.li 11 = [0, 4, 7] ∧ c50.li 12 = [4, 7, 8, 9] ∧ c50.li 13 = [4, 9] ∧ c50.li 14 = [4, 7, 8] ∧ c50.li 15 = [4, 7, 9, 10] ∧ c50.li 16 = [4, 9] ∧ c50.li 17 = [4, 7, 10] := ⟨rfl, rfl, rfl, rfl, rfl, rfl, rfl, rfl, rfl, rfl, rfl, rfl, rfl, rfl, rfl, rfl, rfl, rfl⟩
@[go_sem] theorem c50_r0 (v0 : List UInt8) (v1 : Int) : RP c50 0 [(0, str v0), (1, v1)] K =
 (nwc #[.int .i64 0, .int .i64 0, .int .i64 0, .int .i64 0, .int .i64 0, str ([] : List UInt8), str ([] : List UInt8), str ([] : List UInt8), .int .i64 0, .slice none 0 0, .slice none 0 0, .int .i64 0, .int .i64 0] 47 fun y1_ => (K [(0, str v0), (1, v1), (4, y1_)])) := by kernel_rfl
@[go_sem] theorem c50_r1 (v0 : List UInt8) (v1 : Int) (v4 : Addr) : RP c50 1 [(0, str v0), (1, v1), (4, v4)] K =
 (cnd (decide (v1 < 0)) (K [(0, str v0), (1, v1), (4, v4), (18, true)]) (K [(0, str v0), (1, v1), (4, v4), (18, decide ((v0.length : Int) < v1))])) := by kernel_rfl
@[go_sem] theorem c50_r2 (v4 : Addr) : RP c50 2 [(4, v4)] K =
 (stl [.int .i64 ((⟨(0 : Int), (0 : Int), (0 : Int), (0 : Int), (0 : Int), ([] : List UInt8), ([] : List UInt8), ([] : List UInt8), (0 : Int), (none, 0, 0), (none, 0, 0), (0 : Int), (0 : Int)⟩ : api_Rec).Kind), .int .i64 ((⟨(0 : Int), (0 : Int), (0 : Int), (0 : Int), (0 : Int), ([] : List UInt8), ([] : List UInt8), ([] : List UInt8), (0 : Int), (none, 0, 0), (none, 0, 0), (0 : Int), (0 : Int)⟩ : api_Rec).Txn), .int .i64 ((⟨(0 : Int), (0 : Int), (0 : Int), (0 : Int), (0 : Int), ([] : List UInt8), ([] : List UInt8), ([] : List UInt8), (0 : Int), (none, 0, 0), (none, 0, 0), (0 : Int), (0 : Int)⟩ : api_Rec).Prev), .int .i64 ((⟨(0 : Int), (0 : Int), (0 : Int), (0 : Int), (0 : Int), ([] : List UInt8), ([] : List UInt8), ([] : List UInt8), (0 : Int), (none, 0, 0), (none, 0, 0), (0 : Int), (0 : Int)⟩ : api_Rec).Page), .int .i64 ((⟨(0 : Int), (0 : Int), (0 : Int), (0 : Int), (0 : Int), ([] : List UInt8), ([] : List UInt8), ([] : List UInt8), (0 : Int), (none, 0, 0), (none, 0, 0), (0 : Int), (0 : Int)⟩ : api_Rec).Act), str ((⟨(0 : Int), (0 : Int), (0 : Int), (0 : Int), (0 : Int), ([] : List UInt8), ([] : List UInt8), ([] : List UInt8), (0 : Int), (none, 0, 0), (none, 0, 0), (0 : Int), (0 : Int)⟩ : api_Rec).Key), str ((⟨(0 : Int), (0 : Int), (0 : Int), (0 : Int), (0 : Int), ([] : List UInt8), ([] : List UInt8), ([] : List UInt8), (0 : Int), (none, 0, 0), (none, 0, 0), (0 : Int), (0 : Int)⟩ : api_Rec).Old), str ((⟨(0 : Int), (0 : Int), (0 : Int), (0 : Int), (0 : Int), ([] : List UInt8), ([] : List UInt8), ([] : List UInt8), (0 : Int), (none, 0, 0), (none, 0, 0), (0 : Int), (0 : Int)⟩ : api_Rec).New), .int .i64 ((⟨(0 : Int), (0 : Int), (0 : Int), (0 : Int), (0 : Int), ([] : List UInt8), ([] : List UInt8), ([] : List UInt8), (0 : Int), (none, 0, 0), (none, 0, 0), (0 : Int), (0 : Int)⟩ : api_Rec).Next), .slice (((⟨(0 : Int), (0 : Int), (0 : Int), (0 : Int), (0 : Int), ([] : List UInt8), ([] : List UInt8), ([] : List UInt8), (0 : Int), (none, 0, 0), (none, 0, 0), (0 : Int), (0 : Int)⟩ : api_Rec).Images).1) (((⟨(0 : Int), (0 : Int), (0 : Int), (0 : Int), (0 : Int), ([] : List UInt8), ([] : List UInt8), ([] : List UInt8), (0 : Int), (none, 0, 0), (none, 0, 0), (0 : Int), (0 : Int)⟩ : api_Rec).Images).2.1) (((⟨(0 : Int), (0 : Int), (0 : Int), (0 : Int), (0 : Int), ([] : List UInt8), ([] : List UInt8), ([] : List UInt8), (0 : Int), (none, 0, 0), (none, 0, 0), (0 : Int), (0 : Int)⟩ : api_Rec).Images).2.2), .slice (((⟨(0 : Int), (0 : Int), (0 : Int), (0 : Int), (0 : Int), ([] : List UInt8), ([] : List UInt8), ([] : List UInt8), (0 : Int), (none, 0, 0), (none, 0, 0), (0 : Int), (0 : Int)⟩ : api_Rec).Table).1) (((⟨(0 : Int), (0 : Int), (0 : Int), (0 : Int), (0 : Int), ([] : List UInt8), ([] : List UInt8), ([] : List UInt8), (0 : Int), (none, 0, 0), (none, 0, 0), (0 : Int), (0 : Int)⟩ : api_Rec).Table).2.1) (((⟨(0 : Int), (0 : Int), (0 : Int), (0 : Int), (0 : Int), ([] : List UInt8), ([] : List UInt8), ([] : List UInt8), (0 : Int), (none, 0, 0), (none, 0, 0), (0 : Int), (0 : Int)⟩ : api_Rec).Table).2.2), .int .i64 ((⟨(0 : Int), (0 : Int), (0 : Int), (0 : Int), (0 : Int), ([] : List UInt8), ([] : List UInt8), ([] : List UInt8), (0 : Int), (none, 0, 0), (none, 0, 0), (0 : Int), (0 : Int)⟩ : api_Rec).Epoch), .int .i64 ((⟨(0 : Int), (0 : Int), (0 : Int), (0 : Int), (0 : Int), ([] : List UInt8), ([] : List UInt8), ([] : List UInt8), (0 : Int), (none, 0, 0), (none, 0, 0), (0 : Int), (0 : Int)⟩ : api_Rec).Node)] v4 0 (K [(4, v4), (5, .int .i64 0), (6, .int .i64 6)])) := by kernel_rfl
@[go_sem] theorem c50_r3 (v0 : List UInt8) (v1 : Int) (v4 : Addr) : RP c50 3 [(0, str v0), (1, v1), (4, v4)] K =
 (rq (0 ≤ (v1 : Int) ∧ v1 ≤ (v0.length : Int) ∧ (v0.length : Int) ≤ (v0.length : Int)) (K [(0, str (ss v0 v1 (v0.length : Int))), (4, v4)])) := by kernel_rfl
@[go_sem] theorem c50_r4 (v0 : List UInt8) (v4 : Addr) : RP c50 4 [(0, str v0), (4, v4)] K =
 (K [(0, str v0), (4, v4), (25, decide ((v0.length : Int) < 6))]) := by kernel_rfl
@[go_sem] theorem c50_r5 (v4 : Addr) : RP c50 5 [(4, v4)] K =
 (stl [.int .i64 ((⟨(0 : Int), (0 : Int), (0 : Int), (0 : Int), (0 : Int), ([] : List UInt8), ([] : List UInt8), ([] : List UInt8), (0 : Int), (none, 0, 0), (none, 0, 0), (0 : Int), (0 : Int)⟩ : api_Rec).Kind), .int .i64 ((⟨(0 : Int), (0 : Int), (0 : Int), (0 : Int), (0 : Int), ([] : List UInt8), ([] : List UInt8), ([] : List UInt8), (0 : Int), (none, 0, 0), (none, 0, 0), (0 : Int), (0 : Int)⟩ : api_Rec).Txn), .int .i64 ((⟨(0 : Int), (0 : Int), (0 : Int), (0 : Int), (0 : Int), ([] : List UInt8), ([] : List UInt8), ([] : List UInt8), (0 : Int), (none, 0, 0), (none, 0, 0), (0 : Int), (0 : Int)⟩ : api_Rec).Prev), .int .i64 ((⟨(0 : Int), (0 : Int), (0 : Int), (0 : Int), (0 : Int), ([] : List UInt8), ([] : List UInt8), ([] : List UInt8), (0 : Int), (none, 0, 0), (none, 0, 0), (0 : Int), (0 : Int)⟩ : api_Rec).Page), .int .i64 ((⟨(0 : Int), (0 : Int), (0 : Int), (0 : Int), (0 : Int), ([] : List UInt8), ([] : List UInt8), ([] : List UInt8), (0 : Int), (none, 0, 0), (none, 0, 0), (0 : Int), (0 : Int)⟩ : api_Rec).Act), str ((⟨(0 : Int), (0 : Int), (0 : Int), (0 : Int), (0 : Int), ([] : List UInt8), ([] : List UInt8), ([] : List UInt8), (0 : Int), (none, 0, 0), (none, 0, 0), (0 : Int), (0 : Int)⟩ : api_Rec).Key), str ((⟨(0 : Int), (0 : Int), (0 : Int), (0 : Int), (0 : Int), ([] : List UInt8), ([] : List UInt8), ([] : List UInt8), (0 : Int), (none, 0, 0), (none, 0, 0), (0 : Int), (0 : Int)⟩ : api_Rec).Old), str ((⟨(0 : Int), (0 : Int), (0 : Int), (0 : Int), (0 : Int), ([] : List UInt8), ([] : List UInt8), ([] : List UInt8), (0 : Int), (none, 0, 0), (none, 0, 0), (0 : Int), (0 : Int)⟩ : api_Rec).New), .int .i64 ((⟨(0 : Int), (0 : Int), (0 : Int), (0 : Int), (0 : Int), ([] : List UInt8), ([] : List UInt8), ([] : List UInt8), (0 : Int), (none, 0, 0), (none, 0, 0), (0 : Int), (0 : Int)⟩ : api_Rec).Next), .slice (((⟨(0 : Int), (0 : Int), (0 : Int), (0 : Int), (0 : Int), ([] : List UInt8), ([] : List UInt8), ([] : List UInt8), (0 : Int), (none, 0, 0), (none, 0, 0), (0 : Int), (0 : Int)⟩ : api_Rec).Images).1) (((⟨(0 : Int), (0 : Int), (0 : Int), (0 : Int), (0 : Int), ([] : List UInt8), ([] : List UInt8), ([] : List UInt8), (0 : Int), (none, 0, 0), (none, 0, 0), (0 : Int), (0 : Int)⟩ : api_Rec).Images).2.1) (((⟨(0 : Int), (0 : Int), (0 : Int), (0 : Int), (0 : Int), ([] : List UInt8), ([] : List UInt8), ([] : List UInt8), (0 : Int), (none, 0, 0), (none, 0, 0), (0 : Int), (0 : Int)⟩ : api_Rec).Images).2.2), .slice (((⟨(0 : Int), (0 : Int), (0 : Int), (0 : Int), (0 : Int), ([] : List UInt8), ([] : List UInt8), ([] : List UInt8), (0 : Int), (none, 0, 0), (none, 0, 0), (0 : Int), (0 : Int)⟩ : api_Rec).Table).1) (((⟨(0 : Int), (0 : Int), (0 : Int), (0 : Int), (0 : Int), ([] : List UInt8), ([] : List UInt8), ([] : List UInt8), (0 : Int), (none, 0, 0), (none, 0, 0), (0 : Int), (0 : Int)⟩ : api_Rec).Table).2.1) (((⟨(0 : Int), (0 : Int), (0 : Int), (0 : Int), (0 : Int), ([] : List UInt8), ([] : List UInt8), ([] : List UInt8), (0 : Int), (none, 0, 0), (none, 0, 0), (0 : Int), (0 : Int)⟩ : api_Rec).Table).2.2), .int .i64 ((⟨(0 : Int), (0 : Int), (0 : Int), (0 : Int), (0 : Int), ([] : List UInt8), ([] : List UInt8), ([] : List UInt8), (0 : Int), (none, 0, 0), (none, 0, 0), (0 : Int), (0 : Int)⟩ : api_Rec).Epoch), .int .i64 ((⟨(0 : Int), (0 : Int), (0 : Int), (0 : Int), (0 : Int), ([] : List UInt8), ([] : List UInt8), ([] : List UInt8), (0 : Int), (none, 0, 0), (none, 0, 0), (0 : Int), (0 : Int)⟩ : api_Rec).Node)] v4 0 (K [(4, v4), (5, .int .i64 0), (6, .int .i64 2)])) := by kernel_rfl
@[go_sem] theorem c50_r6 (v0 : List UInt8) (v4 : Addr) : RP c50 6 [(0, str v0), (4, v4)] K =
 (cal eP Tryz.prog 56 #[str v0] fun (y1_ : Option Addr) => (cal eI Tryz.prog 57 #[y1_, .int .i64 2] fun (y2_ : Int) => (K [(0, str v0), (4, v4), (7, y2_)]))) := by kernel_rfl
@[go_sem] theorem c50_r7 (v0 : List UInt8) (v4 : Addr) (v7 : Int) : RP c50 7 [(0, str v0), (4, v4), (7, v7)] K =
 (cnd (decide (v7 < 1)) (K [(0, str v0), (4, v4), (7, v7), (30, true)]) (K [(0, str v0), (4, v4), (7, v7), (30, decide (4096 < v7))])) := by kernel_rfl
@[go_sem] theorem c50_r8 (v4 : Addr) : RP c50 8 [(4, v4)] K =
 (stl [.int .i64 ((⟨(0 : Int), (0 : Int), (0 : Int), (0 : Int), (0 : Int), ([] : List UInt8), ([] : List UInt8), ([] : List UInt8), (0 : Int), (none, 0, 0), (none, 0, 0), (0 : Int), (0 : Int)⟩ : api_Rec).Kind), .int .i64 ((⟨(0 : Int), (0 : Int), (0 : Int), (0 : Int), (0 : Int), ([] : List UInt8), ([] : List UInt8), ([] : List UInt8), (0 : Int), (none, 0, 0), (none, 0, 0), (0 : Int), (0 : Int)⟩ : api_Rec).Txn), .int .i64 ((⟨(0 : Int), (0 : Int), (0 : Int), (0 : Int), (0 : Int), ([] : List UInt8), ([] : List UInt8), ([] : List UInt8), (0 : Int), (none, 0, 0), (none, 0, 0), (0 : Int), (0 : Int)⟩ : api_Rec).Prev), .int .i64 ((⟨(0 : Int), (0 : Int), (0 : Int), (0 : Int), (0 : Int), ([] : List UInt8), ([] : List UInt8), ([] : List UInt8), (0 : Int), (none, 0, 0), (none, 0, 0), (0 : Int), (0 : Int)⟩ : api_Rec).Page), .int .i64 ((⟨(0 : Int), (0 : Int), (0 : Int), (0 : Int), (0 : Int), ([] : List UInt8), ([] : List UInt8), ([] : List UInt8), (0 : Int), (none, 0, 0), (none, 0, 0), (0 : Int), (0 : Int)⟩ : api_Rec).Act), str ((⟨(0 : Int), (0 : Int), (0 : Int), (0 : Int), (0 : Int), ([] : List UInt8), ([] : List UInt8), ([] : List UInt8), (0 : Int), (none, 0, 0), (none, 0, 0), (0 : Int), (0 : Int)⟩ : api_Rec).Key), str ((⟨(0 : Int), (0 : Int), (0 : Int), (0 : Int), (0 : Int), ([] : List UInt8), ([] : List UInt8), ([] : List UInt8), (0 : Int), (none, 0, 0), (none, 0, 0), (0 : Int), (0 : Int)⟩ : api_Rec).Old), str ((⟨(0 : Int), (0 : Int), (0 : Int), (0 : Int), (0 : Int), ([] : List UInt8), ([] : List UInt8), ([] : List UInt8), (0 : Int), (none, 0, 0), (none, 0, 0), (0 : Int), (0 : Int)⟩ : api_Rec).New), .int .i64 ((⟨(0 : Int), (0 : Int), (0 : Int), (0 : Int), (0 : Int), ([] : List UInt8), ([] : List UInt8), ([] : List UInt8), (0 : Int), (none, 0, 0), (none, 0, 0), (0 : Int), (0 : Int)⟩ : api_Rec).Next), .slice (((⟨(0 : Int), (0 : Int), (0 : Int), (0 : Int), (0 : Int), ([] : List UInt8), ([] : List UInt8), ([] : List UInt8), (0 : Int), (none, 0, 0), (none, 0, 0), (0 : Int), (0 : Int)⟩ : api_Rec).Images).1) (((⟨(0 : Int), (0 : Int), (0 : Int), (0 : Int), (0 : Int), ([] : List UInt8), ([] : List UInt8), ([] : List UInt8), (0 : Int), (none, 0, 0), (none, 0, 0), (0 : Int), (0 : Int)⟩ : api_Rec).Images).2.1) (((⟨(0 : Int), (0 : Int), (0 : Int), (0 : Int), (0 : Int), ([] : List UInt8), ([] : List UInt8), ([] : List UInt8), (0 : Int), (none, 0, 0), (none, 0, 0), (0 : Int), (0 : Int)⟩ : api_Rec).Images).2.2), .slice (((⟨(0 : Int), (0 : Int), (0 : Int), (0 : Int), (0 : Int), ([] : List UInt8), ([] : List UInt8), ([] : List UInt8), (0 : Int), (none, 0, 0), (none, 0, 0), (0 : Int), (0 : Int)⟩ : api_Rec).Table).1) (((⟨(0 : Int), (0 : Int), (0 : Int), (0 : Int), (0 : Int), ([] : List UInt8), ([] : List UInt8), ([] : List UInt8), (0 : Int), (none, 0, 0), (none, 0, 0), (0 : Int), (0 : Int)⟩ : api_Rec).Table).2.1) (((⟨(0 : Int), (0 : Int), (0 : Int), (0 : Int), (0 : Int), ([] : List UInt8), ([] : List UInt8), ([] : List UInt8), (0 : Int), (none, 0, 0), (none, 0, 0), (0 : Int), (0 : Int)⟩ : api_Rec).Table).2.2), .int .i64 ((⟨(0 : Int), (0 : Int), (0 : Int), (0 : Int), (0 : Int), ([] : List UInt8), ([] : List UInt8), ([] : List UInt8), (0 : Int), (none, 0, 0), (none, 0, 0), (0 : Int), (0 : Int)⟩ : api_Rec).Epoch), .int .i64 ((⟨(0 : Int), (0 : Int), (0 : Int), (0 : Int), (0 : Int), ([] : List UInt8), ([] : List UInt8), ([] : List UInt8), (0 : Int), (none, 0, 0), (none, 0, 0), (0 : Int), (0 : Int)⟩ : api_Rec).Node)] v4 0 (K [(4, v4), (5, .int .i64 0), (6, .int .i64 4)])) := by kernel_rfl
@[go_sem] theorem c50_r9 (v0 : List UInt8) (v4 : Addr) (v7 : Int) : RP c50 9 [(0, str v0), (4, v4), (7, v7)] K =
 (K [(0, str v0), (4, v4), (7, v7), (38, decide ((IntKind.wrap .i64 ((v0.length : Int) - 6)) < v7))]) := by kernel_rfl
@[go_sem] theorem c50_r10 (v4 : Addr) : RP c50 10 [(4, v4)] K =
 (stl [.int .i64 ((⟨(0 : Int), (0 : Int), (0 : Int), (0 : Int), (0 : Int), ([] : List UInt8), ([] : List UInt8), ([] : List UInt8), (0 : Int), (none, 0, 0), (none, 0, 0), (0 : Int), (0 : Int)⟩ : api_Rec).Kind), .int .i64 ((⟨(0 : Int), (0 : Int), (0 : Int), (0 : Int), (0 : Int), ([] : List UInt8), ([] : List UInt8), ([] : List UInt8), (0 : Int), (none, 0, 0), (none, 0, 0), (0 : Int), (0 : Int)⟩ : api_Rec).Txn), .int .i64 ((⟨(0 : Int), (0 : Int), (0 : Int), (0 : Int), (0 : Int), ([] : List UInt8), ([] : List UInt8), ([] : List UInt8), (0 : Int), (none, 0, 0), (none, 0, 0), (0 : Int), (0 : Int)⟩ : api_Rec).Prev), .int .i64 ((⟨(0 : Int), (0 : Int), (0 : Int), (0 : Int), (0 : Int), ([] : List UInt8), ([] : List UInt8), ([] : List UInt8), (0 : Int), (none, 0, 0), (none, 0, 0), (0 : Int), (0 : Int)⟩ : api_Rec).Page), .int .i64 ((⟨(0 : Int), (0 : Int), (0 : Int), (0 : Int), (0 : Int), ([] : List UInt8), ([] : List UInt8), ([] : List UInt8), (0 : Int), (none, 0, 0), (none, 0, 0), (0 : Int), (0 : Int)⟩ : api_Rec).Act), str ((⟨(0 : Int), (0 : Int), (0 : Int), (0 : Int), (0 : Int), ([] : List UInt8), ([] : List UInt8), ([] : List UInt8), (0 : Int), (none, 0, 0), (none, 0, 0), (0 : Int), (0 : Int)⟩ : api_Rec).Key), str ((⟨(0 : Int), (0 : Int), (0 : Int), (0 : Int), (0 : Int), ([] : List UInt8), ([] : List UInt8), ([] : List UInt8), (0 : Int), (none, 0, 0), (none, 0, 0), (0 : Int), (0 : Int)⟩ : api_Rec).Old), str ((⟨(0 : Int), (0 : Int), (0 : Int), (0 : Int), (0 : Int), ([] : List UInt8), ([] : List UInt8), ([] : List UInt8), (0 : Int), (none, 0, 0), (none, 0, 0), (0 : Int), (0 : Int)⟩ : api_Rec).New), .int .i64 ((⟨(0 : Int), (0 : Int), (0 : Int), (0 : Int), (0 : Int), ([] : List UInt8), ([] : List UInt8), ([] : List UInt8), (0 : Int), (none, 0, 0), (none, 0, 0), (0 : Int), (0 : Int)⟩ : api_Rec).Next), .slice (((⟨(0 : Int), (0 : Int), (0 : Int), (0 : Int), (0 : Int), ([] : List UInt8), ([] : List UInt8), ([] : List UInt8), (0 : Int), (none, 0, 0), (none, 0, 0), (0 : Int), (0 : Int)⟩ : api_Rec).Images).1) (((⟨(0 : Int), (0 : Int), (0 : Int), (0 : Int), (0 : Int), ([] : List UInt8), ([] : List UInt8), ([] : List UInt8), (0 : Int), (none, 0, 0), (none, 0, 0), (0 : Int), (0 : Int)⟩ : api_Rec).Images).2.1) (((⟨(0 : Int), (0 : Int), (0 : Int), (0 : Int), (0 : Int), ([] : List UInt8), ([] : List UInt8), ([] : List UInt8), (0 : Int), (none, 0, 0), (none, 0, 0), (0 : Int), (0 : Int)⟩ : api_Rec).Images).2.2), .slice (((⟨(0 : Int), (0 : Int), (0 : Int), (0 : Int), (0 : Int), ([] : List UInt8), ([] : List UInt8), ([] : List UInt8), (0 : Int), (none, 0, 0), (none, 0, 0), (0 : Int), (0 : Int)⟩ : api_Rec).Table).1) (((⟨(0 : Int), (0 : Int), (0 : Int), (0 : Int), (0 : Int), ([] : List UInt8), ([] : List UInt8), ([] : List UInt8), (0 : Int), (none, 0, 0), (none, 0, 0), (0 : Int), (0 : Int)⟩ : api_Rec).Table).2.1) (((⟨(0 : Int), (0 : Int), (0 : Int), (0 : Int), (0 : Int), ([] : List UInt8), ([] : List UInt8), ([] : List UInt8), (0 : Int), (none, 0, 0), (none, 0, 0), (0 : Int), (0 : Int)⟩ : api_Rec).Table).2.2), .int .i64 ((⟨(0 : Int), (0 : Int), (0 : Int), (0 : Int), (0 : Int), ([] : List UInt8), ([] : List UInt8), ([] : List UInt8), (0 : Int), (none, 0, 0), (none, 0, 0), (0 : Int), (0 : Int)⟩ : api_Rec).Epoch), .int .i64 ((⟨(0 : Int), (0 : Int), (0 : Int), (0 : Int), (0 : Int), ([] : List UInt8), ([] : List UInt8), ([] : List UInt8), (0 : Int), (none, 0, 0), (none, 0, 0), (0 : Int), (0 : Int)⟩ : api_Rec).Node)] v4 0 (K [(4, v4), (5, .int .i64 0), (6, .int .i64 2)])) := by kernel_rfl
@[go_sem] theorem c50_r11 (v0 : List UInt8) (v4 : Addr) (v7 : Int) : RP c50 11 [(0, str v0), (4, v4), (7, v7)] K =
 (rq (0 ≤ ((2 : Int) : Int) ∧ (2 : Int) ≤ (IntKind.wrap .i64 ((6 : Int) + v7)) ∧ (IntKind.wrap .i64 ((6 : Int) + v7)) ≤ (v0.length : Int)) (cal (eT2 eS eI) Tryz.prog 77 #[str (ss v0 (2 : Int) (IntKind.wrap .i64 ((6 : Int) + v7)))] fun (y1_ : ((List UInt8) × Int)) => (K [(4, v4), (7, v7), (8, str y1_.1), (9, y1_.2)]))) := by kernel_rfl
@[go_sem] theorem c50_r12 (v4 : Addr) (v7 : Int) (v8 : List UInt8) (v9 : Int) : RP c50 12 [(4, v4), (7, v7), (8, str v8), (9, v9)] K =
 (K [(4, v4), (7, v7), (8, str v8), (9, v9), (54, .bool (v9 != 0))]) := by kernel_rfl
@[go_sem] theorem c50_r13 (v4 : Addr) (v9 : Int) : RP c50 13 [(4, v4), (9, v9)] K =
 (stl [.int .i64 ((⟨(0 : Int), (0 : Int), (0 : Int), (0 : Int), (0 : Int), ([] : List UInt8), ([] : List UInt8), ([] : List UInt8), (0 : Int), (none, 0, 0), (none, 0, 0), (0 : Int), (0 : Int)⟩ : api_Rec).Kind), .int .i64 ((⟨(0 : Int), (0 : Int), (0 : Int), (0 : Int), (0 : Int), ([] : List UInt8), ([] : List UInt8), ([] : List UInt8), (0 : Int), (none, 0, 0), (none, 0, 0), (0 : Int), (0 : Int)⟩ : api_Rec).Txn), .int .i64 ((⟨(0 : Int), (0 : Int), (0 : Int), (0 : Int), (0 : Int), ([] : List UInt8), ([] : List UInt8), ([] : List UInt8), (0 : Int), (none, 0, 0), (none, 0, 0), (0 : Int), (0 : Int)⟩ : api_Rec).Prev), .int .i64 ((⟨(0 : Int), (0 : Int), (0 : Int), (0 : Int), (0 : Int), ([] : List UInt8), ([] : List UInt8), ([] : List UInt8), (0 : Int), (none, 0, 0), (none, 0, 0), (0 : Int), (0 : Int)⟩ : api_Rec).Page), .int .i64 ((⟨(0 : Int), (0 : Int), (0 : Int), (0 : Int), (0 : Int), ([] : List UInt8), ([] : List UInt8), ([] : List UInt8), (0 : Int), (none, 0, 0), (none, 0, 0), (0 : Int), (0 : Int)⟩ : api_Rec).Act), str ((⟨(0 : Int), (0 : Int), (0 : Int), (0 : Int), (0 : Int), ([] : List UInt8), ([] : List UInt8), ([] : List UInt8), (0 : Int), (none, 0, 0), (none, 0, 0), (0 : Int), (0 : Int)⟩ : api_Rec).Key), str ((⟨(0 : Int), (0 : Int), (0 : Int), (0 : Int), (0 : Int), ([] : List UInt8), ([] : List UInt8), ([] : List UInt8), (0 : Int), (none, 0, 0), (none, 0, 0), (0 : Int), (0 : Int)⟩ : api_Rec).Old), str ((⟨(0 : Int), (0 : Int), (0 : Int), (0 : Int), (0 : Int), ([] : List UInt8), ([] : List UInt8), ([] : List UInt8), (0 : Int), (none, 0, 0), (none, 0, 0), (0 : Int), (0 : Int)⟩ : api_Rec).New), .int .i64 ((⟨(0 : Int), (0 : Int), (0 : Int), (0 : Int), (0 : Int), ([] : List UInt8), ([] : List UInt8), ([] : List UInt8), (0 : Int), (none, 0, 0), (none, 0, 0), (0 : Int), (0 : Int)⟩ : api_Rec).Next), .slice (((⟨(0 : Int), (0 : Int), (0 : Int), (0 : Int), (0 : Int), ([] : List UInt8), ([] : List UInt8), ([] : List UInt8), (0 : Int), (none, 0, 0), (none, 0, 0), (0 : Int), (0 : Int)⟩ : api_Rec).Images).1) (((⟨(0 : Int), (0 : Int), (0 : Int), (0 : Int), (0 : Int), ([] : List UInt8), ([] : List UInt8), ([] : List UInt8), (0 : Int), (none, 0, 0), (none, 0, 0), (0 : Int), (0 : Int)⟩ : api_Rec).Images).2.1) (((⟨(0 : Int), (0 : Int), (0 : Int), (0 : Int), (0 : Int), ([] : List UInt8), ([] : List UInt8), ([] : List UInt8), (0 : Int), (none, 0, 0), (none, 0, 0), (0 : Int), (0 : Int)⟩ : api_Rec).Images).2.2), .slice (((⟨(0 : Int), (0 : Int), (0 : Int), (0 : Int), (0 : Int), ([] : List UInt8), ([] : List UInt8), ([] : List UInt8), (0 : Int), (none, 0, 0), (none, 0, 0), (0 : Int), (0 : Int)⟩ : api_Rec).Table).1) (((⟨(0 : Int), (0 : Int), (0 : Int), (0 : Int), (0 : Int), ([] : List UInt8), ([] : List UInt8), ([] : List UInt8), (0 : Int), (none, 0, 0), (none, 0, 0), (0 : Int), (0 : Int)⟩ : api_Rec).Table).2.1) (((⟨(0 : Int), (0 : Int), (0 : Int), (0 : Int), (0 : Int), ([] : List UInt8), ([] : List UInt8), ([] : List UInt8), (0 : Int), (none, 0, 0), (none, 0, 0), (0 : Int), (0 : Int)⟩ : api_Rec).Table).2.2), .int .i64 ((⟨(0 : Int), (0 : Int), (0 : Int), (0 : Int), (0 : Int), ([] : List UInt8), ([] : List UInt8), ([] : List UInt8), (0 : Int), (none, 0, 0), (none, 0, 0), (0 : Int), (0 : Int)⟩ : api_Rec).Epoch), .int .i64 ((⟨(0 : Int), (0 : Int), (0 : Int), (0 : Int), (0 : Int), ([] : List UInt8), ([] : List UInt8), ([] : List UInt8), (0 : Int), (none, 0, 0), (none, 0, 0), (0 : Int), (0 : Int)⟩ : api_Rec).Node)] v4 0 (K [(4, v4), (5, .int .i64 0), (6, v9)])) := by kernel_rfl
@[go_sem] theorem c50_r14 (v4 : Addr) (v7 : Int) (v8 : List UInt8) : RP c50 14 [(4, v4), (7, v7), (8, str v8)] K =
 (cal (eT2 e_api_Rec eI) Tryz.prog 78 #[str v8] fun (y1_ : (api_Rec × Int)) => (nwc #[.int .i64 0, .int .i64 0, .int .i64 0, .int .i64 0, .int .i64 0, str ([] : List UInt8), str ([] : List UInt8), str ([] : List UInt8), .int .i64 0, .slice none 0 0, .slice none 0 0, .int .i64 0, .int .i64 0] 47 fun y2_ => (stl [.int .i64 y1_.1.Kind, .int .i64 y1_.1.Txn, .int .i64 y1_.1.Prev, .int .i64 y1_.1.Page, .int .i64 y1_.1.Act, str y1_.1.Key, str y1_.1.Old, str y1_.1.New, .int .i64 y1_.1.Next, .slice y1_.1.Images.1 y1_.1.Images.2.1 y1_.1.Images.2.2, .slice y1_.1.Table.1 y1_.1.Table.2.1 y1_.1.Table.2.2, .int .i64 y1_.1.Epoch, .int .i64 y1_.1.Node] y2_ 0 (K [(4, v4), (7, v7), (9, y1_.2), (10, y2_)])))) := by kernel_rfl
@[go_sem] theorem c50_r15 (v4 : Addr) (v7 v9 : Int) (v10 : Addr) : RP c50 15 [(4, v4), (7, v7), (9, v9), (10, v10)] K =
 (K [(4, v4), (7, v7), (9, v9), (10, v10), (63, .bool (v9 != 0))]) := by kernel_rfl
@[go_sem] theorem c50_r16 (v4 : Addr) (v9 : Int) : RP c50 16 [(4, v4), (9, v9)] K =
 (stl [.int .i64 ((⟨(0 : Int), (0 : Int), (0 : Int), (0 : Int), (0 : Int), ([] : List UInt8), ([] : List UInt8), ([] : List UInt8), (0 : Int), (none, 0, 0), (none, 0, 0), (0 : Int), (0 : Int)⟩ : api_Rec).Kind), .int .i64 ((⟨(0 : Int), (0 : Int), (0 : Int), (0 : Int), (0 : Int), ([] : List UInt8), ([] : List UInt8), ([] : List UInt8), (0 : Int), (none, 0, 0), (none, 0, 0), (0 : Int), (0 : Int)⟩ : api_Rec).Txn), .int .i64 ((⟨(0 : Int), (0 : Int), (0 : Int), (0 : Int), (0 : Int), ([] : List UInt8), ([] : List UInt8), ([] : List UInt8), (0 : Int), (none, 0, 0), (none, 0, 0), (0 : Int), (0 : Int)⟩ : api_Rec).Prev), .int .i64 ((⟨(0 : Int), (0 : Int), (0 : Int), (0 : Int), (0 : Int), ([] : List UInt8), ([] : List UInt8), ([] : List UInt8), (0 : Int), (none, 0, 0), (none, 0, 0), (0 : Int), (0 : Int)⟩ : api_Rec).Page), .int .i64 ((⟨(0 : Int), (0 : Int), (0 : Int), (0 : Int), (0 : Int), ([] : List UInt8), ([] : List UInt8), ([] : List UInt8), (0 : Int), (none, 0, 0), (none, 0, 0), (0 : Int), (0 : Int)⟩ : api_Rec).Act), str ((⟨(0 : Int), (0 : Int), (0 : Int), (0 : Int), (0 : Int), ([] : List UInt8), ([] : List UInt8), ([] : List UInt8), (0 : Int), (none, 0, 0), (none, 0, 0), (0 : Int), (0 : Int)⟩ : api_Rec).Key), str ((⟨(0 : Int), (0 : Int), (0 : Int), (0 : Int), (0 : Int), ([] : List UInt8), ([] : List UInt8), ([] : List UInt8), (0 : Int), (none, 0, 0), (none, 0, 0), (0 : Int), (0 : Int)⟩ : api_Rec).Old), str ((⟨(0 : Int), (0 : Int), (0 : Int), (0 : Int), (0 : Int), ([] : List UInt8), ([] : List UInt8), ([] : List UInt8), (0 : Int), (none, 0, 0), (none, 0, 0), (0 : Int), (0 : Int)⟩ : api_Rec).New), .int .i64 ((⟨(0 : Int), (0 : Int), (0 : Int), (0 : Int), (0 : Int), ([] : List UInt8), ([] : List UInt8), ([] : List UInt8), (0 : Int), (none, 0, 0), (none, 0, 0), (0 : Int), (0 : Int)⟩ : api_Rec).Next), .slice (((⟨(0 : Int), (0 : Int), (0 : Int), (0 : Int), (0 : Int), ([] : List UInt8), ([] : List UInt8), ([] : List UInt8), (0 : Int), (none, 0, 0), (none, 0, 0), (0 : Int), (0 : Int)⟩ : api_Rec).Images).1) (((⟨(0 : Int), (0 : Int), (0 : Int), (0 : Int), (0 : Int), ([] : List UInt8), ([] : List UInt8), ([] : List UInt8), (0 : Int), (none, 0, 0), (none, 0, 0), (0 : Int), (0 : Int)⟩ : api_Rec).Images).2.1) (((⟨(0 : Int), (0 : Int), (0 : Int), (0 : Int), (0 : Int), ([] : List UInt8), ([] : List UInt8), ([] : List UInt8), (0 : Int), (none, 0, 0), (none, 0, 0), (0 : Int), (0 : Int)⟩ : api_Rec).Images).2.2), .slice (((⟨(0 : Int), (0 : Int), (0 : Int), (0 : Int), (0 : Int), ([] : List UInt8), ([] : List UInt8), ([] : List UInt8), (0 : Int), (none, 0, 0), (none, 0, 0), (0 : Int), (0 : Int)⟩ : api_Rec).Table).1) (((⟨(0 : Int), (0 : Int), (0 : Int), (0 : Int), (0 : Int), ([] : List UInt8), ([] : List UInt8), ([] : List UInt8), (0 : Int), (none, 0, 0), (none, 0, 0), (0 : Int), (0 : Int)⟩ : api_Rec).Table).2.1) (((⟨(0 : Int), (0 : Int), (0 : Int), (0 : Int), (0 : Int), ([] : List UInt8), ([] : List UInt8), ([] : List UInt8), (0 : Int), (none, 0, 0), (none, 0, 0), (0 : Int), (0 : Int)⟩ : api_Rec).Table).2.2), .int .i64 ((⟨(0 : Int), (0 : Int), (0 : Int), (0 : Int), (0 : Int), ([] : List UInt8), ([] : List UInt8), ([] : List UInt8), (0 : Int), (none, 0, 0), (none, 0, 0), (0 : Int), (0 : Int)⟩ : api_Rec).Epoch), .int .i64 ((⟨(0 : Int), (0 : Int), (0 : Int), (0 : Int), (0 : Int), ([] : List UInt8), ([] : List UInt8), ([] : List UInt8), (0 : Int), (none, 0, 0), (none, 0, 0), (0 : Int), (0 : Int)⟩ : api_Rec).Node)] v4 0 (K [(4, v4), (5, .int .i64 0), (6, v9)])) := by kernel_rfl
@[go_sem] theorem c50_r17 (v4 : Addr) (v7 : Int) (v10 : Addr) : RP c50 17 [(4, v4), (7, v7), (10, v10)] K =
 (ldn e_api_Rec 13 v10 fun (y1_ : api_Rec) => (stl [y1_.Kind, y1_.Txn, y1_.Prev, y1_.Page, y1_.Act, str y1_.Key, str y1_.Old, str y1_.New, y1_.Next, .slice y1_.Images.1 y1_.Images.2.1 y1_.Images.2.2, .slice y1_.Table.1 y1_.Table.2.1 y1_.Table.2.2, y1_.Epoch, y1_.Node] v4 0 (K [(4, v4), (5, IntKind.wrap .i64 ((6 : Int) + v7)), (6, .int .i64 0)]))) := by kernel_rfl
@[go_sem] theorem c50_o : c50.lo 1000000 = [4, 5, 6] := rfl
@[go_sem] theorem c50_e (v4 : Addr) (v5 v6 : Int) : RTp c50 [(4, v4), (5, v5), (6, v6)] k = (ldn e_api_Rec 13 v4 fun (y1_ : api_Rec) => (k (.tuple #[v_api_Rec y1_, v5, v6]))) := by kernel_rfl
theorem c50_ok : (c50.P.follows .mixedOrders && okc c50 c50.body) = true := by kernel_rfl
theorem c50_fn (hρ : envA 0 args.toList = ρ) (hs : Nat.ble args.size 69 = true) (h : E L (D c50 (.seq (.reg 0) (.seq (.seq (.reg 1) (.cond (.tmp 18) (.seq (.reg 2) (.ret)) (.skip))) (.seq (.reg 3) (.seq (.seq (.reg 4) (.cond (.tmp 25) (.seq (.reg 5) (.ret)) (.skip))) (.seq (.reg 6) (.seq (.block 0 (.seq (.reg 7) (.cond (.tmp 30) (.seq (.reg 8) (.ret)) (.seq (.reg 9) (.cond (.tmp 38) (.seq (.reg 10) (.ret)) (.skip)))))) (.seq (.reg 11) (.seq (.seq (.reg 12) (.cond (.tmp 54) (.seq (.reg 13) (.ret)) (.skip))) (.seq (.reg 14) (.seq (.seq (.reg 15) (.cond (.tmp 63) (.seq (.reg 16) (.ret)) (.skip))) (.seq (.reg 17) (.ret)))))))))))) (fnQ c50 e G) ρ)) : E L (cal e Tryz.prog 50 args G) :=
  d_fn (c := c50) Tryz.func50 (by kernel_rfl) (by kernel_rfl) (by kernel_rfl) c50_ok (by kernel_rfl) (by kernel_rfl) hρ hs h
noncomputable def c78 := cf Tryz.f78 102 [(0, [0]), (1, [0, 2]), (2, [0, 2, 4]), (3, [0, 2, 4, 5]), (4, [2, 4]), (5, [0, 2, 4, 5]), (6, [0, 2, 4, 5, 21]), (7, [0, 2, 4, 5, 21]), (8, [0, 2, 4, 5]), (9, [0, 2, 4, 5, 21]), (10, [0, 2, 4, 5]), (11, [0, 2, 4, 5]), (12, [0, 2, 4, 5, 21]), (13, [0, 2, 4, 5, 21]), (14, [0, 2, 4, 5, 21]), (15, [0, 2, 4, 5]), (16, [0, 2, 4, 5]), (17, [0, 2, 4, 5, 21]), (18, [0, 2, 4, 5, 21]), (19, [0, 2, 4, 5]), (20, [0, 2, 4, 5, 21]), (21, [0, 2, 4, 5]), (22, [0, 2, 4, 5, 21]), (23, [0, 2, 4, 5]), (24, [0, 2, 4, 5]), (25, [0, 2, 5, 6]), (26, [2, 6]), (27, [0, 2, 5]), (28, [0, 2, 5, 7, 8]), (29, [2]), (30, [2, 5])] [(0, [0, 2]), (1, [0, 2, 4]), (2, [0, 2, 4, 5]), (3, [0, 2, 4, 5, 16]), (4, [2, 3]), (5, [0, 2, 4, 5, 21]), (6, [0, 2, 4, 5, 21, 22]), (7, [0, 2, 4, 5, 21, 22]), (8, [0, 2, 4, 5]), (9, [0, 2, 4, 5, 21, 28]), (10, [0, 2, 4, 5]), (11, [0, 2, 4, 5]), (12, [0, 2, 4, 5, 21, 46]), (13, [0, 2, 4, 5, 21, 46]), (14, [0, 2, 4, 5, 21, 46]), (15, [0, 2, 4, 5]), (16, [0, 2, 4, 5]), (17, [0, 2, 4, 5, 21, 60]), (18, [0, 2, 4, 5, 21, 60]), (19, [0, 2, 4, 5]), (20, [0, 2, 4, 5, 21, 69]), (21, [0, 2, 4, 5]), (22, [0, 2, 4, 5, 74]), (23, [0, 2, 4, 5]), (24, [0, 2, 5, 6]), (25, [0, 2, 5, 6, 85]), (26, [2, 3]), (27, [0, 2, 5, 7, 8]), (28, [2, 5, 99]), (29, [2, 3]), (30, [2, 3]), (1000000, [2, 3])] [] []
@[go_sem] theorem c78_i : c78.li 0 = [0] ∧ c78.li 1 = [0, 2] ∧ c78.li 2 = [0, 2, 4] ∧ c78.li 3 = [0, 2, 4, 5] ∧ c78.li 4 = [2, 4] ∧ c78.li 5 = [0, 2, 4, 5] ∧ c78.li 6 = [0, 2, 4, 5, 21] ∧ c78.li 7 = [0, 2, 4, 5, 21] ∧ c78.li 8 = [0, 2, 4, 5] ∧ c78.li 9 = [0, 2, 4, 5, 21] ∧ c78.li 10 = [0, 2, 4, 5] ∧ c78.li 11 = [0, 2, 4, 5] ∧ c78.li 12 = [0, 2, 4, 5, 21] ∧ c78.li 13 = [0, 2, 4, 5, 21] ∧ c78.li 14 = [0, 2, 4, 5, 21] ∧ c78.li 15 = [0, 2, 4, 5] ∧ c78.li 16 = [0, 2, 4, 5] ∧ c78.li 17 = [0, 2, 4, 5, 21] ∧ c78.li 18 = [0, 2, 4, 5, 21] ∧ c78.li 19 = [0, 2, 4, 5] ∧ c78.li 20 = [0, 2, 4, 5, 21] ∧ c78.li 21 = [0, 2, 4, 5] ∧ c78.li 22 = [0, 2, 4, 5, 21] ∧ c78.li 23 = [0, 2, 4, 5] ∧ c78.li 24 = [0, 2, 4, 5] ∧ c78.li 25 = [0, 2, 5, 6] ∧ c78.li 26 = [2, 6] ∧ c78.li 27 = [0, 2, 5] ∧ c78.li 28 = [0, 2, 5, 7, 8] ∧ c78.li 29 = [2] ∧ c78.li 30 = [2, 5] := ⟨rfl, rfl, rfl, rfl, rfl, rfl, rfl, rfl, rfl, rfl, rfl, rfl, rfl, rfl, rfl, rfl, rfl, rfl, rfl, rfl, rfl, rfl, rfl, rfl, rfl, rfl, rfl, rfl, rfl, rfl, rfl⟩
@[go_sem] theorem c78_r0 (v0 : List UInt8) : RP c78 0 [(0, str v0)] K =
 (nwc #[.int .i64 0, .int .i64 0, .int .i64 0, .int .i64 0, .int .i64 0, str ([] : List UInt8), str ([] : List UInt8), str ([] : List UInt8), .int .i64 0, .slice none 0 0, .slice none 0 0, .int .i64 0, .int .i64 0] 47 fun y1_ => (K [(0, str v0), (2, y1_)])) := by kernel_rfl
@[go_sem] theorem c78_r1 (v0 : List UInt8) (v2 : Addr) : RP c78 1 [(0, str v0), (2, v2)] K =
 (cal eP Tryz.prog 56 #[str v0] fun (y1_ : Option Addr) => (K [(0, str v0), (2, v2), (4, y1_)])) := by kernel_rfl
@[go_sem] theorem c78_r2 (v0 : List UInt8) (v2 : Addr) (v4 : Option Addr) : RP c78 2 [(0, str v0), (2, v2), (4, v4)] K =
 (cal eI Tryz.prog 57 #[v4, .int .i64 1] fun (y1_ : Int) => (nwc #[.int .i64 0, .int .i64 0, .int .i64 0, .int .i64 0, .int .i64 0, str ([] : List UInt8), str ([] : List UInt8), str ([] : List UInt8), .int .i64 0, .slice none 0 0, .slice none 0 0, .int .i64 0, .int .i64 0] 47 fun y2_ => (stl [.int .i64 ((⟨y1_, (0 : Int), (0 : Int), (0 : Int), (0 : Int), ([] : List UInt8), ([] : List UInt8), ([] : List UInt8), (0 : Int), (none, 0, 0), (none, 0, 0), (0 : Int), (0 : Int)⟩ : api_Rec).Kind), .int .i64 ((⟨y1_, (0 : Int), (0 : Int), (0 : Int), (0 : Int), ([] : List UInt8), ([] : List UInt8), ([] : List UInt8), (0 : Int), (none, 0, 0), (none, 0, 0), (0 : Int), (0 : Int)⟩ : api_Rec).Txn), .int .i64 ((⟨y1_, (0 : Int), (0 : Int), (0 : Int), (0 : Int), ([] : List UInt8), ([] : List UInt8), ([] : List UInt8), (0 : Int), (none, 0, 0), (none, 0, 0), (0 : Int), (0 : Int)⟩ : api_Rec).Prev), .int .i64 ((⟨y1_, (0 : Int), (0 : Int), (0 : Int), (0 : Int), ([] : List UInt8), ([] : List UInt8), ([] : List UInt8), (0 : Int), (none, 0, 0), (none, 0, 0), (0 : Int), (0 : Int)⟩ : api_Rec).Page), .int .i64 ((⟨y1_, (0 : Int), (0 : Int), (0 : Int), (0 : Int), ([] : List UInt8), ([] : List UInt8), ([] : List UInt8), (0 : Int), (none, 0, 0), (none, 0, 0), (0 : Int), (0 : Int)⟩ : api_Rec).Act), str ((⟨y1_, (0 : Int), (0 : Int), (0 : Int), (0 : Int), ([] : List UInt8), ([] : List UInt8), ([] : List UInt8), (0 : Int), (none, 0, 0), (none, 0, 0), (0 : Int), (0 : Int)⟩ : api_Rec).Key), str ((⟨y1_, (0 : Int), (0 : Int), (0 : Int), (0 : Int), ([] : List UInt8), ([] : List UInt8), ([] : List UInt8), (0 : Int), (none, 0, 0), (none, 0, 0), (0 : Int), (0 : Int)⟩ : api_Rec).Old), str ((⟨y1_, (0 : Int), (0 : Int), (0 : Int), (0 : Int), ([] : List UInt8), ([] : List UInt8), ([] : List UInt8), (0 : Int), (none, 0, 0), (none, 0, 0), (0 : Int), (0 : Int)⟩ : api_Rec).New), .int .i64 ((⟨y1_, (0 : Int), (0 : Int), (0 : Int), (0 : Int), ([] : List UInt8), ([] : List UInt8), ([] : List UInt8), (0 : Int), (none, 0, 0), (none, 0, 0), (0 : Int), (0 : Int)⟩ : api_Rec).Next), .slice (((⟨y1_, (0 : Int), (0 : Int), (0 : Int), (0 : Int), ([] : List UInt8), ([] : List UInt8), ([] : List UInt8), (0 : Int), (none, 0, 0), (none, 0, 0), (0 : Int), (0 : Int)⟩ : api_Rec).Images).1) (((⟨y1_, (0 : Int), (0 : Int), (0 : Int), (0 : Int), ([] : List UInt8), ([] : List UInt8), ([] : List UInt8), (0 : Int), (none, 0, 0), (none, 0, 0), (0 : Int), (0 : Int)⟩ : api_Rec).Images).2.1) (((⟨y1_, (0 : Int), (0 : Int), (0 : Int), (0 : Int), ([] : List UInt8), ([] : List UInt8), ([] : List UInt8), (0 : Int), (none, 0, 0), (none, 0, 0), (0 : Int), (0 : Int)⟩ : api_Rec).Images).2.2), .slice (((⟨y1_, (0 : Int), (0 : Int), (0 : Int), (0 : Int), ([] : List UInt8), ([] : List UInt8), ([] : List UInt8), (0 : Int), (none, 0, 0), (none, 0, 0), (0 : Int), (0 : Int)⟩ : api_Rec).Table).1) (((⟨y1_, (0 : Int), (0 : Int), (0 : Int), (0 : Int), ([] : List UInt8), ([] : List UInt8), ([] : List UInt8), (0 : Int), (none, 0, 0), (none, 0, 0), (0 : Int), (0 : Int)⟩ : api_Rec).Table).2.1) (((⟨y1_, (0 : Int), (0 : Int), (0 : Int), (0 : Int), ([] : List UInt8), ([] : List UInt8), ([] : List UInt8), (0 : Int), (none, 0, 0), (none, 0, 0), (0 : Int), (0 : Int)⟩ : api_Rec).Table).2.2), .int .i64 ((⟨y1_, (0 : Int), (0 : Int), (0 : Int), (0 : Int), ([] : List UInt8), ([] : List UInt8), ([] : List UInt8), (0 : Int), (none, 0, 0), (none, 0, 0), (0 : Int), (0 : Int)⟩ : api_Rec).Epoch), .int .i64 ((⟨y1_, (0 : Int), (0 : Int), (0 : Int), (0 : Int), ([] : List UInt8), ([] : List UInt8), ([] : List UInt8), (0 : Int), (none, 0, 0), (none, 0, 0), (0 : Int), (0 : Int)⟩ : api_Rec).Node)] y2_ 0 (K [(0, str v0), (2, v2), (4, v4), (5, y2_)])))) := by kernel_rfl
@[go_sem] theorem c78_r3 (v0 : List UInt8) (v2 : Addr) (v4 : Option Addr) (v5 : Addr) : RP c78 3 [(0, str v0), (2, v2), (4, v4), (5, v5)] K =
 (cal eI Tryz.prog 101 #[v4] fun (y1_ : Int) => (K [(0, str v0), (2, v2), (4, v4), (5, v5), (16, .bool (y1_ != 0))])) := by kernel_rfl
@[go_sem] theorem c78_r4 (v2 : Addr) (v4 : Option Addr) : RP c78 4 [(2, v2), (4, v4)] K =
 (cal eI Tryz.prog 101 #[v4] fun (y1_ : Int) => (stl [.int .i64 ((⟨(0 : Int), (0 : Int), (0 : Int), (0 : Int), (0 : Int), ([] : List UInt8), ([] : List UInt8), ([] : List UInt8), (0 : Int), (none, 0, 0), (none, 0, 0), (0 : Int), (0 : Int)⟩ : api_Rec).Kind), .int .i64 ((⟨(0 : Int), (0 : Int), (0 : Int), (0 : Int), (0 : Int), ([] : List UInt8), ([] : List UInt8), ([] : List UInt8), (0 : Int), (none, 0, 0), (none, 0, 0), (0 : Int), (0 : Int)⟩ : api_Rec).Txn), .int .i64 ((⟨(0 : Int), (0 : Int), (0 : Int), (0 : Int), (0 : Int), ([] : List UInt8), ([] : List UInt8), ([] : List UInt8), (0 : Int), (none, 0, 0), (none, 0, 0), (0 : Int), (0 : Int)⟩ : api_Rec).Prev), .int .i64 ((⟨(0 : Int), (0 : Int), (0 : Int), (0 : Int), (0 : Int), ([] : List UInt8), ([] : List UInt8), ([] : List UInt8), (0 : Int), (none, 0, 0), (none, 0, 0), (0 : Int), (0 : Int)⟩ : api_Rec).Page), .int .i64 ((⟨(0 : Int), (0 : Int), (0 : Int), (0 : Int), (0 : Int), ([] : List UInt8), ([] : List UInt8), ([] : List UInt8), (0 : Int), (none, 0, 0), (none, 0, 0), (0 : Int), (0 : Int)⟩ : api_Rec).Act), str ((⟨(0 : Int), (0 : Int), (0 : Int), (0 : Int), (0 : Int), ([] : List UInt8), ([] : List UInt8), ([] : List UInt8), (0 : Int), (none, 0, 0), (none, 0, 0), (0 : Int), (0 : Int)⟩ : api_Rec).Key), str ((⟨(0 : Int), (0 : Int), (0 : Int), (0 : Int), (0 : Int), ([] : List UInt8), ([] : List UInt8), ([] : List UInt8), (0 : Int), (none, 0, 0), (none, 0, 0), (0 : Int), (0 : Int)⟩ : api_Rec).Old), str ((⟨(0 : Int), (0 : Int), (0 : Int), (0 : Int), (0 : Int), ([] : List UInt8), ([] : List UInt8), ([] : List UInt8), (0 : Int), (none, 0, 0), (none, 0, 0), (0 : Int), (0 : Int)⟩ : api_Rec).New), .int .i64 ((⟨(0 : Int), (0 : Int), (0 : Int), (0 : Int), (0 : Int), ([] : List UInt8), ([] : List UInt8), ([] : List UInt8), (0 : Int), (none, 0, 0), (none, 0, 0), (0 : Int), (0 : Int)⟩ : api_Rec).Next), .slice (((⟨(0 : Int), (0 : Int), (0 : Int), (0 : Int), (0 : Int), ([] : List UInt8), ([] : List UInt8), ([] : List UInt8), (0 : Int), (none, 0, 0), (none, 0, 0), (0 : Int), (0 : Int)⟩ : api_Rec).Images).1) (((⟨(0 : Int), (0 : Int), (0 : Int), (0 : Int), (0 : Int), ([] : List UInt8), ([] : List UInt8), ([] : List UInt8), (0 : Int), (none, 0, 0), (none, 0, 0), (0 : Int), (0 : Int)⟩ : api_Rec).Images).2.1) (((⟨(0 : Int), (0 : Int), (0 : Int), (0 : Int), (0 : Int), ([] : List UInt8), ([] : List UInt8), ([] : List UInt8), (0 : Int), (none, 0, 0), (none, 0, 0), (0 : Int), (0 : Int)⟩ : api_Rec).Images).2.2), .slice (((⟨(0 : Int), (0 : Int), (0 : Int), (0 : Int), (0 : Int), ([] : List UInt8), ([] : List UInt8), ([] : List UInt8), (0 : Int), (none, 0, 0), (none, 0, 0), (0 : Int), (0 : Int)⟩ : api_Rec).Table).1) (((⟨(0 : Int), (0 : Int), (0 : Int), (0 : Int), (0 : Int), ([] : List UInt8), ([] : List UInt8), ([] : List UInt8), (0 : Int), (none, 0, 0), (none, 0, 0), (0 : Int), (0 : Int)⟩ : api_Rec).Table).2.1) (((⟨(0 : Int), (0 : Int), (0 : Int), (0 : Int), (0 : Int), ([] : List UInt8), ([] : List UInt8), ([] : List UInt8), (0 : Int), (none, 0, 0), (none, 0, 0), (0 : Int), (0 : Int)⟩ : api_Rec).Table).2.2), .int .i64 ((⟨(0 : Int), (0 : Int), (0 : Int), (0 : Int), (0 : Int), ([] : List UInt8), ([] : List UInt8), ([] : List UInt8), (0 : Int), (none, 0, 0), (none, 0, 0), (0 : Int), (0 : Int)⟩ : api_Rec).Epoch), .int .i64 ((⟨(0 : Int), (0 : Int), (0 : Int), (0 : Int), (0 : Int), ([] : List UInt8), ([] : List UInt8), ([] : List UInt8), (0 : Int), (none, 0, 0), (none, 0, 0), (0 : Int), (0 : Int)⟩ : api_Rec).Node)] v2 0 (K [(2, v2), (3, y1_)]))) := by kernel_rfl
@[go_sem] theorem c78_r5 (v0 : List UInt8) (v2 : Addr) (v4 : Option Addr) (v5 : Addr) : RP c78 5 [(0, str v0), (2, v2), (4, v4), (5, v5)] K =
 (ld eI v5 fun (y1_ : Int) => (K [(0, str v0), (2, v2), (4, v4), (5, v5), (21, y1_)])) := by kernel_rfl
@[go_sem] theorem c78_r6 (v0 : List UInt8) (v2 : Addr) (v4 : Option Addr) (v5 : Addr) (v21 : Int) : RP c78 6 [(0, str v0), (2, v2), (4, v4), (5, v5), (21, v21)] K =
 (K [(0, str v0), (2, v2), (4, v4), (5, v5), (21, v21), (22, .bool (v21 == 1))]) := by kernel_rfl
@[go_sem] theorem c78_r7 (v0 : List UInt8) (v2 : Addr) (v4 : Option Addr) (v5 : Addr) (v21 : Int) : RP c78 7 [(0, str v0), (2, v2), (4, v4), (5, v5), (21, v21)] K =
 (K [(0, str v0), (2, v2), (4, v4), (5, v5), (21, v21), (22, .bool (v21 == 2))]) := by kernel_rfl
@[go_sem] theorem c78_r8 (v0 : List UInt8) (v2 : Addr) (v4 : Option Addr) (v5 : Addr) : RP c78 8 [(0, str v0), (2, v2), (4, v4), (5, v5)] K =
 (cal eSl Tryz.prog 102 #[v4] fun (y1_ : (Option Addr × Nat × Nat)) => (st (v5.add 9) (.slice y1_.1 y1_.2.1 y1_.2.2) (K [(0, str v0), (2, v2), (4, v4), (5, v5)]))) := by kernel_rfl
@[go_sem] theorem c78_r9 (v0 : List UInt8) (v2 : Addr) (v4 : Option Addr) (v5 : Addr) (v21 : Int) : RP c78 9 [(0, str v0), (2, v2), (4, v4), (5, v5), (21, v21)] K =
 (K [(0, str v0), (2, v2), (4, v4), (5, v5), (21, v21), (28, .bool (v21 == 6))]) := by kernel_rfl
@[go_sem] theorem c78_r10 (v0 : List UInt8) (v2 : Addr) (v4 : Option Addr) (v5 : Addr) : RP c78 10 [(0, str v0), (2, v2), (4, v4), (5, v5)] K =
 (cal eI Tryz.prog 57 #[v4, .int .i64 6] fun (y1_ : Int) => (cal eI Tryz.prog 57 #[v4, .int .i64 6] fun (y2_ : Int) => (cal eI Tryz.prog 57 #[v4, .int .i64 6] fun (y3_ : Int) => (cal eI Tryz.prog 57 #[v4, .int .i64 1] fun (y4_ : Int) => (st (v5.add 1) (y1_) (st (v5.add 2) (y2_) (st (v5.add 8) (y3_) (st (v5.add 4) (y4_) (K [(0, str v0), (2, v2), (4, v4), (5, v5)]))))))))) := by kernel_rfl
@[go_sem] theorem c78_r11 (v0 : List UInt8) (v2 : Addr) (v4 : Option Addr) (v5 : Addr) : RP c78 11 [(0, str v0), (2, v2), (4, v4), (5, v5)] K =
 (ld eI (v5.add 4) fun (y1_ : Int) => (cal eN Tryz.prog 103 #[v4, v5, y1_] fun (y2_ : Unit) => (K [(0, str v0), (2, v2), (4, v4), (5, v5)]))) := by kernel_rfl
@[go_sem] theorem c78_r12 (v0 : List UInt8) (v2 : Addr) (v4 : Option Addr) (v5 : Addr) (v21 : Int) : RP c78 12 [(0, str v0), (2, v2), (4, v4), (5, v5), (21, v21)] K =
 (K [(0, str v0), (2, v2), (4, v4), (5, v5), (21, v21), (46, .bool (v21 == 3))]) := by kernel_rfl
@[go_sem] theorem c78_r13 (v0 : List UInt8) (v2 : Addr) (v4 : Option Addr) (v5 : Addr) (v21 : Int) : RP c78 13 [(0, str v0), (2, v2), (4, v4), (5, v5), (21, v21)] K =
 (K [(0, str v0), (2, v2), (4, v4), (5, v5), (21, v21), (46, .bool (v21 == 4))]) := by kernel_rfl
@[go_sem] theorem c78_r14 (v0 : List UInt8) (v2 : Addr) (v4 : Option Addr) (v5 : Addr) (v21 : Int) : RP c78 14 [(0, str v0), (2, v2), (4, v4), (5, v5), (21, v21)] K =
 (K [(0, str v0), (2, v2), (4, v4), (5, v5), (21, v21), (46, .bool (v21 == 5))]) := by kernel_rfl
@[go_sem] theorem c78_r15 (v0 : List UInt8) (v2 : Addr) (v4 : Option Addr) (v5 : Addr) : RP c78 15 [(0, str v0), (2, v2), (4, v4), (5, v5)] K =
 (cal eI Tryz.prog 57 #[v4, .int .i64 6] fun (y1_ : Int) => (cal eI Tryz.prog 57 #[v4, .int .i64 6] fun (y2_ : Int) => (st (v5.add 1) (y1_) (st (v5.add 2) (y2_) (K [(0, str v0), (2, v2), (4, v4), (5, v5)]))))) := by kernel_rfl
@[go_sem] theorem c78_r16 (v0 : List UInt8) (v2 : Addr) (v4 : Option Addr) (v5 : Addr) : RP c78 16 [(0, str v0), (2, v2), (4, v4), (5, v5)] K =
 (ld eI v5 fun (y1_ : Int) => (cal eN Tryz.prog 103 #[v4, v5, y1_] fun (y2_ : Unit) => (K [(0, str v0), (2, v2), (4, v4), (5, v5)]))) := by kernel_rfl
@[go_sem] theorem c78_r17 (v0 : List UInt8) (v2 : Addr) (v4 : Option Addr) (v5 : Addr) (v21 : Int) : RP c78 17 [(0, str v0), (2, v2), (4, v4), (5, v5), (21, v21)] K =
 (K [(0, str v0), (2, v2), (4, v4), (5, v5), (21, v21), (60, .bool (v21 == 7))]) := by kernel_rfl
@[go_sem] theorem c78_r18 (v0 : List UInt8) (v2 : Addr) (v4 : Option Addr) (v5 : Addr) (v21 : Int) : RP c78 18 [(0, str v0), (2, v2), (4, v4), (5, v5), (21, v21)] K =
 (K [(0, str v0), (2, v2), (4, v4), (5, v5), (21, v21), (60, .bool (v21 == 8))]) := by kernel_rfl
@[go_sem] theorem c78_r19 (v0 : List UInt8) (v2 : Addr) (v4 : Option Addr) (v5 : Addr) : RP c78 19 [(0, str v0), (2, v2), (4, v4), (5, v5)] K =
 (cal eI Tryz.prog 57 #[v4, .int .i64 6] fun (y1_ : Int) => (cal eI Tryz.prog 57 #[v4, .int .i64 6] fun (y2_ : Int) => (st (v5.add 1) (y1_) (st (v5.add 2) (y2_) (K [(0, str v0), (2, v2), (4, v4), (5, v5)]))))) := by kernel_rfl
@[go_sem] theorem c78_r20 (v0 : List UInt8) (v2 : Addr) (v4 : Option Addr) (v5 : Addr) (v21 : Int) : RP c78 20 [(0, str v0), (2, v2), (4, v4), (5, v5), (21, v21)] K =
 (K [(0, str v0), (2, v2), (4, v4), (5, v5), (21, v21), (69, .bool (v21 == 9))]) := by kernel_rfl
@[go_sem] theorem c78_r21 (v0 : List UInt8) (v2 : Addr) (v4 : Option Addr) (v5 : Addr) : RP c78 21 [(0, str v0), (2, v2), (4, v4), (5, v5)] K =
 (cal eSl Tryz.prog 104 #[v4] fun (y1_ : (Option Addr × Nat × Nat)) => (st (v5.add 10) (.slice y1_.1 y1_.2.1 y1_.2.2) (K [(0, str v0), (2, v2), (4, v4), (5, v5)]))) := by kernel_rfl
@[go_sem] theorem c78_r22 (v0 : List UInt8) (v2 : Addr) (v4 : Option Addr) (v5 : Addr) (v21 : Int) : RP c78 22 [(0, str v0), (2, v2), (4, v4), (5, v5), (21, v21)] K =
 (K [(0, str v0), (2, v2), (4, v4), (5, v5), (74, .bool (v21 == 10))]) := by kernel_rfl
@[go_sem] theorem c78_r23 (v0 : List UInt8) (v2 : Addr) (v4 : Option Addr) (v5 : Addr) : RP c78 23 [(0, str v0), (2, v2), (4, v4), (5, v5)] K =
 (cal eI Tryz.prog 57 #[v4, .int .i64 4] fun (y1_ : Int) => (cal eI Tryz.prog 57 #[v4, .int .i64 1] fun (y2_ : Int) => (st (v5.add 11) (y1_) (st (v5.add 12) (y2_) (K [(0, str v0), (2, v2), (4, v4), (5, v5)]))))) := by kernel_rfl
@[go_sem] theorem c78_r24 (v0 : List UInt8) (v2 : Addr) (v4 : Option Addr) (v5 : Addr) : RP c78 24 [(0, str v0), (2, v2), (4, v4), (5, v5)] K =
 (cal eI Tryz.prog 105 #[v4] fun (y1_ : Int) => (K [(0, str v0), (2, v2), (5, v5), (6, y1_)])) := by kernel_rfl
@[go_sem] theorem c78_r25 (v0 : List UInt8) (v2 v5 : Addr) (v6 : Int) : RP c78 25 [(0, str v0), (2, v2), (5, v5), (6, v6)] K =
 (K [(0, str v0), (2, v2), (5, v5), (6, v6), (85, .bool (v6 != 0))]) := by kernel_rfl
@[go_sem] theorem c78_r26 (v2 : Addr) (v6 : Int) : RP c78 26 [(2, v2), (6, v6)] K =
 (stl [.int .i64 ((⟨(0 : Int), (0 : Int), (0 : Int), (0 : Int), (0 : Int), ([] : List UInt8), ([] : List UInt8), ([] : List UInt8), (0 : Int), (none, 0, 0), (none, 0, 0), (0 : Int), (0 : Int)⟩ : api_Rec).Kind), .int .i64 ((⟨(0 : Int), (0 : Int), (0 : Int), (0 : Int), (0 : Int), ([] : List UInt8), ([] : List UInt8), ([] : List UInt8), (0 : Int), (none, 0, 0), (none, 0, 0), (0 : Int), (0 : Int)⟩ : api_Rec).Txn), .int .i64 ((⟨(0 : Int), (0 : Int), (0 : Int), (0 : Int), (0 : Int), ([] : List UInt8), ([] : List UInt8), ([] : List UInt8), (0 : Int), (none, 0, 0), (none, 0, 0), (0 : Int), (0 : Int)⟩ : api_Rec).Prev), .int .i64 ((⟨(0 : Int), (0 : Int), (0 : Int), (0 : Int), (0 : Int), ([] : List UInt8), ([] : List UInt8), ([] : List UInt8), (0 : Int), (none, 0, 0), (none, 0, 0), (0 : Int), (0 : Int)⟩ : api_Rec).Page), .int .i64 ((⟨(0 : Int), (0 : Int), (0 : Int), (0 : Int), (0 : Int), ([] : List UInt8), ([] : List UInt8), ([] : List UInt8), (0 : Int), (none, 0, 0), (none, 0, 0), (0 : Int), (0 : Int)⟩ : api_Rec).Act), str ((⟨(0 : Int), (0 : Int), (0 : Int), (0 : Int), (0 : Int), ([] : List UInt8), ([] : List UInt8), ([] : List UInt8), (0 : Int), (none, 0, 0), (none, 0, 0), (0 : Int), (0 : Int)⟩ : api_Rec).Key), str ((⟨(0 : Int), (0 : Int), (0 : Int), (0 : Int), (0 : Int), ([] : List UInt8), ([] : List UInt8), ([] : List UInt8), (0 : Int), (none, 0, 0), (none, 0, 0), (0 : Int), (0 : Int)⟩ : api_Rec).Old), str ((⟨(0 : Int), (0 : Int), (0 : Int), (0 : Int), (0 : Int), ([] : List UInt8), ([] : List UInt8), ([] : List UInt8), (0 : Int), (none, 0, 0), (none, 0, 0), (0 : Int), (0 : Int)⟩ : api_Rec).New), .int .i64 ((⟨(0 : Int), (0 : Int), (0 : Int), (0 : Int), (0 : Int), ([] : List UInt8), ([] : List UInt8), ([] : List UInt8), (0 : Int), (none, 0, 0), (none, 0, 0), (0 : Int), (0 : Int)⟩ : api_Rec).Next), .slice (((⟨(0 : Int), (0 : Int), (0 : Int), (0 : Int), (0 : Int), ([] : List UInt8), ([] : List UInt8), ([] : List UInt8), (0 : Int), (none, 0, 0), (none, 0, 0), (0 : Int), (0 : Int)⟩ : api_Rec).Images).1) (((⟨(0 : Int), (0 : Int), (0 : Int), (0 : Int), (0 : Int), ([] : List UInt8), ([] : List UInt8), ([] : List UInt8), (0 : Int), (none, 0, 0), (none, 0, 0), (0 : Int), (0 : Int)⟩ : api_Rec).Images).2.1) (((⟨(0 : Int), (0 : Int), (0 : Int), (0 : Int), (0 : Int), ([] : List UInt8), ([] : List UInt8), ([] : List UInt8), (0 : Int), (none, 0, 0), (none, 0, 0), (0 : Int), (0 : Int)⟩ : api_Rec).Images).2.2), .slice (((⟨(0 : Int), (0 : Int), (0 : Int), (0 : Int), (0 : Int), ([] : List UInt8), ([] : List UInt8), ([] : List UInt8), (0 : Int), (none, 0, 0), (none, 0, 0), (0 : Int), (0 : Int)⟩ : api_Rec).Table).1) (((⟨(0 : Int), (0 : Int), (0 : Int), (0 : Int), (0 : Int), ([] : List UInt8), ([] : List UInt8), ([] : List UInt8), (0 : Int), (none, 0, 0), (none, 0, 0), (0 : Int), (0 : Int)⟩ : api_Rec).Table).2.1) (((⟨(0 : Int), (0 : Int), (0 : Int), (0 : Int), (0 : Int), ([] : List UInt8), ([] : List UInt8), ([] : List UInt8), (0 : Int), (none, 0, 0), (none, 0, 0), (0 : Int), (0 : Int)⟩ : api_Rec).Table).2.2), .int .i64 ((⟨(0 : Int), (0 : Int), (0 : Int), (0 : Int), (0 : Int), ([] : List UInt8), ([] : List UInt8), ([] : List UInt8), (0 : Int), (none, 0, 0), (none, 0, 0), (0 : Int), (0 : Int)⟩ : api_Rec).Epoch), .int .i64 ((⟨(0 : Int), (0 : Int), (0 : Int), (0 : Int), (0 : Int), ([] : List UInt8), ([] : List UInt8), ([] : List UInt8), (0 : Int), (none, 0, 0), (none, 0, 0), (0 : Int), (0 : Int)⟩ : api_Rec).Node)] v2 0 (K [(2, v2), (3, v6)])) := by kernel_rfl
@[go_sem] theorem c78_r27 (v0 : List UInt8) (v2 v5 : Addr) : RP c78 27 [(0, str v0), (2, v2), (5, v5)] K =
 (ldn e_api_Rec 13 v5 fun (y1_ : api_Rec) => (cal (eT2 eS eI) Tryz.prog 85 #[v_api_Rec y1_] fun (y2_ : ((List UInt8) × Int)) => (K [(0, str v0), (2, v2), (5, v5), (7, str y2_.1), (8, y2_.2)]))) := by kernel_rfl
@[go_sem] theorem c78_r28 (v0 : List UInt8) (v2 v5 : Addr) (v7 : List UInt8) (v8 : Int) : RP c78 28 [(0, str v0), (2, v2), (5, v5), (7, str v7), (8, v8)] K =
 (cnd (v8 != 0) (K [(2, v2), (5, v5), (99, true)]) (K [(2, v2), (5, v5), (99, .bool (!(v7 == v0)))])) := by kernel_rfl
@[go_sem] theorem c78_r29 (v2 : Addr) : RP c78 29 [(2, v2)] K =
 (stl [.int .i64 ((⟨(0 : Int), (0 : Int), (0 : Int), (0 : Int), (0 : Int), ([] : List UInt8), ([] : List UInt8), ([] : List UInt8), (0 : Int), (none, 0, 0), (none, 0, 0), (0 : Int), (0 : Int)⟩ : api_Rec).Kind), .int .i64 ((⟨(0 : Int), (0 : Int), (0 : Int), (0 : Int), (0 : Int), ([] : List UInt8), ([] : List UInt8), ([] : List UInt8), (0 : Int), (none, 0, 0), (none, 0, 0), (0 : Int), (0 : Int)⟩ : api_Rec).Txn), .int .i64 ((⟨(0 : Int), (0 : Int), (0 : Int), (0 : Int), (0 : Int), ([] : List UInt8), ([] : List UInt8), ([] : List UInt8), (0 : Int), (none, 0, 0), (none, 0, 0), (0 : Int), (0 : Int)⟩ : api_Rec).Prev), .int .i64 ((⟨(0 : Int), (0 : Int), (0 : Int), (0 : Int), (0 : Int), ([] : List UInt8), ([] : List UInt8), ([] : List UInt8), (0 : Int), (none, 0, 0), (none, 0, 0), (0 : Int), (0 : Int)⟩ : api_Rec).Page), .int .i64 ((⟨(0 : Int), (0 : Int), (0 : Int), (0 : Int), (0 : Int), ([] : List UInt8), ([] : List UInt8), ([] : List UInt8), (0 : Int), (none, 0, 0), (none, 0, 0), (0 : Int), (0 : Int)⟩ : api_Rec).Act), str ((⟨(0 : Int), (0 : Int), (0 : Int), (0 : Int), (0 : Int), ([] : List UInt8), ([] : List UInt8), ([] : List UInt8), (0 : Int), (none, 0, 0), (none, 0, 0), (0 : Int), (0 : Int)⟩ : api_Rec).Key), str ((⟨(0 : Int), (0 : Int), (0 : Int), (0 : Int), (0 : Int), ([] : List UInt8), ([] : List UInt8), ([] : List UInt8), (0 : Int), (none, 0, 0), (none, 0, 0), (0 : Int), (0 : Int)⟩ : api_Rec).Old), str ((⟨(0 : Int), (0 : Int), (0 : Int), (0 : Int), (0 : Int), ([] : List UInt8), ([] : List UInt8), ([] : List UInt8), (0 : Int), (none, 0, 0), (none, 0, 0), (0 : Int), (0 : Int)⟩ : api_Rec).New), .int .i64 ((⟨(0 : Int), (0 : Int), (0 : Int), (0 : Int), (0 : Int), ([] : List UInt8), ([] : List UInt8), ([] : List UInt8), (0 : Int), (none, 0, 0), (none, 0, 0), (0 : Int), (0 : Int)⟩ : api_Rec).Next), .slice (((⟨(0 : Int), (0 : Int), (0 : Int), (0 : Int), (0 : Int), ([] : List UInt8), ([] : List UInt8), ([] : List UInt8), (0 : Int), (none, 0, 0), (none, 0, 0), (0 : Int), (0 : Int)⟩ : api_Rec).Images).1) (((⟨(0 : Int), (0 : Int), (0 : Int), (0 : Int), (0 : Int), ([] : List UInt8), ([] : List UInt8), ([] : List UInt8), (0 : Int), (none, 0, 0), (none, 0, 0), (0 : Int), (0 : Int)⟩ : api_Rec).Images).2.1) (((⟨(0 : Int), (0 : Int), (0 : Int), (0 : Int), (0 : Int), ([] : List UInt8), ([] : List UInt8), ([] : List UInt8), (0 : Int), (none, 0, 0), (none, 0, 0), (0 : Int), (0 : Int)⟩ : api_Rec).Images).2.2), .slice (((⟨(0 : Int), (0 : Int), (0 : Int), (0 : Int), (0 : Int), ([] : List UInt8), ([] : List UInt8), ([] : List UInt8), (0 : Int), (none, 0, 0), (none, 0, 0), (0 : Int), (0 : Int)⟩ : api_Rec).Table).1) (((⟨(0 : Int), (0 : Int), (0 : Int), (0 : Int), (0 : Int), ([] : List UInt8), ([] : List UInt8), ([] : List UInt8), (0 : Int), (none, 0, 0), (none, 0, 0), (0 : Int), (0 : Int)⟩ : api_Rec).Table).2.1) (((⟨(0 : Int), (0 : Int), (0 : Int), (0 : Int), (0 : Int), ([] : List UInt8), ([] : List UInt8), ([] : List UInt8), (0 : Int), (none, 0, 0), (none, 0, 0), (0 : Int), (0 : Int)⟩ : api_Rec).Table).2.2), .int .i64 ((⟨(0 : Int), (0 : Int), (0 : Int), (0 : Int), (0 : Int), ([] : List UInt8), ([] : List UInt8), ([] : List UInt8), (0 : Int), (none, 0, 0), (none, 0, 0), (0 : Int), (0 : Int)⟩ : api_Rec).Epoch), .int .i64 ((⟨(0 : Int), (0 : Int), (0 : Int), (0 : Int), (0 : Int), ([] : List UInt8), ([] : List UInt8), ([] : List UInt8), (0 : Int), (none, 0, 0), (none, 0, 0), (0 : Int), (0 : Int)⟩ : api_Rec).Node)] v2 0 (K [(2, v2), (3, .int .i64 4)])) := by kernel_rfl
@[go_sem] theorem c78_r30 (v2 v5 : Addr) : RP c78 30 [(2, v2), (5, v5)] K =
 (ldn e_api_Rec 13 v5 fun (y1_ : api_Rec) => (stl [y1_.Kind, y1_.Txn, y1_.Prev, y1_.Page, y1_.Act, str y1_.Key, str y1_.Old, str y1_.New, y1_.Next, .slice y1_.Images.1 y1_.Images.2.1 y1_.Images.2.2, .slice y1_.Table.1 y1_.Table.2.1 y1_.Table.2.2, y1_.Epoch, y1_.Node] v2 0 (K [(2, v2), (3, .int .i64 0)]))) := by kernel_rfl
@[go_sem] theorem c78_o : c78.lo 1000000 = [2, 3] := rfl
@[go_sem] theorem c78_e (v2 : Addr) (v3 : Int) : RTp c78 [(2, v2), (3, v3)] k = (ldn e_api_Rec 13 v2 fun (y1_ : api_Rec) => (k (.tuple #[v_api_Rec y1_, v3]))) := by kernel_rfl
theorem c78_ok : (c78.P.follows .mixedOrders && okc c78 c78.body) = true := by kernel_rfl
theorem c78_fn (hρ : envA 0 args.toList = ρ) (hs : Nat.ble args.size 102 = true) (h : E L (D c78 (.seq (.reg 0) (.seq (.reg 1) (.seq (.reg 2) (.seq (.seq (.reg 3) (.cond (.tmp 16) (.seq (.reg 4) (.ret)) (.skip))) (.seq (.seq (.reg 5) (.block 0 (.seq (.seq (.reg 6) (.cond (.tmp 22) (.skip) (.reg 7))) (.cond (.tmp 22) (.reg 8) (.seq (.reg 9) (.cond (.tmp 28) (.seq (.reg 10) (.reg 11)) (.seq (.seq (.reg 12) (.cond (.tmp 46) (.skip) (.seq (.reg 13) (.cond (.tmp 46) (.skip) (.reg 14))))) (.cond (.tmp 46) (.seq (.reg 15) (.reg 16)) (.seq (.seq (.reg 17) (.cond (.tmp 60) (.skip) (.reg 18))) (.cond (.tmp 60) (.reg 19) (.seq (.reg 20) (.cond (.tmp 69) (.reg 21) (.seq (.reg 22) (.cond (.tmp 74) (.reg 23) (.skip))))))))))))))) (.seq (.seq (.reg 24) (.seq (.reg 25) (.cond (.tmp 85) (.seq (.reg 26) (.ret)) (.skip)))) (.seq (.seq (.reg 27) (.seq (.reg 28) (.cond (.tmp 99) (.seq (.reg 29) (.ret)) (.skip)))) (.seq (.reg 30) (.ret))))))))) (fnQ c78 e G) ρ)) : E L (cal e Tryz.prog 78 args G) :=
  d_fn (c := c78) Tryz.func78 (by kernel_rfl) (by kernel_rfl) (by kernel_rfl) c78_ok (by kernel_rfl) (by kernel_rfl) hρ hs h
noncomputable def c102 := cf Tryz.f102 23 [(0, [0]), (1, [0]), (2, [0, 3]), (3, [0, 3, 6, 7]), (4, [0, 3, 6, 7]), (5, [0, 3, 4, 6, 7]), (6, []), (7, [0, 3, 4, 6, 7]), (8, [0, 3, 6, 7]), (9, [3])] [(0, [0]), (1, [0, 3]), (2, [0, 3, 6, 7]), (3, [0, 3, 6, 7, 8]), (4, [0, 3, 4, 6, 7]), (5, [0, 3, 4, 6, 7, 16]), (6, [2]), (7, [0, 3, 6, 7]), (8, [0, 3, 6, 7]), (9, [2]), (1000000, [2])] [] []
@[go_sem] theorem c102_i : c102.li 0 = [0] ∧ c102.li 1 = [0] ∧ c102.li 2 = [0, 3] ∧ c102.li 3 = [0, 3, 6, 7] ∧ c102.li 4 = [0, 3, 6, 7] ∧ c102.li 5 = [0, 3, 4, 6, 7] ∧ c102.li 6 = [] ∧ c102.li 7 = [0, 3, 4, 6, 7] ∧ c102.li 8 = [0, 3, 6, 7] ∧ c102.li 9 = [3] := ⟨rfl, rfl, rfl, rfl, rfl, rfl, rfl, rfl, rfl, rfl⟩
@[go_sem] theorem c102_r0 (v0 : Option Addr) : RP c102 0 [(0, v0)] K =
 (K [(0, v0)]) := by kernel_rfl
@[go_sem] theorem c102_r1 (v0 : Option Addr) : RP c102 1 [(0, v0)] K =
 (K [(0, v0), (3, .slice none 0 0)]) := by kernel_rfl
@[go_sem] theorem c102_r2 (v0 v3p : Option Addr) (v3n v3c : Nat) : RP c102 2 [(0, v0), (3, .slice v3p v3n v3c)] K =
 (cal eI Tryz.prog 57 #[v0, .int .i64 1] fun (y1_ : Int) => (K [(0, v0), (3, .slice v3p v3n v3c), (6, y1_), (7, .int .i64 0)])) := by kernel_rfl
@[go_sem] theorem c102_r3 (v0 v3p : Option Addr) (v3n v3c : Nat) (v6 v7 : Int) : RP c102 3 [(0, v0), (3, .slice v3p v3n v3c), (6, v6), (7, v7)] K =
 (K [(0, v0), (3, .slice v3p v3n v3c), (6, v6), (7, v7), (8, decide (v7 < v6))]) := by kernel_rfl
@[go_sem] theorem c102_r4 (v0 v3p : Option Addr) (v3n v3c : Nat) (v6 v7 : Int) : RP c102 4 [(0, v0), (3, .slice v3p v3n v3c), (6, v6), (7, v7)] K =
 (cal eI Tryz.prog 57 #[v0, .int .i64 2] fun (y1_ : Int) => (cal eS Tryz.prog 129 #[v0, .int .i64 224] fun (y2_ : List UInt8) => (nwc #[.int .i64 0, str ([] : List UInt8)] 192 fun y3_ => (stl [.int .i64 ((⟨y1_, y2_⟩ : api_Image).Page), str ((⟨y1_, y2_⟩ : api_Image).Text)] y3_ 0 (K [(0, v0), (3, .slice v3p v3n v3c), (4, y3_), (6, v6), (7, v7)]))))) := by kernel_rfl
@[go_sem] theorem c102_r5 (v0 v3p : Option Addr) (v3n v3c : Nat) (v4 : Addr) (v6 v7 : Int) : RP c102 5 [(0, v0), (3, .slice v3p v3n v3c), (4, v4), (6, v6), (7, v7)] K =
 (cal eI Tryz.prog 101 #[v0] fun (y1_ : Int) => (K [(0, v0), (3, .slice v3p v3n v3c), (4, v4), (6, v6), (7, v7), (16, .bool (y1_ != 0))])) := by kernel_rfl
@[go_sem] theorem c102_r6 : RP c102 6 [] K =
 (K [(2, .slice none 0 0)]) := by kernel_rfl
@[go_sem] theorem c102_r7 (v0 v3p : Option Addr) (v3n v3c : Nat) (v4 : Addr) (v6 v7 : Int) : RP c102 7 [(0, v0), (3, .slice v3p v3n v3c), (4, v4), (6, v6), (7, v7)] K =
 (ldn e_api_Image 2 v4 fun (y1_ : api_Image) => (nwc #[y1_.Page, str y1_.Text] 192 fun y2_ => (val eSl Tryz.prog (oB_append #[45, 45] 45 #[.slice v3p v3n v3c, .slice (some y2_) 1 1]) fun (y3_ : (Option Addr × Nat × Nat)) => (K [(0, v0), (3, .slice y3_.1 y3_.2.1 y3_.2.2), (6, v6), (7, v7)])))) := by kernel_rfl
@[go_sem] theorem c102_r8 (v0 v3p : Option Addr) (v3n v3c : Nat) (v6 v7 : Int) : RP c102 8 [(0, v0), (3, .slice v3p v3n v3c), (6, v6), (7, v7)] K =
 (K [(0, v0), (3, .slice v3p v3n v3c), (6, v6), (7, IntKind.wrap .i64 (v7 + 1))]) := by kernel_rfl
@[go_sem] theorem c102_r9 (v3p : Option Addr) (v3n v3c : Nat) : RP c102 9 [(3, .slice v3p v3n v3c)] K =
 (K [(2, .slice v3p v3n v3c)]) := by kernel_rfl
@[go_sem] theorem c102_o : c102.lo 1000000 = [2] := rfl
@[go_sem] theorem c102_e (v2p : Option Addr) (v2n v2c : Nat) : RTp c102 [(2, .slice v2p v2n v2c)] k = (k (.slice v2p v2n v2c)) := by kernel_rfl
theorem c102_ok : (c102.P.follows .mixedOrders && okc c102 c102.body) = true := by kernel_rfl
theorem c102_fn (hρ : envA 0 args.toList = ρ) (hs : Nat.ble args.size 23 = true) (h : E L (D c102 (.seq (.reg 0) (.seq (.reg 1) (.seq (.seq (.reg 2) (.block 0 (.loop (.seq (.reg 3) (.seq (.cond (.tmp 8) (.skip) (.exit 0)) (.seq (.block 1 (.seq (.reg 4) (.seq (.seq (.reg 5) (.cond (.tmp 16) (.seq (.reg 6) (.ret)) (.skip))) (.reg 7)))) (.reg 8))))))) (.seq (.reg 9) (.ret))))) (fnQ c102 e G) ρ)) : E L (cal e Tryz.prog 102 args G) :=
  d_fn (c := c102) Tryz.func102 (by kernel_rfl) (by kernel_rfl) (by kernel_rfl) c102_ok (by kernel_rfl) (by kernel_rfl) hρ hs h
noncomputable def c103 := cf Tryz.f103 30 [(0, [0, 1, 2]), (1, [0, 1, 2]), (2, [0, 1, 2]), (3, [0, 1, 2]), (4, [0, 1, 2]), (5, [0, 1])] [(0, [0, 1, 2]), (1, [0, 1, 2]), (2, [0, 1, 2, 17]), (3, [0, 1, 2]), (4, [0, 1, 24]), (5, []), (1000000, [])] [] []
@[go_sem] theorem c103_i : c103.li 0 = [0, 1, 2] ∧ c103.li 1 = [0, 1, 2] ∧ c103.li 2 = [0, 1, 2] ∧ c103.li 3 = [0, 1, 2] ∧ c103.li 4 = [0, 1, 2] ∧ c103.li 5 = [0, 1] := ⟨rfl, rfl, rfl, rfl, rfl, rfl⟩
@[go_sem] theorem c103_r0 (v0 v1 : Option Addr) (v2 : Int) : RP c103 0 [(0, v0), (1, v1), (2, v2)] K =
 (cal eI Tryz.prog 57 #[v0, .int .i64 2] fun (y1_ : Int) => (nn v1 fun y2_ => (st (y2_.add 3) (y1_) (K [(0, v0), (1, v1), (2, v2)])))) := by kernel_rfl
@[go_sem] theorem c103_r1 (v0 v1 : Option Addr) (v2 : Int) : RP c103 1 [(0, v0), (1, v1), (2, v2)] K =
 (cal eS Tryz.prog 129 #[v0, .int .i64 16] fun (y1_ : List UInt8) => (nn v1 fun y2_ => (st (y2_.add 5) (str y1_) (K [(0, v0), (1, v1), (2, v2)])))) := by kernel_rfl
@[go_sem] theorem c103_r2 (v0 v1 : Option Addr) (v2 : Int) : RP c103 2 [(0, v0), (1, v1), (2, v2)] K =
 (K [(0, v0), (1, v1), (2, v2), (17, .bool (v2 != 3))]) := by kernel_rfl
@[go_sem] theorem c103_r3 (v0 v1 : Option Addr) (v2 : Int) : RP c103 3 [(0, v0), (1, v1), (2, v2)] K =
 (cal eS Tryz.prog 129 #[v0, .int .i64 32] fun (y1_ : List UInt8) => (nn v1 fun y2_ => (st (y2_.add 6) (str y1_) (K [(0, v0), (1, v1), (2, v2)])))) := by kernel_rfl
@[go_sem] theorem c103_r4 (v0 v1 : Option Addr) (v2 : Int) : RP c103 4 [(0, v0), (1, v1), (2, v2)] K =
 (K [(0, v0), (1, v1), (24, .bool (v2 != 4))]) := by kernel_rfl
@[go_sem] theorem c103_r5 (v0 v1 : Option Addr) : RP c103 5 [(0, v0), (1, v1)] K =
 (cal eS Tryz.prog 129 #[v0, .int .i64 32] fun (y1_ : List UInt8) => (nn v1 fun y2_ => (st (y2_.add 7) (str y1_) (K [])))) := by kernel_rfl
@[go_sem] theorem c103_o : c103.lo 1000000 = [] := rfl
@[go_sem] theorem c103_e : RTp c103 [] k = (k (.tuple #[])) := by kernel_rfl
theorem c103_ok : (c103.P.follows .mixedOrders && okc c103 c103.body) = true := by kernel_rfl
theorem c103_fn (hρ : envA 0 args.toList = ρ) (hs : Nat.ble args.size 30 = true) (h : E L (D c103 (.seq (.reg 0) (.seq (.reg 1) (.seq (.seq (.reg 2) (.cond (.tmp 17) (.reg 3) (.skip))) (.seq (.reg 4) (.cond (.tmp 24) (.reg 5) (.skip)))))) (fnQ c103 e G) ρ)) : E L (cal e Tryz.prog 103 args G) :=
  d_fn (c := c103) Tryz.func103 (by kernel_rfl) (by kernel_rfl) (by kernel_rfl) c103_ok (by kernel_rfl) (by kernel_rfl) hρ hs h
noncomputable def c104 := cf Tryz.f104 18 [(0, [0]), (1, [0]), (2, [0, 3]), (3, [0, 3, 5, 6]), (4, [0, 3, 5, 6]), (5, [0, 3, 5, 6]), (6, [3])] [(0, [0]), (1, [0, 3]), (2, [0, 3, 5, 6]), (3, [0, 3, 5, 6, 7]), (4, [0, 3, 5, 6]), (5, [0, 3, 5, 6]), (6, [2]), (1000000, [2])] [] []
@[go_sem] theorem c104_i : c104.li 0 = [0] ∧ c104.li 1 = [0] ∧ c104.li 2 = [0, 3] ∧ c104.li 3 = [0, 3, 5, 6] ∧ c104.li 4 = [0, 3, 5, 6] ∧ c104.li 5 = [0, 3, 5, 6] ∧ c104.li 6 = [3] := ⟨rfl, rfl, rfl, rfl, rfl, rfl, rfl⟩
@[go_sem] theorem c104_r0 (v0 : Option Addr) : RP c104 0 [(0, v0)] K =
 (K [(0, v0)]) := by kernel_rfl
@[go_sem] theorem c104_r1 (v0 : Option Addr) : RP c104 1 [(0, v0)] K =
 (K [(0, v0), (3, .slice none 0 0)]) := by kernel_rfl
@[go_sem] theorem c104_r2 (v0 v3p : Option Addr) (v3n v3c : Nat) : RP c104 2 [(0, v0), (3, .slice v3p v3n v3c)] K =
 (cal eI Tryz.prog 57 #[v0, .int .i64 1] fun (y1_ : Int) => (K [(0, v0), (3, .slice v3p v3n v3c), (5, y1_), (6, .int .i64 0)])) := by kernel_rfl
@[go_sem] theorem c104_r3 (v0 v3p : Option Addr) (v3n v3c : Nat) (v5 v6 : Int) : RP c104 3 [(0, v0), (3, .slice v3p v3n v3c), (5, v5), (6, v6)] K =
 (K [(0, v0), (3, .slice v3p v3n v3c), (5, v5), (6, v6), (7, decide (v6 < v5))]) := by kernel_rfl
@[go_sem] theorem c104_r4 (v0 v3p : Option Addr) (v3n v3c : Nat) (v5 v6 : Int) : RP c104 4 [(0, v0), (3, .slice v3p v3n v3c), (5, v5), (6, v6)] K =
 (cal eI Tryz.prog 57 #[v0, .int .i64 6] fun (y1_ : Int) => (cal eI Tryz.prog 57 #[v0, .int .i64 6] fun (y2_ : Int) => (nwc #[.int .i64 ((⟨y1_, y2_⟩ : api_Active).Txn), .int .i64 ((⟨y1_, y2_⟩ : api_Active).Last)] 40 fun y3_ => (val eSl Tryz.prog (oB_append #[35, 35] 35 #[.slice v3p v3n v3c, .slice (some y3_) 1 1]) fun (y4_ : (Option Addr × Nat × Nat)) => (K [(0, v0), (3, .slice y4_.1 y4_.2.1 y4_.2.2), (5, v5), (6, v6)]))))) := by kernel_rfl
@[go_sem] theorem c104_r5 (v0 v3p : Option Addr) (v3n v3c : Nat) (v5 v6 : Int) : RP c104 5 [(0, v0), (3, .slice v3p v3n v3c), (5, v5), (6, v6)] K =
 (K [(0, v0), (3, .slice v3p v3n v3c), (5, v5), (6, IntKind.wrap .i64 (v6 + 1))]) := by kernel_rfl
@[go_sem] theorem c104_r6 (v3p : Option Addr) (v3n v3c : Nat) : RP c104 6 [(3, .slice v3p v3n v3c)] K =
 (K [(2, .slice v3p v3n v3c)]) := by kernel_rfl
@[go_sem] theorem c104_o : c104.lo 1000000 = [2] := rfl
@[go_sem] theorem c104_e (v2p : Option Addr) (v2n v2c : Nat) : RTp c104 [(2, .slice v2p v2n v2c)] k = (k (.slice v2p v2n v2c)) := by kernel_rfl
theorem c104_ok : (c104.P.follows .mixedOrders && okc c104 c104.body) = true := by kernel_rfl
theorem c104_fn (hρ : envA 0 args.toList = ρ) (hs : Nat.ble args.size 18 = true) (h : E L (D c104 (.seq (.reg 0) (.seq (.reg 1) (.seq (.seq (.reg 2) (.block 0 (.loop (.seq (.reg 3) (.seq (.cond (.tmp 7) (.skip) (.exit 0)) (.seq (.block 1 (.reg 4)) (.reg 5))))))) (.seq (.reg 6) (.ret))))) (fnQ c104 e G) ρ)) : E L (cal e Tryz.prog 104 args G) :=
  d_fn (c := c104) Tryz.func104 (by kernel_rfl) (by kernel_rfl) (by kernel_rfl) c104_ok (by kernel_rfl) (by kernel_rfl) hρ hs h
end Go.Sp
namespace Go.Sp
open Go Go.Proofs
set_option linter.unusedSimpArgs false
set_option linter.unusedVariables false
set_option maxRecDepth 10000
def Rd.left (R : Rd) : Int := if R.e = 0 then (R.s.length : Int) - R.a else 0
theorem g134 (R : Rd) (hl : R.s.length ≤ 4611686018427387904) (ha : R.a ≤ R.s.length) : Fp eI Tryz.prog 130 #[.pointer (some ⟨R.b, 0, none⟩)] (rdl R) R.left := fun L => by
  obtain ⟨b, s, a, e⟩ := R
  dsimp only at hl ha
  unfold Rd.left
  dsimp only
  refine c130_fn rfl rfl ?_
  by_cases h : e = 0
  · subst h
    rw [if_pos rfl]
    repeat' (first | (with_reducible first | refine d_seq fun K hK => ?_ | (refine hK _ _ ?_; clear hK K) | (refine SG.p ?_; try intro b)) | refine i_c ?_ ?_ <;> intro hc <;> try simp only [push_cast, seval] at hc | refine i_x ?_ | clear hK K)
    refine i_clp (f88 ⟨b, s, a, 0⟩) ?_
    repeat' (first | (with_reducible first | refine d_seq fun K hK => ?_ | (refine hK _ _ ?_; clear hK K) | (refine SG.p ?_; try intro b) | refine SP.p ?_) | refine i_c ?_ ?_ <;> intro hc <;> try simp only [push_cast, seval] at hc | refine i_x ?_ | clear hK K)
    all_goals try (first | contradiction | (simp only [ reduceCtorEq] at *; done) | (exfalso; omega))
    (with_reducible first | apply i_ret0 | apply i_ret2 | apply i_ret3 | apply i_ret); exact rfl
    exact w64 (by omega) (by omega)
  · rw [if_neg h]
    repeat' (first | (with_reducible first | refine d_seq fun K hK => ?_ | (refine hK _ _ ?_; clear hK K) | (refine SG.p ?_; try intro b)) | refine i_c ?_ ?_ <;> intro hc <;> try simp only [push_cast, seval] at hc | refine i_x ?_ | clear hK K)
    refine i_clp (f88 ⟨b, s, a, e⟩) ?_
    repeat' (first | (with_reducible first | refine d_seq fun K hK => ?_ | (refine hK _ _ ?_; clear hK K) | (refine SG.p ?_; try intro b) | refine SP.p ?_) | refine i_c ?_ ?_ <;> intro hc <;> try simp only [push_cast, seval] at hc | refine i_x ?_ | clear hK K)
    all_goals try (first | contradiction | (simp only [ reduceCtorEq] at *; done) | (exfalso; omega))
    (with_reducible first | apply i_ret0 | apply i_ret2 | apply i_ret3 | apply i_ret); exact rfl
    rfl
def Rd.fin (R : Rd) : Rd := if 0 < R.left then R.fail 4 else R
theorem Rd.fail_b (R : Rd) (x : Int) : (R.fail x).b = R.b := by unfold Rd.fail; split <;> rfl
theorem g119 (R : Rd) (hl : R.s.length ≤ 4611686018427387904) (ha : R.a ≤ R.s.length) : Fq eI Tryz.prog 105 #[.pointer (some ⟨R.b, 0, none⟩)] (rdl R) (rdl R.fin) R.fin.e := fun L => by
  have F := g134 R hl ha
  have G := f89 R 4
  have hb := R.fail_b 4
  unfold Rd.fin
  refine c105_fn rfl rfl ?_
  generalize R.left = n at *
  by_cases h : 0 < n
  · rw [if_pos h]
    generalize R.fail 4 = R' at *
    rw [← hb] at F G ⊢
    repeat' (first | (with_reducible first | refine d_seq fun K hK => ?_ | (refine hK _ _ ?_; clear hK K) | (refine SG.p ?_; try intro b)) | refine i_c ?_ ?_ <;> intro hc <;> try simp only [push_cast, seval] at hc | refine i_x ?_ | clear hK K)
    refine i_clp F ?_
    repeat' (first | (with_reducible first | refine d_seq fun K hK => ?_ | (refine hK _ _ ?_; clear hK K) | (refine SG.p ?_; try intro b)) | refine i_c ?_ ?_ <;> intro hc <;> try simp only [push_cast, seval] at hc | refine i_x ?_ | clear hK K)
    all_goals try (first | contradiction | (simp only [ reduceCtorEq] at *; done) | (exfalso; omega))
    refine i_clq G ?_
    repeat' (first | (with_reducible first | refine d_seq fun K hK => ?_ | (refine hK _ _ ?_; clear hK K) | (refine SG.p ?_; try intro b)) | refine i_c ?_ ?_ <;> intro hc <;> try simp only [push_cast, seval] at hc | refine i_x ?_ | clear hK K)
    refine i_clp (f74 R') ?_
    repeat' (first | (with_reducible first | refine d_seq fun K hK => ?_ | (refine hK _ _ ?_; clear hK K) | (refine SG.p ?_; try intro b)) | refine i_c ?_ ?_ <;> intro hc <;> try simp only [push_cast, seval] at hc | refine i_x ?_ | clear hK K)
    (with_reducible first | apply i_ret0 | apply i_ret2 | apply i_ret3 | apply i_ret); exact rfl
    rfl
  · rw [if_neg h]
    repeat' (first | (with_reducible first | refine d_seq fun K hK => ?_ | (refine hK _ _ ?_; clear hK K) | (refine SG.p ?_; try intro b)) | refine i_c ?_ ?_ <;> intro hc <;> try simp only [push_cast, seval] at hc | refine i_x ?_ | clear hK K)
    refine i_clp F ?_
    repeat' (first | (with_reducible first | refine d_seq fun K hK => ?_ | (refine hK _ _ ?_; clear hK K) | (refine SG.p ?_; try intro b)) | refine i_c ?_ ?_ <;> intro hc <;> try simp only [push_cast, seval] at hc | refine i_x ?_ | clear hK K)
    all_goals try (first | contradiction | (simp only [ reduceCtorEq] at *; done) | (exfalso; omega))
    refine i_clp (f74 R) ?_
    repeat' (first | (with_reducible first | refine d_seq fun K hK => ?_ | (refine hK _ _ ?_; clear hK K) | (refine SG.p ?_; try intro b)) | refine i_c ?_ ?_ <;> intro hc <;> try simp only [push_cast, seval] at hc | refine i_x ?_ | clear hK K)
    (with_reducible first | apply i_ret0 | apply i_ret2 | apply i_ret3 | apply i_ret); exact rfl
    rfl
structure Rd.in (R : Rd) (b : Nat) (s : List UInt8) : Prop where
  b : R.b = b
  s : R.s = s
  a : R.a ≤ R.s.length
theorem Rd.in.raw {R : Rd} {b : Nat} {s : List UInt8} (h : R.in b s) (n : Int) : (R.raw n).2.in b s := by
  obtain ⟨h1, h2, h3⟩ := Rd.raw_a n h.a
  exact ⟨h3.trans h.b, h2.trans h.s, h1⟩
theorem Rd.in.fail {R : Rd} {b : Nat} {s : List UInt8} (h : R.in b s) (x : Int) : (R.fail x).in b s := by
  unfold Rd.fail
  split
  · exact ⟨h.b, h.s, h.a⟩
  · exact h
theorem Rd.in.text {R : Rd} {b : Nat} {s : List UInt8} (h : R.in b s) (n : Int) : (R.text n).2.in b s := by
  unfold Rd.text
  split
  · exact ((h.raw 2).fail 3).raw _
  · exact (h.raw 2).raw _
theorem rN {R : Rd} {b : Nat} {s : List UInt8} (h : R.in b s) (w : Int) (h1 : 1 ≤ w) (h6 : w ≤ 6) (hl : s.length ≤ 4611686018427387904) : Fq eI Tryz.prog 57 #[.pointer (some ⟨b, 0, none⟩), .int .i64 w] (rdl R) (rdl (R.raw w).2) (be (R.raw w).1 : Int) := by
  have := f75 R w h1 h6 (by rw [h.s]; exact hl) h.a
  rw [h.b] at this
  exact this
theorem rT {R : Rd} {b : Nat} {s : List UInt8} (h : R.in b s) (m : Int) (hl : s.length ≤ 4611686018427387904) : Fq eS Tryz.prog 129 #[.pointer (some ⟨b, 0, none⟩), .int .i64 m] (rdl R) (rdl (R.text m).2) (R.text m).1 := by
  have := f73 R m (by rw [h.s]; exact hl) h.a
  rw [h.b] at this
  exact this
theorem rE {R : Rd} {b : Nat} {s : List UInt8} (h : R.in b s) : Fp eI Tryz.prog 101 #[.pointer (some ⟨b, 0, none⟩)] (rdl R) R.e := by
  have := f74 R
  rw [h.b] at this
  exact this
theorem rF {R : Rd} {b : Nat} {s : List UInt8} (h : R.in b s) (hl : s.length ≤ 4611686018427387904) : Fq eI Tryz.prog 105 #[.pointer (some ⟨b, 0, none⟩)] (rdl R) (rdl R.fin) R.fin.e := by
  have := g119 R (by rw [h.s]; exact hl) h.a
  rw [h.b] at this
  exact this
theorem num1 (R : Rd) : be (R.raw 1).1 ≤ 255 := by
  have h := R.raw_len 1
  have hb := be_lt (R.raw 1).1
  have h2 : 256 ^ (R.raw 1).1.length ≤ 256 ^ 1 := Nat.pow_le_pow_right (by decide) (by omega)
  omega
def rim : Nat → Rd → List api_Image → List api_Image × Rd
  | 0, R, l => (l, R)
  | k + 1, R, l => if (((R.raw 2).2.text 224).2.e) = 0 then rim k ((R.raw 2).2.text 224).2 (l ++ [⟨be (R.raw 2).1, ((R.raw 2).2.text 224).1⟩]) else ([], ((R.raw 2).2.text 224).2)
def rtb : Nat → Rd → List api_Active → List api_Active × Rd
  | 0, R, l => (l, R)
  | k + 1, R, l => rtb k ((R.raw 6).2.raw 6).2 (l ++ [⟨be (R.raw 6).1, be ((R.raw 6).2.raw 6).1⟩])
theorem rim_len : ∀ (k : Nat) (R : Rd) (l : List api_Image), (rim k R l).1.length ≤ k + l.length
  | 0, R, l => by simp [rim]
  | k + 1, R, l => by
    unfold rim
    split
    · have := rim_len k ((R.raw 2).2.text 224).2 (l ++ [⟨be (R.raw 2).1, ((R.raw 2).2.text 224).1⟩])
      rw [List.length_append] at this
      simp only [List.length_cons, List.length_nil] at this
      omega
    · simp
theorem rtb_len : ∀ (k : Nat) (R : Rd) (l : List api_Active), (rtb k R l).1.length ≤ k + l.length
  | 0, R, l => by simp [rtb]
  | k + 1, R, l => by
    unfold rtb
    have := rtb_len k ((R.raw 6).2.raw 6).2 (l ++ [⟨be (R.raw 6).1, be ((R.raw 6).2.raw 6).1⟩])
    rw [List.length_append] at this
    simp only [List.length_cons, List.length_nil] at this
    omega
theorem rim_in {b : Nat} {s : List UInt8} : ∀ (k : Nat) (R : Rd) (l : List api_Image), R.in b s → (rim k R l).2.in b s
  | 0, R, l, h => h
  | k + 1, R, l, h => by
    unfold rim
    split
    · exact rim_in k _ _ ((h.raw 2).text 224)
    · exact (h.raw 2).text 224
theorem rtb_in {b : Nat} {s : List UInt8} : ∀ (k : Nat) (R : Rd) (l : List api_Active), R.in b s → (rtb k R l).2.in b s
  | 0, R, l, h => h
  | k + 1, R, l, h => by
    unfold rtb
    exact rtb_in k _ _ ((h.raw 6).raw 6)
set_option maxHeartbeats 1000000 in
theorem g116 {R : Rd} {b : Nat} {s : List UInt8} (h : R.in b s) (hl : s.length ≤ 4611686018427387904) : Fn eSl Tryz.prog 102 #[.pointer (some ⟨b, 0, none⟩)] (rdl R) fun y X =>
    X = ow 192 2 y ((rim (be (R.raw 1).1) (R.raw 1).2 []).1.flatMap cImg) :: rdl (rim (be (R.raw 1).1) (R.raw 1).2 []).2 := fun L => by
  have hn := num1 R
  have h1 := h.raw 1
  have F := rN h 1 (by decide) (by decide) hl
  generalize be (R.raw 1).1 = n at *
  generalize (R.raw 1).2 = R1 at *
  refine c102_fn rfl rfl ?_
  repeat' (first | (with_reducible first | refine d_seq fun K hK => ?_ | (refine hK _ _ ?_; clear hK K) | (refine SG.p ?_; try intro b)) | refine i_c ?_ ?_ <;> intro hc <;> try simp only [push_cast, seval] at hc | refine i_x ?_ | clear hK K)
  refine i_clq F ?_
  repeat' (first | (with_reducible first | refine d_seq fun K hK => ?_ | (refine hK _ _ ?_; clear hK K) | (refine SG.p ?_; try intro b)) | refine i_c ?_ ?_ <;> intro hc <;> try simp only [push_cast, seval] at hc | refine i_x ?_ | clear hK K)
  refine r_nilow 192 2 ?_
  refine d_lp [0, 3, 6, 7] (fun t : Nat × SlV × Rd × List api_Image => [(0, .pointer (some ⟨b, 0, none⟩)), (3, .slice t.2.1.1 t.2.1.2.1 t.2.1.2.2), (6, .int .i64 (n : Int)), (7, .int .i64 (t.1 : Int))])
    (fun t => ow 192 2 t.2.1 (t.2.2.2.flatMap cImg) :: (rdl t.2.2.1 ++ L)) (fun t => t.1 ≤ n ∧ t.2.2.1.in b s ∧ rim (n - t.1) t.2.2.1 t.2.2.2 = rim n R1 [] ∧ t.2.1.2.1 ≤ t.1) (fun t => n - t.1) (0, (none, 0, 0), R1, []) rfl ?_ ⟨by dsimp only; omega, h1, rfl, by dsimp only; omega⟩ ?_
  · show Sub (ow 192 2 (none, 0, 0) [] :: (rdl R1 ++ L)) _
    exact SX.p
  rintro ⟨i, ⟨p, pn, pc⟩, Q, l⟩ ⟨hi, hQ, hr, hp⟩
  dsimp only at hi hQ hr hp ⊢
  repeat' (first | (with_reducible first | refine d_seq fun K hK => ?_ | (refine hK _ _ ?_; clear hK K) | (refine SG.p ?_; try intro b)) | refine i_c ?_ ?_ <;> intro hc <;> try simp only [push_cast, seval] at hc | refine i_x ?_ | clear hK K)
  · obtain ⟨k, hk⟩ : ∃ k, n - i = k + 1 := ⟨n - i - 1, by omega⟩
    rw [hk] at hr
    rw [show rim (k + 1) Q l = if (((Q.raw 2).2.text 224).2.e) = 0 then rim k ((Q.raw 2).2.text 224).2 (l ++ [⟨be (Q.raw 2).1, ((Q.raw 2).2.text 224).1⟩]) else ([], ((Q.raw 2).2.text 224).2) from rfl] at hr
    have F2 := rN hQ 2 (by decide) (by decide) hl
    have hQ2 := hQ.raw 2
    generalize be (Q.raw 2).1 = pg at *
    generalize (Q.raw 2).2 = Q2 at *
    have F3 := rT hQ2 224 hl
    have hQ3 := hQ2.text 224
    generalize Q2.text 224 = T at *
    obtain ⟨t, Q3⟩ := T
    dsimp only at hr F3 hQ3
    refine i_clq F2 ?_
    refine i_clq F3 ?_
    repeat' (first | (with_reducible first | refine d_seq fun K hK => ?_ | (refine hK _ _ ?_; clear hK K) | (refine SG.p ?_; try intro b)) | refine i_c ?_ ?_ <;> intro hc <;> try simp only [push_cast, seval] at hc | refine i_x ?_ | clear hK K)
    refine i_clp (rE hQ3) ?_
    repeat' (first | (with_reducible first | refine d_seq fun K hK => ?_ | (refine hK _ _ ?_; clear hK K) | (refine SG.p ?_; try intro b)) | refine i_c ?_ ?_ <;> intro hc <;> try simp only [push_cast, seval] at hc | refine i_x ?_ | clear hK K)
    · have he : ¬ Q3.e = 0 := by simpa using hc
      rw [if_neg he] at hr
      rw [← hr]
      refine r_nilow 192 2 ?_
      exact i_done (e := eSl) (none, 0, 0) (ow 192 2 (none, 0, 0) [] :: rdl Q3) rfl rfl
    · have he : Q3.e = 0 := by simpa using hc
      rw [if_pos he] at hr
      repeat' (first | (with_reducible first | refine d_seq fun K hK => ?_ | (refine hK _ _ ?_; clear hK K) | (refine SG.p ?_; try intro b)) | refine i_c ?_ ?_ <;> intro hc <;> try simp only [push_cast, seval] at hc | refine i_x ?_ | clear hK K)
      refine i_ldn (e := e_api_Image) (x := ⟨(pg : Int), t⟩) rfl rfl rfl ?_
      repeat' (first | (with_reducible first | refine d_seq fun K hK => ?_ | (refine hK _ _ ?_; clear hK K) | (refine SG.p ?_; try intro b)) | refine i_c ?_ ?_ <;> intro hc <;> try simp only [push_cast, seval] at hc | refine i_x ?_ | clear hK K)
      refine i_app (t := 192) (sz := 2) (m := 1) (news := [.int .i64 (pg : Int), str t]) (p, pn, pc) 24 (by kernel_rfl) (by decide) rfl rfl (by dsimp only; omega) fun o' ho' _ => ?_
      have e : l.flatMap cImg ++ [.int .i64 (pg : Int), str t] = (l ++ [(⟨(pg : Int), t⟩ : api_Image)]).flatMap cImg := by simp
      rw [e]
      repeat' (first | (with_reducible first | refine d_seq fun K hK => ?_ | (refine hK _ _ ?_; clear hK K) | (refine SG.p ?_; try intro b)) | refine i_c ?_ ?_ <;> intro hc <;> try simp only [push_cast, seval] at hc | refine i_x ?_ | clear hK K)
      rw [w64 (by omega) (by omega)]
      exact i_bk (i + 1, o', Q3, l ++ [⟨(pg : Int), t⟩]) rfl ⟨by dsimp only; omega, hQ3, by dsimp only; rw [show n - (i + 1) = k by omega]; exact hr, by dsimp only at ho' ⊢; omega⟩ (by dsimp only; omega)
  · obtain rfl : i = n := by omega
    rw [Nat.sub_self, show rim 0 Q l = (l, Q) from rfl] at hr
    rw [← hr]
    exact i_done (e := eSl) (p, pn, pc) (ow 192 2 (p, pn, pc) (l.flatMap cImg) :: rdl Q) rfl rfl
set_option maxHeartbeats 1000000 in
theorem g118 {R : Rd} {b : Nat} {s : List UInt8} (h : R.in b s) (hl : s.length ≤ 4611686018427387904) : Fn eSl Tryz.prog 104 #[.pointer (some ⟨b, 0, none⟩)] (rdl R) fun y X =>
    X = ow 40 2 y ((rtb (be (R.raw 1).1) (R.raw 1).2 []).1.flatMap cAct) :: rdl (rtb (be (R.raw 1).1) (R.raw 1).2 []).2 := fun L => by
  have hn := num1 R
  have h1 := h.raw 1
  have F := rN h 1 (by decide) (by decide) hl
  generalize be (R.raw 1).1 = n at *
  generalize (R.raw 1).2 = R1 at *
  refine c104_fn rfl rfl ?_
  repeat' (first | (with_reducible first | refine d_seq fun K hK => ?_ | (refine hK _ _ ?_; clear hK K) | (refine SG.p ?_; try intro b)) | refine i_c ?_ ?_ <;> intro hc <;> try simp only [push_cast, seval] at hc | refine i_x ?_ | clear hK K)
  refine i_clq F ?_
  repeat' (first | (with_reducible first | refine d_seq fun K hK => ?_ | (refine hK _ _ ?_; clear hK K) | (refine SG.p ?_; try intro b)) | refine i_c ?_ ?_ <;> intro hc <;> try simp only [push_cast, seval] at hc | refine i_x ?_ | clear hK K)
  refine r_nilow 40 2 ?_
  refine d_lp [0, 3, 5, 6] (fun t : Nat × SlV × Rd × List api_Active => [(0, .pointer (some ⟨b, 0, none⟩)), (3, .slice t.2.1.1 t.2.1.2.1 t.2.1.2.2), (5, .int .i64 (n : Int)), (6, .int .i64 (t.1 : Int))])
    (fun t => ow 40 2 t.2.1 (t.2.2.2.flatMap cAct) :: (rdl t.2.2.1 ++ L)) (fun t => t.1 ≤ n ∧ t.2.2.1.in b s ∧ rtb (n - t.1) t.2.2.1 t.2.2.2 = rtb n R1 [] ∧ t.2.1.2.1 ≤ t.1) (fun t => n - t.1) (0, (none, 0, 0), R1, []) rfl ?_ ⟨by dsimp only; omega, h1, rfl, by dsimp only; omega⟩ ?_
  · show Sub (ow 40 2 (none, 0, 0) [] :: (rdl R1 ++ L)) _
    exact SX.p
  rintro ⟨i, ⟨p, pn, pc⟩, Q, l⟩ ⟨hi, hQ, hr, hp⟩
  dsimp only at hi hQ hr hp ⊢
  repeat' (first | (with_reducible first | refine d_seq fun K hK => ?_ | (refine hK _ _ ?_; clear hK K) | (refine SG.p ?_; try intro b)) | refine i_c ?_ ?_ <;> intro hc <;> try simp only [push_cast, seval] at hc | refine i_x ?_ | clear hK K)
  · obtain ⟨k, hk⟩ : ∃ k, n - i = k + 1 := ⟨n - i - 1, by omega⟩
    rw [hk] at hr
    rw [show rtb (k + 1) Q l = rtb k ((Q.raw 6).2.raw 6).2 (l ++ [⟨be (Q.raw 6).1, be ((Q.raw 6).2.raw 6).1⟩]) from rfl] at hr
    have F2 := rN hQ 6 (by decide) (by decide) hl
    have hQ2 := hQ.raw 6
    generalize be (Q.raw 6).1 = x1 at *
    generalize (Q.raw 6).2 = Q2 at *
    have F3 := rN hQ2 6 (by decide) (by decide) hl
    have hQ3 := hQ2.raw 6
    generalize be (Q2.raw 6).1 = x2 at *
    generalize (Q2.raw 6).2 = Q3 at *
    refine i_clq F2 ?_
    refine i_clq F3 ?_
    repeat' (first | (with_reducible first | refine d_seq fun K hK => ?_ | (refine hK _ _ ?_; clear hK K) | (refine SG.p ?_; try intro b)) | refine i_c ?_ ?_ <;> intro hc <;> try simp only [push_cast, seval] at hc | refine i_x ?_ | clear hK K)
    refine i_app (t := 40) (sz := 2) (m := 1) (news := [.int .i64 (x1 : Int), .int .i64 (x2 : Int)]) (p, pn, pc) 16 (by kernel_rfl) (by decide) rfl rfl (by dsimp only; omega) fun o' ho' _ => ?_
    have e : l.flatMap cAct ++ [.int .i64 (x1 : Int), .int .i64 (x2 : Int)] = (l ++ [(⟨(x1 : Int), (x2 : Int)⟩ : api_Active)]).flatMap cAct := by simp
    rw [e]
    repeat' (first | (with_reducible first | refine d_seq fun K hK => ?_ | (refine hK _ _ ?_; clear hK K) | (refine SG.p ?_; try intro b)) | refine i_c ?_ ?_ <;> intro hc <;> try simp only [push_cast, seval] at hc | refine i_x ?_ | clear hK K)
    rw [w64 (by omega) (by omega)]
    exact i_bk (i + 1, o', Q3, l ++ [⟨(x1 : Int), (x2 : Int)⟩]) rfl ⟨by dsimp only; omega, hQ3, by dsimp only; rw [show n - (i + 1) = k by omega]; exact hr, by dsimp only at ho' ⊢; omega⟩ (by dsimp only; omega)
  · obtain rfl : i = n := by omega
    rw [Nat.sub_self, show rtb 0 Q l = (l, Q) from rfl] at hr
    rw [← hr]
    exact i_done (e := eSl) (p, pn, pc) (ow 40 2 (p, pn, pc) (l.flatMap cAct) :: rdl Q) rfl rfl
def rcK (R : Rd) : List UInt8 × Rd := (R.raw 2).2.text 16
def rcO (R : Rd) (act : Int) : List UInt8 × Rd := if act = 3 then ([], (rcK R).2) else (rcK R).2.text 32
def rcN (R : Rd) (act : Int) : List UInt8 × Rd := if act = 4 then ([], (rcO R act).2) else (rcO R act).2.text 32
theorem rcK_in {R : Rd} {b : Nat} {s : List UInt8} (h : R.in b s) : (rcK R).2.in b s := (h.raw 2).text 16
theorem rcO_in {R : Rd} {b : Nat} {s : List UInt8} (h : R.in b s) (act : Int) : (rcO R act).2.in b s := by
  unfold rcO
  split
  · exact rcK_in h
  · exact (rcK_in h).text 32
theorem rcN_in {R : Rd} {b : Nat} {s : List UInt8} (h : R.in b s) (act : Int) : (rcN R act).2.in b s := by
  unfold rcN
  split
  · exact rcO_in h act
  · exact (rcO_in h act).text 32
theorem g117 {R : Rd} {b : Nat} {s : List UInt8} (h : R.in b s) (hl : s.length ≤ 4611686018427387904) (q : Nat) (k t p a n act : Int) :
    Fq eN Tryz.prog 103 #[.pointer (some ⟨b, 0, none⟩), .pointer (some ⟨q, 0, none⟩), .int .i64 act] (ar q 47 (rcl ⟨k, t, p, 0, a, [], [], [], n, (none, 0, 0), (none, 0, 0), 0, 0⟩) :: rdl R)
      (ar q 47 (rcl ⟨k, t, p, be (R.raw 2).1, a, (rcK R).1, (rcO R act).1, (rcN R act).1, n, (none, 0, 0), (none, 0, 0), 0, 0⟩) :: rdl (rcN R act).2) () := fun L => by
  have F1 := rN h 2 (by decide) (by decide) hl
  have h1 := h.raw 2
  unfold rcN rcO rcK
  generalize be (R.raw 2).1 = pg at *
  generalize (R.raw 2).2 = R1 at *
  have F2 := rT h1 16 hl
  have h2 := h1.text 16
  generalize R1.text 16 = T at *
  obtain ⟨ky, R2⟩ := T
  dsimp only at F2 h2 ⊢
  have F3 := rT h2 32 hl
  have h3 := h2.text 32
  refine c103_fn rfl rfl ?_
  by_cases a3 : act = 3
  · rw [if_pos a3, if_neg (by omega)]
    generalize R2.text 32 = T at *
    obtain ⟨x3, R3⟩ := T
    dsimp only at F3 h3 ⊢
    repeat' (first | (with_reducible first | refine d_seq fun K hK => ?_ | (refine hK _ _ ?_; clear hK K) | (refine SG.p ?_; try intro b) | refine SP.p ?_) | refine i_c ?_ ?_ <;> intro hc <;> try simp only [push_cast, seval] at hc | refine i_x ?_ | clear hK K)
    refine i_clq F1 ?_
    repeat' (first | (with_reducible first | refine d_seq fun K hK => ?_ | (refine hK _ _ ?_; clear hK K) | (refine SG.p ?_; try intro b) | refine SP.p ?_) | refine i_c ?_ ?_ <;> intro hc <;> try simp only [push_cast, seval] at hc | refine i_x ?_ | clear hK K)
    refine i_clq F2 ?_
    repeat' (first | (with_reducible first | refine d_seq fun K hK => ?_ | (refine hK _ _ ?_; clear hK K) | (refine SG.p ?_; try intro b) | refine SP.p ?_) | refine i_c ?_ ?_ <;> intro hc <;> try simp only [push_cast, seval] at hc | refine i_x ?_ | clear hK K)
    all_goals try (first | contradiction | (simp only [ reduceCtorEq] at *; done) | (exfalso; omega))
    refine i_clq F3 ?_
    repeat' (first | (with_reducible first | refine d_seq fun K hK => ?_ | (refine hK _ _ ?_; clear hK K) | (refine SG.p ?_; try intro b) | refine SP.p ?_) | refine i_c ?_ ?_ <;> intro hc <;> try simp only [push_cast, seval] at hc | refine i_x ?_ | clear hK K)
    (with_reducible first | apply i_ret0 | apply i_ret2 | apply i_ret3 | apply i_ret); exact rfl
  · rw [if_neg a3]
    have F4 := rT h3 32 hl
    generalize R2.text 32 = T at *
    obtain ⟨x3, R3⟩ := T
    dsimp only at F3 h3 F4 ⊢
    by_cases a4 : act = 4
    · rw [if_pos a4]
      repeat' (first | (with_reducible first | refine d_seq fun K hK => ?_ | (refine hK _ _ ?_; clear hK K) | (refine SG.p ?_; try intro b) | refine SP.p ?_) | refine i_c ?_ ?_ <;> intro hc <;> try simp only [push_cast, seval] at hc | refine i_x ?_ | clear hK K)
      refine i_clq F1 ?_
      repeat' (first | (with_reducible first | refine d_seq fun K hK => ?_ | (refine hK _ _ ?_; clear hK K) | (refine SG.p ?_; try intro b) | refine SP.p ?_) | refine i_c ?_ ?_ <;> intro hc <;> try simp only [push_cast, seval] at hc | refine i_x ?_ | clear hK K)
      refine i_clq F2 ?_
      repeat' (first | (with_reducible first | refine d_seq fun K hK => ?_ | (refine hK _ _ ?_; clear hK K) | (refine SG.p ?_; try intro b) | refine SP.p ?_) | refine i_c ?_ ?_ <;> intro hc <;> try simp only [push_cast, seval] at hc | refine i_x ?_ | clear hK K)
      all_goals try (first | contradiction | (simp only [ reduceCtorEq] at *; done) | (exfalso; omega))
      refine i_clq F3 ?_
      repeat' (first | (with_reducible first | refine d_seq fun K hK => ?_ | (refine hK _ _ ?_; clear hK K) | (refine SG.p ?_; try intro b) | refine SP.p ?_) | refine i_c ?_ ?_ <;> intro hc <;> try simp only [push_cast, seval] at hc | refine i_x ?_ | clear hK K)
      all_goals try (first | contradiction | (simp only [ reduceCtorEq] at *; done) | (exfalso; omega))
      (with_reducible first | apply i_ret0 | apply i_ret2 | apply i_ret3 | apply i_ret); exact rfl
    · rw [if_neg a4]
      generalize R3.text 32 = T at *
      obtain ⟨x4, R4⟩ := T
      dsimp only at F4 ⊢
      repeat' (first | (with_reducible first | refine d_seq fun K hK => ?_ | (refine hK _ _ ?_; clear hK K) | (refine SG.p ?_; try intro b) | refine SP.p ?_) | refine i_c ?_ ?_ <;> intro hc <;> try simp only [push_cast, seval] at hc | refine i_x ?_ | clear hK K)
      refine i_clq F1 ?_
      repeat' (first | (with_reducible first | refine d_seq fun K hK => ?_ | (refine hK _ _ ?_; clear hK K) | (refine SG.p ?_; try intro b) | refine SP.p ?_) | refine i_c ?_ ?_ <;> intro hc <;> try simp only [push_cast, seval] at hc | refine i_x ?_ | clear hK K)
      refine i_clq F2 ?_
      repeat' (first | (with_reducible first | refine d_seq fun K hK => ?_ | (refine hK _ _ ?_; clear hK K) | (refine SG.p ?_; try intro b) | refine SP.p ?_) | refine i_c ?_ ?_ <;> intro hc <;> try simp only [push_cast, seval] at hc | refine i_x ?_ | clear hK K)
      all_goals try (first | contradiction | (simp only [ reduceCtorEq] at *; done) | (exfalso; omega))
      refine i_clq F3 ?_
      repeat' (first | (with_reducible first | refine d_seq fun K hK => ?_ | (refine hK _ _ ?_; clear hK K) | (refine SG.p ?_; try intro b) | refine SP.p ?_) | refine i_c ?_ ?_ <;> intro hc <;> try simp only [push_cast, seval] at hc | refine i_x ?_ | clear hK K)
      all_goals try (first | contradiction | (simp only [ reduceCtorEq] at *; done) | (exfalso; omega))
      refine i_clq F4 ?_
      repeat' (first | (with_reducible first | refine d_seq fun K hK => ?_ | (refine hK _ _ ?_; clear hK K) | (refine SG.p ?_; try intro b) | refine SP.p ?_) | refine i_c ?_ ?_ <;> intro hc <;> try simp only [push_cast, seval] at hc | refine i_x ?_ | clear hK K)
      (with_reducible first | apply i_ret0 | apply i_ret2 | apply i_ret3 | apply i_ret); exact rfl
def rof (R : Rd) (k : Int) : Rc × Rd :=
  if k = 1 ∨ k = 2 then ({ Rc.z k with imgs := (rim (be (R.raw 1).1) (R.raw 1).2 []).1 }, (rim (be (R.raw 1).1) (R.raw 1).2 []).2)
  else if k = 6 then
    (fun (t p n a : Int) (Q : Rd) => (⟨k, t, p, be (Q.raw 2).1, a, (rcK Q).1, (rcO Q a).1, (rcN Q a).1, n, [], [], 0, 0⟩, (rcN Q a).2))
      (be (R.raw 6).1) (be ((R.raw 6).2.raw 6).1) (be (((R.raw 6).2.raw 6).2.raw 6).1) (be ((((R.raw 6).2.raw 6).2.raw 6).2.raw 1).1) ((((R.raw 6).2.raw 6).2.raw 6).2.raw 1).2
  else if k = 3 ∨ k = 4 ∨ k = 5 then
    (fun (t p : Int) (Q : Rd) => (⟨k, t, p, be (Q.raw 2).1, 0, (rcK Q).1, (rcO Q k).1, (rcN Q k).1, 0, [], [], 0, 0⟩, (rcN Q k).2)) (be (R.raw 6).1) (be ((R.raw 6).2.raw 6).1) ((R.raw 6).2.raw 6).2
  else if k = 7 ∨ k = 8 then ({ Rc.z k with txn := be (R.raw 6).1, prev := be ((R.raw 6).2.raw 6).1 }, ((R.raw 6).2.raw 6).2)
  else if k = 9 then ({ Rc.z k with tbl := (rtb (be (R.raw 1).1) (R.raw 1).2 []).1 }, (rtb (be (R.raw 1).1) (R.raw 1).2 []).2)
  else if k = 10 then ({ Rc.z k with epoch := be (R.raw 4).1, node := be ((R.raw 4).2.raw 1).1 }, ((R.raw 4).2.raw 1).2)
  else (Rc.z k, R)
def ofin (s : List UInt8) (Q : Rd) (c : Rc) : Rc × Int := if Q.fin.e = 0 then (if c.body = (s, 0) then (c, 0) else (Rc.z 0, 4)) else (Rc.z 0, Q.fin.e)
def ofP (b : Nat) (s : List UInt8) : Rc × Int :=
  if ((⟨b, s, 0, 0⟩ : Rd).raw 1).2.e = 0 then ofin s (rof ((⟨b, s, 0, 0⟩ : Rd).raw 1).2 (be ((⟨b, s, 0, 0⟩ : Rd).raw 1).1)).2 (rof ((⟨b, s, 0, 0⟩ : Rd).raw 1).2 (be ((⟨b, s, 0, 0⟩ : Rd).raw 1).1)).1
  else (Rc.z 0, ((⟨b, s, 0, 0⟩ : Rd).raw 1).2.e)
theorem RcAt_z (A : HP) (k : Int) : RcAt A (rz k) (Rc.z k) := ⟨rfl, Rs_nil, Rs_nil, by simp [Rc.z], by simp [Rc.z]⟩
abbrev zr : List Value := [.int .i64 0, .int .i64 0, .int .i64 0, .int .i64 0, .int .i64 0, str [], str [], str [], .int .i64 0, .slice none 0 0, .slice none 0 0, .int .i64 0, .int .i64 0]
set_option maxHeartbeats 4000000 in
theorem g87 (s : List UInt8) (hl : s.length ≤ 4611686018427387904) : Fn (eT2 e_api_Rec eI) Tryz.prog 78 #[str s] [] fun y X => ∃ (rb : Nat) (A : HP), X = [A] ∧ RcAt A y.1 (ofP rb s).1 ∧ y.2 = (ofP rb s).2 := fun L => by
  refine c78_fn rfl rfl ?_
  refine d_seq ?_
  intro K0 hK0
  refine d_reg ?_
  simp only [go_sem]
  refine r_nwc ?_
  intro q2
  refine hK0 _ _ ?_
  clear hK0 K0
  refine d_seq ?_
  intro K0 hK0
  refine d_reg ?_
  simp only [go_sem]
  refine i_cal (f72 s) ?_
  rintro y X ⟨rb, rfl, rfl⟩
  refine hK0 _ _ ?_
  clear hK0 K0
  generalize hB' : ofP rb s = B
  have hB := hB'
  unfold ofP at hB
  have h0 : (⟨rb, s, 0, 0⟩ : Rd).in rb s := ⟨rfl, rfl, by simp⟩
  have F := rN h0 1 (by decide) (by decide) hl
  have h1 := h0.raw 1
  generalize be ((⟨rb, s, 0, 0⟩ : Rd).raw 1).1 = k at *
  generalize ((⟨rb, s, 0, 0⟩ : Rd).raw 1).2 = R at *
  refine d_seq ?_
  intro K0 hK0
  refine d_reg ?_
  simp only [go_sem]
  refine i_clq F ?_
  refine r_nwc ?_
  intro q5
  refine i_stl (by simp) rfl ?_
  simp only [go_sem]
  refine hK0 _ _ ?_
  clear hK0 K0
  refine d_seq ?_
  intro K0 hK0
  by_cases he : R.e = 0
  · rw [if_pos he] at hB
    repeat' (first | (with_reducible first | refine d_seq fun K hK => ?_ | (refine hK _ _ ?_; clear hK K) | (refine SG.p ?_; try intro b)) | refine i_c ?_ ?_ <;> intro hc <;> try simp only [push_cast, seval] at hc | refine i_x ?_ | clear hK K)
    refine i_clp (rE h1) ?_
    refine hK _ _ ?_
    clear hK K
    refine d_cnd ?_
    refine And.intro ?_ ?_
    · intro hc
      exfalso
      rw [he] at hc
      simp at hc
    intro hc
    refine d_sk0 ?_
    refine hK0 _ _ ?_
    clear hK0 K0 hc
    refine d_seq ?_
    intro K0 hK0
    have fin : ∀ (Q : Rd) (r : api_Rec) (c : Rc) (A : HP) (tl : Env), Q.in rb s → RcAt A r c → ofin s Q c = B → E (ar q5 47 (rcl r) :: A :: (rdl Q ++ (ar q2 47 zr :: L))) (K0 ((0, str s) :: (2, .pointer (some ⟨q2, 0, none⟩)) :: (4, .pointer (some ⟨rb, 0, none⟩)) :: (5, .pointer (some ⟨q5, 0, none⟩)) :: tl)) := by
      intro Q r c A tl hQ hr hx
      refine hK0 _ _ ?_
      clear hK0 K0 hB F
      have F := rF hQ hl
      have G := g71 A r c hr
      unfold ofin at hx
      generalize Q.fin = Q' at *
      obtain ⟨k1, k2, k3, k4, k5, k6, k7, k8, k9, k10, k11, k12, k13⟩ := r
      by_cases e1 : Q'.e = 0
      · rw [if_pos e1] at hx
        rw [e1] at F
        generalize c.body = x at *
        obtain ⟨t, f⟩ := x
        repeat' (first | (with_reducible first | refine d_seq fun K hK => ?_ | (refine hK _ _ ?_; clear hK K) | (refine SG.p ?_; try intro b)) | refine i_c ?_ ?_ <;> intro hc <;> try simp only [push_cast, seval] at hc | refine i_x ?_ | clear hK K)
        refine i_clq F ?_
        repeat' (first | (with_reducible first | refine d_seq fun K hK => ?_ | (refine hK _ _ ?_; clear hK K) | (refine SG.p ?_; try intro b)) | refine i_c ?_ ?_ <;> intro hc <;> try simp only [push_cast, seval] at hc | refine i_x ?_ | clear hK K)
        all_goals try (first | contradiction | (simp only [ reduceCtorEq] at *; done) | (exfalso; omega))
        refine i_clp G ?_
        have hs : ∀ {P : Prop} [Decidable P], P → (if P then (c, (0 : Int)) else (Rc.z 0, 4)) = B → (c, 0) = B := fun h e => by rw [if_pos h] at e; exact e
        by_cases hf : f = 0
        · subst hf
          by_cases ht : t = s
          · subst ht
            rw [if_pos rfl] at hx
            repeat' (first | (with_reducible first | refine d_seq fun K hK => ?_ | (refine hK _ _ ?_; clear hK K) | (refine SG.p ?_; try intro b)) | refine i_c ?_ ?_ <;> intro hc <;> try simp only [push_cast, seval] at hc | refine i_x ?_ | clear hK K)
            all_goals try (first | contradiction | (simp only [ reduceCtorEq] at *; done) | (exfalso; omega))
            all_goals try (exfalso; simp at hc; done)
            refine i_ldn (e := e_api_Rec) (x := ⟨k1, k2, k3, k4, k5, k6, k7, k8, k9, k10, k11, k12, k13⟩) rfl rfl rfl ?_
            repeat' (first | (with_reducible first | refine d_seq fun K hK => ?_ | (refine hK _ _ ?_; clear hK K) | (refine SG.p ?_; try intro b)) | refine i_c ?_ ?_ <;> intro hc <;> try simp only [push_cast, seval] at hc | refine i_x ?_ | clear hK K)
            exact i_done (e := eT2 e_api_Rec eI) (⟨k1, k2, k3, k4, k5, k6, k7, k8, k9, k10, k11, k12, k13⟩, 0) [A] rfl ⟨rb, A, rfl, (by rw [hB', ← hx]; exact hr), (by rw [hB', ← hx])⟩
          · rw [if_neg (by simp [ht])] at hx
            repeat' (first | (with_reducible first | refine d_seq fun K hK => ?_ | (refine hK _ _ ?_; clear hK K) | (refine SG.p ?_; try intro b)) | refine i_c ?_ ?_ <;> intro hc <;> try simp only [push_cast, seval] at hc | refine i_x ?_ | clear hK K)
            all_goals try (first | contradiction | (simp only [ reduceCtorEq] at *; done) | (exfalso; omega))
            all_goals try (exfalso; simp at hc; exact ht hc)
            (refine i_ldn (e := e_api_Rec) (x := ⟨0, 0, 0, 0, 0, [], [], [], 0, (none, 0, 0), (none, 0, 0), 0, 0⟩) rfl rfl rfl ?_); exact i_done (e := eT2 e_api_Rec eI) (⟨0, 0, 0, 0, 0, [], [], [], 0, (none, 0, 0), (none, 0, 0), 0, 0⟩, 4) [A] rfl ⟨rb, A, rfl, (by rw [hB', ← hx]; exact RcAt_z A 0), (by rw [hB', ← hx])⟩
        · rw [if_neg (by simp [hf])] at hx
          repeat' (first | (with_reducible first | refine d_seq fun K hK => ?_ | (refine hK _ _ ?_; clear hK K) | (refine SG.p ?_; try intro b)) | refine i_c ?_ ?_ <;> intro hc <;> try simp only [push_cast, seval] at hc | refine i_x ?_ | clear hK K)
          all_goals try (first | contradiction | (simp only [ reduceCtorEq] at *; done) | (exfalso; omega))
          (refine i_ldn (e := e_api_Rec) (x := ⟨0, 0, 0, 0, 0, [], [], [], 0, (none, 0, 0), (none, 0, 0), 0, 0⟩) rfl rfl rfl ?_); exact i_done (e := eT2 e_api_Rec eI) (⟨0, 0, 0, 0, 0, [], [], [], 0, (none, 0, 0), (none, 0, 0), 0, 0⟩, 4) [A] rfl ⟨rb, A, rfl, (by rw [hB', ← hx]; exact RcAt_z A 0), (by rw [hB', ← hx])⟩
      · rw [if_neg e1] at hx
        repeat' (first | (with_reducible first | refine d_seq fun K hK => ?_ | (refine hK _ _ ?_; clear hK K) | (refine SG.p ?_; try intro b)) | refine i_c ?_ ?_ <;> intro hc <;> try simp only [push_cast, seval] at hc | refine i_x ?_ | clear hK K)
        refine i_clq F ?_
        repeat' (first | (with_reducible first | refine d_seq fun K hK => ?_ | (refine hK _ _ ?_; clear hK K) | (refine SG.p ?_; try intro b)) | refine i_c ?_ ?_ <;> intro hc <;> try simp only [push_cast, seval] at hc | refine i_x ?_ | clear hK K)
        all_goals try (first | contradiction | (simp only [ reduceCtorEq] at *; done) | (exfalso; omega))
        (refine i_ldn (e := e_api_Rec) (x := ⟨0, 0, 0, 0, 0, [], [], [], 0, (none, 0, 0), (none, 0, 0), 0, 0⟩) rfl rfl rfl ?_); exact i_done (e := eT2 e_api_Rec eI) (⟨0, 0, 0, 0, 0, [], [], [], 0, (none, 0, 0), (none, 0, 0), 0, 0⟩, Q'.e) [A] rfl ⟨rb, A, rfl, (by rw [hB', ← hx]; exact RcAt_z A 0), (by rw [hB', ← hx])⟩
    clear hK0
    unfold rof at hB
    by_cases h12 : (k : Int) = 1 ∨ (k : Int) = 2
    · rw [if_pos h12] at hB
      have I := rim_in (be (R.raw 1).1) (R.raw 1).2 [] (h1.raw 1)
      have N := rim_len (be (R.raw 1).1) (R.raw 1).2 []
      have N2 := num1 R
      have C := g116 h1 hl
      generalize rim (be (R.raw 1).1) (R.raw 1).2 [] = T at *
      obtain ⟨l, Q⟩ := T
      dsimp only at hB I N C
      simp only [List.length_nil, Nat.add_zero] at N
      repeat' (first | (with_reducible first | refine d_seq fun K hK => ?_ | (refine hK _ _ ?_; clear hK K) | (refine SG.p ?_; try intro b)) | refine i_c ?_ ?_ <;> intro hc <;> try simp only [push_cast, seval] at hc | refine i_x ?_ | clear hK K)
      all_goals try (exfalso; omega)
      all_goals
        refine i_cal C ?_
        rintro ⟨p, pn, pc⟩ X rfl
        repeat' (first | (with_reducible first | refine d_seq fun K hK => ?_ | (refine hK _ _ ?_; clear hK K) | (refine SG.p ?_; try intro b)) | refine i_c ?_ ?_ <;> intro hc <;> try simp only [push_cast, seval] at hc | refine i_x ?_ | clear hK K)
        refine i_ow (t := 192) (sz := 2) (p, pn, pc) fun hR => ?_
        exact (fin Q ⟨k, 0, 0, 0, 0, [], [], [], 0, (p, pn, pc), (none, 0, 0), 0, 0⟩ { Rc.z k with imgs := l } (ow 192 2 (p, pn, pc) (l.flatMap cImg)) _ I ⟨rfl, hR, Rs_nil, by dsimp only; omega, by simp [Rc.z]⟩ hB).sub SX.p
    rw [if_neg h12] at hB
    by_cases h6 : (k : Int) = 6
    · rw [if_pos h6] at hB
      have F1 := rN h1 6 (by decide) (by decide) hl
      have i1 := h1.raw 6
      generalize be (R.raw 6).1 = tx at *
      generalize (R.raw 6).2 = R1 at *
      have F2 := rN i1 6 (by decide) (by decide) hl
      have i2 := i1.raw 6
      generalize be (R1.raw 6).1 = pv at *
      generalize (R1.raw 6).2 = R2 at *
      have F3 := rN i2 6 (by decide) (by decide) hl
      have i3 := i2.raw 6
      generalize be (R2.raw 6).1 = nx at *
      generalize (R2.raw 6).2 = R3 at *
      have F4 := rN i3 1 (by decide) (by decide) hl
      have i4 := i3.raw 1
      generalize be (R3.raw 1).1 = ac at *
      generalize (R3.raw 1).2 = R4 at *
      have F5 := g117 i4 hl q5 k tx pv ac nx ac
      have i5 := rcN_in i4 (ac : Int)
      dsimp only at hB
      generalize be (R4.raw 2).1 = pg at *
      generalize (rcK R4).1 = ky at *
      generalize (rcO R4 ac).1 = od at *
      generalize rcN R4 ac = T at *
      obtain ⟨nw, Q⟩ := T
      dsimp only at hB F5 i5
      repeat' (first | (with_reducible first | refine d_seq fun K hK => ?_ | (refine hK _ _ ?_; clear hK K) | (refine SG.p ?_; try intro b)) | refine i_c ?_ ?_ <;> intro hc <;> try simp only [push_cast, seval] at hc | refine i_x ?_ | clear hK K)
      all_goals try (exfalso; omega)
      refine i_clq F1 ?_
      refine i_clq F2 ?_
      refine i_clq F3 ?_
      refine i_clq F4 ?_
      repeat' (first | (with_reducible first | refine d_seq fun K hK => ?_ | (refine hK _ _ ?_; clear hK K) | (refine SG.p ?_; try intro b)) | refine i_c ?_ ?_ <;> intro hc <;> try simp only [push_cast, seval] at hc | refine i_x ?_ | clear hK K)
      refine i_clq F5 ?_
      repeat' (first | (with_reducible first | refine d_seq fun K hK => ?_ | (refine hK _ _ ?_; clear hK K) | (refine SG.p ?_; try intro b)) | refine i_c ?_ ?_ <;> intro hc <;> try simp only [push_cast, seval] at hc | refine i_x ?_ | clear hK K)
      refine r_nilow 192 2 ?_
      exact (fin Q ⟨k, tx, pv, pg, ac, ky, od, nw, nx, (none, 0, 0), (none, 0, 0), 0, 0⟩ _ (ow 192 2 (none, 0, 0) []) _ i5 ⟨rfl, Rs_nil, Rs_nil, by simp, by simp⟩ hB).sub SX.p
    rw [if_neg h6] at hB
    by_cases h345 : (k : Int) = 3 ∨ (k : Int) = 4 ∨ (k : Int) = 5
    · rw [if_pos h345] at hB
      have F1 := rN h1 6 (by decide) (by decide) hl
      have i1 := h1.raw 6
      generalize be (R.raw 6).1 = tx at *
      generalize (R.raw 6).2 = R1 at *
      have F2 := rN i1 6 (by decide) (by decide) hl
      have i2 := i1.raw 6
      generalize be (R1.raw 6).1 = pv at *
      generalize (R1.raw 6).2 = R4 at *
      have F5 := g117 i2 hl q5 k tx pv 0 0 k
      have i5 := rcN_in i2 (k : Int)
      dsimp only at hB
      generalize be (R4.raw 2).1 = pg at *
      generalize (rcK R4).1 = ky at *
      generalize (rcO R4 k).1 = od at *
      generalize rcN R4 k = T at *
      obtain ⟨nw, Q⟩ := T
      dsimp only at hB F5 i5
      repeat' (first | (with_reducible first | refine d_seq fun K hK => ?_ | (refine hK _ _ ?_; clear hK K) | (refine SG.p ?_; try intro b)) | refine i_c ?_ ?_ <;> intro hc <;> try simp only [push_cast, seval] at hc | refine i_x ?_ | clear hK K)
      all_goals try (exfalso; omega)
      all_goals
        refine i_clq F1 ?_
        refine i_clq F2 ?_
        repeat' (first | (with_reducible first | refine d_seq fun K hK => ?_ | (refine hK _ _ ?_; clear hK K) | (refine SG.p ?_; try intro b)) | refine i_c ?_ ?_ <;> intro hc <;> try simp only [push_cast, seval] at hc | refine i_x ?_ | clear hK K)
        refine i_clq F5 ?_
        repeat' (first | (with_reducible first | refine d_seq fun K hK => ?_ | (refine hK _ _ ?_; clear hK K) | (refine SG.p ?_; try intro b)) | refine i_c ?_ ?_ <;> intro hc <;> try simp only [push_cast, seval] at hc | refine i_x ?_ | clear hK K)
        refine r_nilow 192 2 ?_
        exact (fin Q ⟨k, tx, pv, pg, 0, ky, od, nw, 0, (none, 0, 0), (none, 0, 0), 0, 0⟩ _ (ow 192 2 (none, 0, 0) []) _ i5 ⟨rfl, Rs_nil, Rs_nil, by simp, by simp⟩ hB).sub SX.p
    rw [if_neg h345] at hB
    by_cases h78 : (k : Int) = 7 ∨ (k : Int) = 8
    · rw [if_pos h78] at hB
      have F1 := rN h1 6 (by decide) (by decide) hl
      have i1 := h1.raw 6
      generalize be (R.raw 6).1 = tx at *
      generalize (R.raw 6).2 = R1 at *
      have F2 := rN i1 6 (by decide) (by decide) hl
      have i2 := i1.raw 6
      generalize be (R1.raw 6).1 = pv at *
      generalize (R1.raw 6).2 = Q at *
      repeat' (first | (with_reducible first | refine d_seq fun K hK => ?_ | (refine hK _ _ ?_; clear hK K) | (refine SG.p ?_; try intro b)) | refine i_c ?_ ?_ <;> intro hc <;> try simp only [push_cast, seval] at hc | refine i_x ?_ | clear hK K)
      all_goals try (exfalso; omega)
      all_goals
        refine i_clq F1 ?_
        refine i_clq F2 ?_
        repeat' (first | (with_reducible first | refine d_seq fun K hK => ?_ | (refine hK _ _ ?_; clear hK K) | (refine SG.p ?_; try intro b)) | refine i_c ?_ ?_ <;> intro hc <;> try simp only [push_cast, seval] at hc | refine i_x ?_ | clear hK K)
        refine r_nilow 192 2 ?_
        exact (fin Q ⟨k, tx, pv, 0, 0, [], [], [], 0, (none, 0, 0), (none, 0, 0), 0, 0⟩ _ (ow 192 2 (none, 0, 0) []) _ i2 ⟨rfl, Rs_nil, Rs_nil, by simp [Rc.z], by simp [Rc.z]⟩ hB).sub SX.p
    rw [if_neg h78] at hB
    by_cases h9 : (k : Int) = 9
    · rw [if_pos h9] at hB
      have I := rtb_in (be (R.raw 1).1) (R.raw 1).2 [] (h1.raw 1)
      have N := rtb_len (be (R.raw 1).1) (R.raw 1).2 []
      have N2 := num1 R
      have C := g118 h1 hl
      generalize rtb (be (R.raw 1).1) (R.raw 1).2 [] = T at *
      obtain ⟨l, Q⟩ := T
      dsimp only at hB I N C
      simp only [List.length_nil, Nat.add_zero] at N
      repeat' (first | (with_reducible first | refine d_seq fun K hK => ?_ | (refine hK _ _ ?_; clear hK K) | (refine SG.p ?_; try intro b)) | refine i_c ?_ ?_ <;> intro hc <;> try simp only [push_cast, seval] at hc | refine i_x ?_ | clear hK K)
      all_goals try (exfalso; omega)
      refine i_cal C ?_
      rintro ⟨p, pn, pc⟩ X rfl
      repeat' (first | (with_reducible first | refine d_seq fun K hK => ?_ | (refine hK _ _ ?_; clear hK K) | (refine SG.p ?_; try intro b)) | refine i_c ?_ ?_ <;> intro hc <;> try simp only [push_cast, seval] at hc | refine i_x ?_ | clear hK K)
      refine i_ow (t := 40) (sz := 2) (p, pn, pc) fun hR => ?_
      exact (fin Q ⟨k, 0, 0, 0, 0, [], [], [], 0, (none, 0, 0), (p, pn, pc), 0, 0⟩ { Rc.z k with tbl := l } (ow 40 2 (p, pn, pc) (l.flatMap cAct)) _ I ⟨rfl, Rs_nil, hR, by simp [Rc.z], by dsimp only; omega⟩ hB).sub SX.p
    rw [if_neg h9] at hB
    by_cases h10 : (k : Int) = 10
    · rw [if_pos h10] at hB
      have F1 := rN h1 4 (by decide) (by decide) hl
      have i1 := h1.raw 4
      generalize be (R.raw 4).1 = tx at *
      generalize (R.raw 4).2 = R1 at *
      have F2 := rN i1 1 (by decide) (by decide) hl
      have i2 := i1.raw 1
      generalize be (R1.raw 1).1 = pv at *
      generalize (R1.raw 1).2 = Q at *
      repeat' (first | (with_reducible first | refine d_seq fun K hK => ?_ | (refine hK _ _ ?_; clear hK K) | (refine SG.p ?_; try intro b)) | refine i_c ?_ ?_ <;> intro hc <;> try simp only [push_cast, seval] at hc | refine i_x ?_ | clear hK K)
      all_goals try (exfalso; omega)
      refine i_clq F1 ?_
      refine i_clq F2 ?_
      repeat' (first | (with_reducible first | refine d_seq fun K hK => ?_ | (refine hK _ _ ?_; clear hK K) | (refine SG.p ?_; try intro b)) | refine i_c ?_ ?_ <;> intro hc <;> try simp only [push_cast, seval] at hc | refine i_x ?_ | clear hK K)
      refine r_nilow 192 2 ?_
      exact (fin Q ⟨k, 0, 0, 0, 0, [], [], [], 0, (none, 0, 0), (none, 0, 0), tx, pv⟩ _ (ow 192 2 (none, 0, 0) []) _ i2 ⟨rfl, Rs_nil, Rs_nil, by simp [Rc.z], by simp [Rc.z]⟩ hB).sub SX.p
    rw [if_neg h10] at hB
    repeat' (first | (with_reducible first | refine d_seq fun K hK => ?_ | (refine hK _ _ ?_; clear hK K) | (refine SG.p ?_; try intro b)) | refine i_c ?_ ?_ <;> intro hc <;> try simp only [push_cast, seval] at hc | refine i_x ?_ | clear hK K)
    all_goals try (exfalso; omega)
    refine r_nilow 192 2 ?_
    exact (fin R ⟨k, 0, 0, 0, 0, [], [], [], 0, (none, 0, 0), (none, 0, 0), 0, 0⟩ _ (ow 192 2 (none, 0, 0) []) _ h1 (RcAt_z _ _) hB).sub SX.p
  · rw [if_neg he] at hB
    repeat' (first | (with_reducible first | refine d_seq fun K hK => ?_ | (refine hK _ _ ?_; clear hK K) | (refine SG.p ?_; try intro b)) | refine i_c ?_ ?_ <;> intro hc <;> try simp only [push_cast, seval] at hc | refine i_x ?_ | clear hK K)
    refine i_clp (rE h1) ?_
    repeat' (first | (with_reducible first | refine d_seq fun K hK => ?_ | (refine hK _ _ ?_; clear hK K) | (refine SG.p ?_; try intro b)) | refine i_c ?_ ?_ <;> intro hc <;> try simp only [push_cast, seval] at hc | refine i_x ?_ | clear hK K)
    all_goals try (exfalso; exact he hc)
    refine i_clp (rE h1) ?_
    repeat' (first | (with_reducible first | refine d_seq fun K hK => ?_ | (refine hK _ _ ?_; clear hK K) | (refine SG.p ?_; try intro b)) | refine i_c ?_ ?_ <;> intro hc <;> try simp only [push_cast, seval] at hc | refine i_x ?_ | clear hK K)
    refine r_nilow 192 2 ?_
    obtain ⟨A, hA⟩ : ∃ A, A = ow 192 2 (none, 0, 0) [] := ⟨_, rfl⟩
    rw [← hA]
    have hx := hB
    (refine i_ldn (e := e_api_Rec) (x := ⟨0, 0, 0, 0, 0, [], [], [], 0, (none, 0, 0), (none, 0, 0), 0, 0⟩) rfl rfl rfl ?_); exact i_done (e := eT2 e_api_Rec eI) (⟨0, 0, 0, 0, 0, [], [], [], 0, (none, 0, 0), (none, 0, 0), 0, 0⟩, R.e) [A] rfl ⟨rb, A, rfl, (by rw [hB', ← hx]; exact RcAt_z A 0), (by rw [hB', ← hx])⟩
def Rd.at (R : Rd) (c : Nat) : Rd := ⟨c, R.s, R.a, R.e⟩
theorem raw_at (R : Rd) (c : Nat) (n : Int) : (R.at c).raw n = ((R.raw n).1, (R.raw n).2.at c) := by
  unfold Rd.raw Rd.at
  dsimp only
  repeat' split
  all_goals rfl
theorem fail_at (R : Rd) (c : Nat) (x : Int) : (R.at c).fail x = (R.fail x).at c := by
  unfold Rd.fail Rd.at
  dsimp only
  split <;> rfl
theorem text_at (R : Rd) (c : Nat) (m : Int) : (R.at c).text m = ((R.text m).1, (R.text m).2.at c) := by
  unfold Rd.text
  rw [raw_at]
  dsimp only
  have he : ((R.raw 2).2.at c).e = (R.raw 2).2.e := rfl
  rw [he]
  split
  · rw [fail_at, raw_at]
  · rw [raw_at]
theorem rim_at (c : Nat) : ∀ (k : Nat) (R : Rd) (l : List api_Image), rim k (R.at c) l = ((rim k R l).1, (rim k R l).2.at c)
  | 0, R, l => rfl
  | k + 1, R, l => by
    unfold rim
    rw [raw_at]
    dsimp only
    rw [text_at]
    dsimp only
    have he : (((R.raw 2).2.text 224).2.at c).e = ((R.raw 2).2.text 224).2.e := rfl
    rw [he]
    split
    · exact rim_at c k _ _
    · rfl
theorem rtb_at (c : Nat) : ∀ (k : Nat) (R : Rd) (l : List api_Active), rtb k (R.at c) l = ((rtb k R l).1, (rtb k R l).2.at c)
  | 0, R, l => rfl
  | k + 1, R, l => by
    unfold rtb
    rw [raw_at]
    dsimp only
    rw [raw_at]
    exact rtb_at c k _ _
theorem rcK_at (R : Rd) (c : Nat) : rcK (R.at c) = ((rcK R).1, (rcK R).2.at c) := by
  unfold rcK
  rw [raw_at]
  exact text_at _ _ _
theorem rcO_at (R : Rd) (c : Nat) (a : Int) : rcO (R.at c) a = ((rcO R a).1, (rcO R a).2.at c) := by
  unfold rcO
  rw [rcK_at]
  split
  · rfl
  · exact text_at _ _ _
theorem rcN_at (R : Rd) (c : Nat) (a : Int) : rcN (R.at c) a = ((rcN R a).1, (rcN R a).2.at c) := by
  unfold rcN
  rw [rcO_at]
  split
  · rfl
  · exact text_at _ _ _
theorem rof_at (R : Rd) (c : Nat) (k : Int) : rof (R.at c) k = ((rof R k).1, (rof R k).2.at c) := by
  unfold rof
  simp only [raw_at, rim_at, rtb_at, rcK_at, rcO_at, rcN_at]
  repeat' split
  all_goals rfl
theorem fin_at (R : Rd) (c : Nat) : (R.at c).fin = R.fin.at c := by
  unfold Rd.fin
  have he : (R.at c).left = R.left := rfl
  rw [he]
  split
  · exact fail_at _ _ _
  · rfl
theorem ofin_at (s : List UInt8) (Q : Rd) (b : Nat) (c : Rc) : ofin s (Q.at b) c = ofin s Q c := by
  unfold ofin
  rw [fin_at]
  rfl
theorem ofP_b (b : Nat) (s : List UInt8) : ofP b s = ofP 0 s := by
  unfold ofP
  have e : (⟨b, s, 0, 0⟩ : Rd) = (⟨0, s, 0, 0⟩ : Rd).at b := rfl
  rw [e, raw_at]
  dsimp only
  rw [rof_at]
  dsimp only
  rw [ofin_at]
  rfl
theorem g87' (s : List UInt8) (hl : s.length ≤ 4611686018427387904) : Fn (eT2 e_api_Rec eI) Tryz.prog 78 #[str s] [] fun y X => ∃ A : HP, X = [A] ∧ RcAt A y.1 (ofP 0 s).1 ∧ y.2 = (ofP 0 s).2 :=
  (g87 s hl).mono fun y X ⟨rb, A, h1, h2, h3⟩ => ⟨A, h1, by rwa [ofP_b] at h2, by rwa [ofP_b] at h3⟩
def opn0 (s : List UInt8) : Rc × Int × Int :=
  if s.length < 6 then (Rc.z 0, 0, 2)
  else if be (s.take 2) < 1 ∨ 4096 < be (s.take 2) then (Rc.z 0, 0, 4)
  else if s.length < 6 + be (s.take 2) then (Rc.z 0, 0, 2)
  else if (unsl ((s.drop 2).take (4 + be (s.take 2)))).2 = 0 then
    (if (ofP 0 (unsl ((s.drop 2).take (4 + be (s.take 2)))).1).2 = 0 then ((ofP 0 (unsl ((s.drop 2).take (4 + be (s.take 2)))).1).1, ((6 + be (s.take 2) : Nat) : Int), 0)
    else (Rc.z 0, 0, (ofP 0 (unsl ((s.drop 2).take (4 + be (s.take 2)))).1).2))
  else (Rc.z 0, 0, (unsl ((s.drop 2).take (4 + be (s.take 2)))).2)
def opn (s : List UInt8) (n : Int) : Rc × Int × Int := if n < 0 ∨ (s.length : Int) < n then (Rc.z 0, 0, 6) else opn0 (s.drop n.toNat)
set_option maxHeartbeats 4000000 in
theorem g26 (s : List UInt8) (n : Int) (hl : s.length ≤ 4611686018427387904) : Fn (eT3 e_api_Rec eI eI) Tryz.prog 50 #[str s, .int .i64 n] [] fun y X => ∃ A : HP, X = [A] ∧ RcAt A y.1 (opn s n).1 ∧ y.2 = (opn s n).2 := fun L => by
  refine c50_fn rfl rfl ?_
  generalize hB' : opn s n = B
  have hB := hB'
  unfold opn at hB
  refine d_seq ?_
  intro K0 hK0
  refine d_reg ?_
  simp only [go_sem]
  refine r_nwc ?_
  intro q4
  refine hK0 _ _ ?_
  clear hK0 K0
  by_cases h6 : n < 0 ∨ (s.length : Int) < n
  · rw [if_pos h6] at hB
    refine r_nilow 192 2 ?_
    obtain ⟨A, hA⟩ : ∃ A, A = ow 192 2 (none, 0, 0) [] := ⟨_, rfl⟩
    rw [← hA]
    repeat' (first | (with_reducible first | refine d_seq fun K hK => ?_ | (refine hK _ _ ?_; clear hK K) | (refine SG.p ?_; try intro b)) | refine i_c ?_ ?_ <;> intro hc <;> try simp only [push_cast, seval] at hc | refine i_x ?_ | clear hK K)
    all_goals try (exfalso; omega)
    all_goals (refine i_ldn (e := e_api_Rec) (x := ⟨0, 0, 0, 0, 0, [], [], [], 0, (none, 0, 0), (none, 0, 0), 0, 0⟩) rfl rfl rfl ?_); exact i_done (e := eT3 e_api_Rec eI eI) (⟨0, 0, 0, 0, 0, [], [], [], 0, (none, 0, 0), (none, 0, 0), 0, 0⟩, 0, 6) [A] rfl ⟨A, rfl, (by rw [← hB]; exact RcAt_z A 0), (by rw [← hB])⟩
  rw [if_neg h6] at hB
  have es : ss s n (s.length : Int) = s.drop n.toNat := by unfold ss; simp
  have hlt : (s.drop n.toNat).length ≤ 4611686018427387904 := by rw [List.length_drop]; omega
  generalize s.drop n.toNat = t at *
  unfold opn0 at hB
  by_cases t6 : t.length < 6
  · rw [if_pos t6] at hB
    refine r_nilow 192 2 ?_
    obtain ⟨A, hA⟩ : ∃ A, A = ow 192 2 (none, 0, 0) [] := ⟨_, rfl⟩
    rw [← hA]
    repeat' (first | rw [es] | first | (with_reducible first | refine d_seq fun K hK => ?_ | (refine hK _ _ ?_; clear hK K) | (refine SG.p ?_; try intro b)) | refine i_c ?_ ?_ <;> intro hc <;> try simp only [push_cast, seval] at hc | refine i_x ?_ | clear hK K)
    all_goals try (exfalso; omega)
    all_goals (refine i_ldn (e := e_api_Rec) (x := ⟨0, 0, 0, 0, 0, [], [], [], 0, (none, 0, 0), (none, 0, 0), 0, 0⟩) rfl rfl rfl ?_); exact i_done (e := eT3 e_api_Rec eI eI) (⟨0, 0, 0, 0, 0, [], [], [], 0, (none, 0, 0), (none, 0, 0), 0, 0⟩, 0, 2) [A] rfl ⟨A, rfl, (by rw [← hB]; exact RcAt_z A 0), (by rw [← hB])⟩
  rw [if_neg t6] at hB
  have hm : (t.drop 0).take 2 = t.take 2 := by rw [List.drop_zero]
  have hb2 := be_lt (t.take 2)
  have hl2 : (t.take 2).length = 2 := by rw [List.length_take]; omega
  rw [hl2, show 256 ^ 2 = 65536 from rfl] at hb2
  have F := fun rb => num_go rb t 0 2 (by omega) (by decide) (by decide) hlt
  rw [hm] at F
  generalize be (t.take 2) = m at *
  by_cases m1 : m < 1 ∨ 4096 < m
  · rw [if_pos m1] at hB
    refine r_nilow 192 2 ?_
    obtain ⟨A, hA⟩ : ∃ A, A = ow 192 2 (none, 0, 0) [] := ⟨_, rfl⟩
    rw [← hA]
    repeat' (first | rw [es] | first | (with_reducible first | refine d_seq fun K hK => ?_ | (refine hK _ _ ?_; clear hK K) | (refine SG.p ?_; try intro b)) | refine i_c ?_ ?_ <;> intro hc <;> try simp only [push_cast, seval] at hc | refine i_x ?_ | clear hK K)
    all_goals try (exfalso; omega)
    refine i_cal (f72 t) ?_
    rintro y X ⟨rb, rfl, rfl⟩
    refine i_clq (F rb) ?_
    repeat' (first | (with_reducible first | refine d_seq fun K hK => ?_ | (refine hK _ _ ?_; clear hK K) | (refine SG.p ?_; try intro b)) | refine i_c ?_ ?_ <;> intro hc <;> try simp only [push_cast, seval] at hc | refine i_x ?_ | clear hK K)
    all_goals try (exfalso; omega)
    all_goals (refine i_ldn (e := e_api_Rec) (x := ⟨0, 0, 0, 0, 0, [], [], [], 0, (none, 0, 0), (none, 0, 0), 0, 0⟩) rfl rfl rfl ?_); exact i_done (e := eT3 e_api_Rec eI eI) (⟨0, 0, 0, 0, 0, [], [], [], 0, (none, 0, 0), (none, 0, 0), 0, 0⟩, 0, 4) [A] rfl ⟨A, rfl, (by rw [← hB]; exact RcAt_z A 0), (by rw [← hB])⟩
  rw [if_neg m1] at hB
  by_cases m2 : t.length < 6 + m
  · rw [if_pos m2] at hB
    refine r_nilow 192 2 ?_
    obtain ⟨A, hA⟩ : ∃ A, A = ow 192 2 (none, 0, 0) [] := ⟨_, rfl⟩
    rw [← hA]
    repeat' (first | rw [es] | first | (with_reducible first | refine d_seq fun K hK => ?_ | (refine hK _ _ ?_; clear hK K) | (refine SG.p ?_; try intro b)) | refine i_c ?_ ?_ <;> intro hc <;> try simp only [push_cast, seval] at hc | refine i_x ?_ | clear hK K)
    all_goals try (exfalso; omega)
    refine i_cal (f72 t) ?_
    rintro y X ⟨rb, rfl, rfl⟩
    refine i_clq (F rb) ?_
    have ew : IntKind.wrap .i64 ((t.length : Int) - 6) = (t.length : Int) - 6 := w64 (by omega) (by omega)
    repeat' (first | rw [ew] | first | (with_reducible first | refine d_seq fun K hK => ?_ | (refine hK _ _ ?_; clear hK K) | (refine SG.p ?_; try intro b)) | refine i_c ?_ ?_ <;> intro hc <;> try simp only [push_cast, seval] at hc | refine i_x ?_ | clear hK K)
    all_goals try (exfalso; omega)
    all_goals (refine i_ldn (e := e_api_Rec) (x := ⟨0, 0, 0, 0, 0, [], [], [], 0, (none, 0, 0), (none, 0, 0), 0, 0⟩) rfl rfl rfl ?_); exact i_done (e := eT3 e_api_Rec eI eI) (⟨0, 0, 0, 0, 0, [], [], [], 0, (none, 0, 0), (none, 0, 0), 0, 0⟩, 0, 2) [A] rfl ⟨A, rfl, (by rw [← hB]; exact RcAt_z A 0), (by rw [← hB])⟩
  rw [if_neg m2] at hB
  have ew : IntKind.wrap .i64 ((t.length : Int) - 6) = (t.length : Int) - 6 := w64 (by omega) (by omega)
  have ew6 : IntKind.wrap .i64 (6 + (m : Int)) = ((6 + m : Nat) : Int) := by rw [w64 (by omega) (by omega)]; omega
  have eu : ss t 2 ((6 + m : Nat) : Int) = (t.drop 2).take (4 + m) := by
    have := ss_n t 2 (4 + m)
    rw [show 2 + (4 + m) = 6 + m by omega] at this
    exact this
  have hlu : ((t.drop 2).take (4 + m)).length = 4 + m := by rw [List.length_take, List.length_drop]; omega
  have U := g86 ((t.drop 2).take (4 + m)) (by omega)
  have hub : (unsl ((t.drop 2).take (4 + m))).1.length ≤ 4 + m := by
    unfold unsl
    repeat' split
    · simp
    · rw [List.length_drop]; omega
    · simp
  generalize unsl ((t.drop 2).take (4 + m)) = u at *
  obtain ⟨ub, ue⟩ := u
  dsimp only at hB U hub
  by_cases e1 : ue = 0
  · subst e1
    rw [if_pos rfl] at hB
    have O := g87' ub (by omega)
    repeat' (first | rw [es] | first | (with_reducible first | refine d_seq fun K hK => ?_ | (refine hK _ _ ?_; clear hK K) | (refine SG.p ?_; try intro b)) | refine i_c ?_ ?_ <;> intro hc <;> try simp only [push_cast, seval] at hc | refine i_x ?_ | clear hK K)
    all_goals try (exfalso; omega)
    refine i_cal (f72 t) ?_
    rintro y X ⟨rb, rfl, rfl⟩
    refine i_clq (F rb) ?_
    repeat' (first | rw [ew] | first | (with_reducible first | refine d_seq fun K hK => ?_ | (refine hK _ _ ?_; clear hK K) | (refine SG.p ?_; try intro b)) | refine i_c ?_ ?_ <;> intro hc <;> try simp only [push_cast, seval] at hc | refine i_x ?_ | clear hK K)
    all_goals try (exfalso; omega)
    rw [ew6, eu]
    refine i_clp U ?_
    repeat' (first | (with_reducible first | refine d_seq fun K hK => ?_ | (refine hK _ _ ?_; clear hK K) | (refine SG.p ?_; try intro b)) | refine i_c ?_ ?_ <;> intro hc <;> try simp only [push_cast, seval] at hc | refine i_x ?_ | clear hK K)
    all_goals try (first | contradiction | (simp only [ reduceCtorEq] at *; done) | (exfalso; omega))
    refine i_cal O ?_
    rintro ⟨⟨k1, k2, k3, k4, k5, k6, k7, k8, k9, k10, k11, k12, k13⟩, e⟩ X ⟨A, rfl, hr, he⟩
    dsimp only at hr he
    generalize ofP 0 ub = o at *
    obtain ⟨c, oe⟩ := o
    dsimp only at hr he hB
    subst he
    by_cases e2 : e = 0
    · subst e2
      rw [if_pos rfl] at hB
      repeat' (first | (with_reducible first | refine d_seq fun K hK => ?_ | (refine hK _ _ ?_; clear hK K) | (refine SG.p ?_; try intro b)) | refine i_c ?_ ?_ <;> intro hc <;> try simp only [push_cast, seval] at hc | refine i_x ?_ | clear hK K)
      all_goals try (first | contradiction | (simp only [ reduceCtorEq] at *; done) | (exfalso; omega))
      rw [ew6]
      refine i_ldn (e := e_api_Rec) (x := ⟨k1, k2, k3, k4, k5, k6, k7, k8, k9, k10, k11, k12, k13⟩) rfl rfl rfl ?_
      repeat' (first | (with_reducible first | refine d_seq fun K hK => ?_ | (refine hK _ _ ?_; clear hK K) | (refine SG.p ?_; try intro b)) | refine i_c ?_ ?_ <;> intro hc <;> try simp only [push_cast, seval] at hc | refine i_x ?_ | clear hK K)
      refine i_ldn (e := e_api_Rec) (x := ⟨k1, k2, k3, k4, k5, k6, k7, k8, k9, k10, k11, k12, k13⟩) rfl rfl rfl ?_
      exact i_done (e := eT3 e_api_Rec eI eI) (⟨k1, k2, k3, k4, k5, k6, k7, k8, k9, k10, k11, k12, k13⟩, ((6 + m : Nat) : Int), 0) [A] rfl ⟨A, rfl, (by rw [← hB]; exact hr), (by rw [← hB])⟩
    · rw [if_neg e2] at hB
      repeat' (first | (with_reducible first | refine d_seq fun K hK => ?_ | (refine hK _ _ ?_; clear hK K) | (refine SG.p ?_; try intro b)) | refine i_c ?_ ?_ <;> intro hc <;> try simp only [push_cast, seval] at hc | refine i_x ?_ | clear hK K)
      all_goals try (first | contradiction | (simp only [ reduceCtorEq] at *; done) | (exfalso; omega))
      (refine i_ldn (e := e_api_Rec) (x := ⟨0, 0, 0, 0, 0, [], [], [], 0, (none, 0, 0), (none, 0, 0), 0, 0⟩) rfl rfl rfl ?_); exact i_done (e := eT3 e_api_Rec eI eI) (⟨0, 0, 0, 0, 0, [], [], [], 0, (none, 0, 0), (none, 0, 0), 0, 0⟩, 0, e) [A] rfl ⟨A, rfl, (by rw [← hB]; exact RcAt_z A 0), (by rw [← hB])⟩
  · rw [if_neg e1] at hB
    refine r_nilow 192 2 ?_
    obtain ⟨A, hA⟩ : ∃ A, A = ow 192 2 (none, 0, 0) [] := ⟨_, rfl⟩
    rw [← hA]
    repeat' (first | rw [es] | first | (with_reducible first | refine d_seq fun K hK => ?_ | (refine hK _ _ ?_; clear hK K) | (refine SG.p ?_; try intro b)) | refine i_c ?_ ?_ <;> intro hc <;> try simp only [push_cast, seval] at hc | refine i_x ?_ | clear hK K)
    all_goals try (exfalso; omega)
    refine i_cal (f72 t) ?_
    rintro y X ⟨rb, rfl, rfl⟩
    refine i_clq (F rb) ?_
    repeat' (first | rw [ew] | first | (with_reducible first | refine d_seq fun K hK => ?_ | (refine hK _ _ ?_; clear hK K) | (refine SG.p ?_; try intro b)) | refine i_c ?_ ?_ <;> intro hc <;> try simp only [push_cast, seval] at hc | refine i_x ?_ | clear hK K)
    all_goals try (exfalso; omega)
    rw [ew6, eu]
    refine i_clp U ?_
    repeat' (first | (with_reducible first | refine d_seq fun K hK => ?_ | (refine hK _ _ ?_; clear hK K) | (refine SG.p ?_; try intro b)) | refine i_c ?_ ?_ <;> intro hc <;> try simp only [push_cast, seval] at hc | refine i_x ?_ | clear hK K)
    all_goals try (first | contradiction | (simp only [ reduceCtorEq] at *; done) | (exfalso; omega))
    (refine i_ldn (e := e_api_Rec) (x := ⟨0, 0, 0, 0, 0, [], [], [], 0, (none, 0, 0), (none, 0, 0), 0, 0⟩) rfl rfl rfl ?_); exact i_done (e := eT3 e_api_Rec eI eI) (⟨0, 0, 0, 0, 0, [], [], [], 0, (none, 0, 0), (none, 0, 0), 0, 0⟩, 0, ue) [A] rfl ⟨A, rfl, (by rw [← hB]; exact RcAt_z A 0), (by rw [← hB])⟩
def fitN (n : Int) (w : Nat) : Prop := 0 ≤ n ∧ n < ((256 ^ w : Nat) : Int)
theorem layN_ok {x : Wt} {n : Int} {w : Nat} (h : (layN x n w).2 = 0) : x.2 = 0 ∧ fitN n w ∧ (layN x n w).1 = x.1 ++ lowb n w := by
  unfold layN lay1 at h ⊢
  by_cases h0 : x.2 = 0
  · rw [if_neg (by simpa using h0)] at h ⊢
    unfold putN at h ⊢
    by_cases hn : n < 0 ∨ ((256 ^ w : Nat) : Int) ≤ n
    · rw [if_pos hn] at h
      simp at h
    · rw [if_neg hn] at h ⊢
      exact ⟨h0, ⟨by omega, by omega⟩, rfl⟩
  · rw [if_pos h0] at h
    exact absurd h h0
theorem layT_ok {x : Wt} {t : List UInt8} (h : (layT x t).2 = 0) : x.2 = 0 ∧ t.length < 65536 ∧ (layT x t).1 = x.1 ++ (lowb (t.length : Int) 2 ++ t) := by
  unfold layT lay1 at h ⊢
  by_cases h0 : x.2 = 0
  · rw [if_neg (by simpa using h0)] at h ⊢
    unfold putT at h ⊢
    by_cases hn : 65536 ≤ t.length
    · rw [if_pos hn] at h
      simp at h
    · rw [if_neg hn] at h ⊢
      exact ⟨h0, by omega, by rw [← List.append_assoc]; rfl⟩
  · rw [if_pos h0] at h
    exact absurd h h0
structure Rat (R : Rd) (s Y : List UInt8) : Prop where
  e : R.e = 0
  a : R.a ≤ s.length
  d : s.drop R.a = Y
  t : R.s = s
theorem Rat.raw {R : Rd} {s B Y : List UInt8} (h : Rat R s (B ++ Y)) {w : Nat} {wi : Int} (hw : wi = (w : Int)) (hB : B.length = w) : (R.raw wi).1 = B ∧ Rat (R.raw wi).2 s Y := by
  obtain ⟨b, s', a, e⟩ := R
  obtain ⟨h1, h3, h4, h2⟩ := h
  dsimp only at h1 h2 h3 h4
  subst h1 h2 hw
  have hl : s'.length - a = w + Y.length := by
    have := congrArg List.length h4
    rw [List.length_drop, List.length_append, hB] at this
    exact this
  rw [raw_go b s' a w (by omega), h4]
  refine ⟨List.take_left' hB, rfl, by dsimp only; omega, ?_, rfl⟩
  dsimp only
  rw [← List.drop_drop, h4]
  exact List.drop_left' hB
theorem Rat.num {R : Rd} {s Y : List UInt8} {n : Int} {w : Nat} (h : Rat R s (lowb n w ++ Y)) {wi : Int} (hw : wi = (w : Int)) (hf : fitN n w) : (be (R.raw wi).1 : Int) = n ∧ Rat (R.raw wi).2 s Y := by
  obtain ⟨h1, h2⟩ := h.raw hw (lowb_len n w)
  rw [h1]
  exact ⟨be_fits hf.1 hf.2, h2⟩
theorem fit2 {t : List UInt8} (h : t.length < 65536) : fitN (t.length : Int) 2 := ⟨by omega, by rw [show ((256 ^ 2 : Nat) : Int) = 65536 by decide]; omega⟩
theorem Rat.text {R : Rd} {s t Y : List UInt8} (h : Rat R s (lowb (t.length : Int) 2 ++ (t ++ Y))) {m : Int} (ht : t.length < 65536) (hm : (t.length : Int) ≤ m) : (R.text m).1 = t ∧ Rat (R.text m).2 s Y := by
  obtain ⟨h1, h2⟩ := h.num (wi := 2) rfl (fit2 ht)
  unfold Rd.text
  rw [h1, if_neg (by omega)]
  exact h2.raw rfl rfl
theorem Rat.fin {R : Rd} {s : List UInt8} (h : Rat R s []) : R.fin = R := by
  have hl := congrArg List.length h.d
  rw [List.length_drop] at hl
  simp only [List.length_nil] at hl
  have ha := h.a
  unfold Rd.fin Rd.left
  rw [h.e, if_pos rfl, h.t, if_neg (by omega)]
def imb (m : api_Image) : List UInt8 := lowb m.Page 2 ++ (lowb (m.Text.length : Int) 2 ++ m.Text)
def tbb (m : api_Active) : List UInt8 := lowb m.Txn 6 ++ lowb m.Last 6
theorem imgo_ok : ∀ (l : List api_Image) (x : Wt), (imgo x l).2 = 0 → (imgo x l).1.2 = 0 → x.2 = 0 ∧ (∀ m ∈ l, m.Text.length = 224 ∧ fitN m.Page 2) ∧ (imgo x l).1.1 = x.1 ++ l.flatMap imb
  | [], x, h1, h2 => ⟨h2, by simp, by simp [imgo]⟩
  | m :: l, x, h1, h2 => by
    unfold imgo at h1 h2 ⊢
    by_cases hm : m.Text.length = 224
    · rw [if_pos hm] at h1 h2 ⊢
      obtain ⟨a1, a2, a3⟩ := imgo_ok l _ h1 h2
      obtain ⟨b1, b2, b3⟩ := layT_ok a1
      obtain ⟨c1, c2, c3⟩ := layN_ok b1
      refine ⟨c1, ?_, ?_⟩
      · intro m' hm'
        rcases List.mem_cons.1 hm' with rfl | hm'
        · exact ⟨hm, c2⟩
        · exact a2 m' hm'
      · rw [a3, b3, c3]
        simp [imb]
    · rw [if_neg hm] at h1
      simp at h1
theorem tbg_ok : ∀ (l : List api_Active) (x : Wt), (tbg x l).2 = 0 → x.2 = 0 ∧ (∀ m ∈ l, fitN m.Txn 6 ∧ fitN m.Last 6) ∧ (tbg x l).1 = x.1 ++ l.flatMap tbb
  | [], x, h => ⟨h, by simp, by simp [tbg]⟩
  | m :: l, x, h => by
    have e : tbg x (m :: l) = tbg (layN (layN x m.Txn 6) m.Last 6) l := rfl
    rw [e] at h ⊢
    obtain ⟨a1, a2, a3⟩ := tbg_ok l _ h
    obtain ⟨b1, b2, b3⟩ := layN_ok a1
    obtain ⟨c1, c2, c3⟩ := layN_ok b1
    refine ⟨c1, ?_, ?_⟩
    · intro m' hm'
      rcases List.mem_cons.1 hm' with rfl | hm'
      · exact ⟨c2, b2⟩
      · exact a2 m' hm'
    · rw [a3, b3, c3]
      simp [tbb]
theorem rim_ok {s : List UInt8} : ∀ (l a : List api_Image) (R : Rd) (Y : List UInt8), (∀ m ∈ l, m.Text.length = 224 ∧ fitN m.Page 2) → Rat R s (l.flatMap imb ++ Y) → (rim l.length R a).1 = a ++ l ∧ Rat (rim l.length R a).2 s Y
  | [], a, R, Y, _, h => ⟨by simp [rim], by simpa [rim] using h⟩
  | m :: l, a, R, Y, hl, h => by
    obtain ⟨h224, hp⟩ := hl m (by simp)
    have h' : Rat R s (lowb m.Page 2 ++ (lowb (m.Text.length : Int) 2 ++ (m.Text ++ (l.flatMap imb ++ Y)))) := by
      have := h
      simp only [List.flatMap_cons, imb, List.append_assoc] at this
      exact this
    obtain ⟨b1, b2⟩ := h'.num (wi := 2) rfl hp
    obtain ⟨c1, c2⟩ := b2.text (m := 224) (by omega) (by omega)
    rw [List.length_cons]
    unfold rim
    rw [if_pos c2.e, b1, c1]
    obtain ⟨d1, d2⟩ := rim_ok l (a ++ [⟨m.Page, m.Text⟩]) _ Y (fun m' hm' => hl m' (by simp [hm'])) c2
    exact ⟨by rw [d1]; simp, d2⟩
theorem rtb_ok {s : List UInt8} : ∀ (l a : List api_Active) (R : Rd) (Y : List UInt8), (∀ m ∈ l, fitN m.Txn 6 ∧ fitN m.Last 6) → Rat R s (l.flatMap tbb ++ Y) → (rtb l.length R a).1 = a ++ l ∧ Rat (rtb l.length R a).2 s Y
  | [], a, R, Y, _, h => ⟨by simp [rtb], by simpa [rtb] using h⟩
  | m :: l, a, R, Y, hl, h => by
    obtain ⟨h1, h2⟩ := hl m (by simp)
    have h' : Rat R s (lowb m.Txn 6 ++ (lowb m.Last 6 ++ (l.flatMap tbb ++ Y))) := by
      have := h
      simp only [List.flatMap_cons, tbb, List.append_assoc] at this
      exact this
    obtain ⟨b1, b2⟩ := h'.num (wi := 6) rfl h1
    obtain ⟨c1, c2⟩ := b2.num (wi := 6) rfl h2
    rw [List.length_cons]
    unfold rtb
    rw [b1, c1]
    obtain ⟨d1, d2⟩ := rtb_ok l (a ++ [⟨m.Txn, m.Last⟩]) _ Y (fun m' hm' => hl m' (by simp [hm'])) c2
    exact ⟨by rw [d1]; simp, d2⟩
theorem bfin_ok {x : Wt} {e : Int} {b : List UInt8} (h : bfin x e = (b, 0)) : e = 0 ∧ x.2 = 0 ∧ x.1 = b ∧ b.length ≤ 4096 := by
  unfold bfin at h
  by_cases he : e = 0
  · rw [if_pos he] at h
    by_cases h0 : x.2 = 0
    · rw [if_pos h0] at h
      by_cases h1 : 4096 < x.1.length
      · rw [if_pos h1] at h
        simp at h
      · rw [if_neg h1] at h
        simp only [Prod.mk.injEq, and_true] at h
        subst h
        exact ⟨he, h0, rfl, by omega⟩
    · rw [if_neg h0] at h
      simp only [Prod.mk.injEq] at h
      exact absurd h.2 h0
  · rw [if_neg he, if_neg he] at h
    simp only [Prod.mk.injEq] at h
    exact absurd h.2 he
theorem cutP_ok {k o n : List UInt8} (h : cutP k o n = 0) : k.length ≤ 16 ∧ o.length ≤ 32 ∧ n.length ≤ 32 := by
  unfold cutP at h
  repeat' split at h
  all_goals first | (cases h; done) | (exact ⟨by omega, by omega, by omega⟩)
theorem Rat.start (b : List UInt8) : Rat ⟨0, b, 0, 0⟩ b b := ⟨rfl, by simp, rfl, rfl⟩
theorem ofin_ok {s : List UInt8} {Q : Rd} {c : Rc} (h : Rat Q s []) (hb : c.body = (s, 0)) : ofin s Q c = (c, 0) := by
  unfold ofin
  rw [h.fin, h.e, if_pos rfl, if_pos hb]
theorem chg_ok {c : Rc} {x : Wt} {act : Int} (h : (chgc x c act).2 = 0) : x.2 = 0 ∧ fitN c.page 2 ∧ c.key.length < 65536 ∧ (act ≠ 3 → c.old.length < 65536) ∧ (act ≠ 4 → c.nw.length < 65536) ∧
    (chgc x c act).1 = x.1 ++ (lowb c.page 2 ++ (lowb (c.key.length : Int) 2 ++ (c.key ++ ((if act = 3 then [] else lowb (c.old.length : Int) 2 ++ c.old) ++ (if act = 4 then [] else lowb (c.nw.length : Int) 2 ++ c.nw))))) := by
  have key : ∀ {y : Wt}, y = layT (layN x c.page 2) c.key → y.2 = 0 → x.2 = 0 ∧ fitN c.page 2 ∧ c.key.length < 65536 ∧ y.1 = x.1 ++ (lowb c.page 2 ++ (lowb (c.key.length : Int) 2 ++ c.key)) := by
    intro y hy h0
    subst hy
    obtain ⟨b1, b2, b3⟩ := layT_ok h0
    obtain ⟨c1, c2, c3⟩ := layN_ok b1
    exact ⟨c1, c2, b2, by rw [b3, c3]; simp⟩
  unfold chgc chgc0 at h ⊢
  by_cases a3 : act = 3
  · have a4 : ¬ act = 4 := by omega
    simp only [a3, if_true, show ¬ (3 : Int) = 4 by decide, if_false] at h ⊢
    obtain ⟨b1, b2, b3⟩ := layT_ok h
    obtain ⟨c1, c2, c3, c4⟩ := key rfl b1
    exact ⟨c1, c2, c3, fun h => absurd rfl h, fun _ => b2, by rw [b3, c4]; simp⟩
  · by_cases a4 : act = 4
    · simp only [a4, if_true, show ¬ (4 : Int) = 3 by decide, if_false] at h ⊢
      obtain ⟨b1, b2, b3⟩ := layT_ok h
      obtain ⟨c1, c2, c3, c4⟩ := key rfl b1
      exact ⟨c1, c2, c3, fun _ => b2, fun h => absurd rfl h, by rw [b3, c4]; simp⟩
    · simp only [a3, a4, if_false] at h ⊢
      obtain ⟨b1, b2, b3⟩ := layT_ok h
      obtain ⟨d1, d2, d3⟩ := layT_ok b1
      obtain ⟨c1, c2, c3, c4⟩ := key rfl d1
      exact ⟨c1, c2, c3, fun _ => d2, fun _ => b2, by rw [b3, d3, c4]; simp⟩
theorem chg_rd {R : Rd} {s : List UInt8} {page act : Int} {key old nw : List UInt8} (hp : fitN page 2) (hk : key.length ≤ 16) (ho : old.length ≤ 32) (hn : nw.length ≤ 32) (o3 : act = 3 → old = []) (n4 : act = 4 → nw = [])
    (h : Rat R s (lowb page 2 ++ (lowb (key.length : Int) 2 ++ (key ++ ((if act = 3 then [] else lowb (old.length : Int) 2 ++ old) ++ (if act = 4 then [] else lowb (nw.length : Int) 2 ++ nw)))))) :
    (be (R.raw 2).1 : Int) = page ∧ (rcK R).1 = key ∧ (rcO R act).1 = old ∧ (rcN R act).1 = nw ∧ Rat (rcN R act).2 s [] := by
  obtain ⟨b1, b2⟩ := h.num (wi := 2) rfl hp
  obtain ⟨c1, c2⟩ := b2.text (m := 16) (by omega) (by omega)
  have e1 : (rcK R).1 = key := c1
  have e2 : Rat (rcK R).2 s _ := c2
  refine ⟨b1, e1, ?_⟩
  unfold rcN
  unfold rcO
  by_cases a3 : act = 3
  · subst a3
    simp only [if_true, show ¬ (3 : Int) = 4 by decide, if_false, List.nil_append] at e2 ⊢
    have e3 : Rat (rcK R).2 s (lowb (nw.length : Int) 2 ++ (nw ++ [])) := by rw [List.append_nil]; exact e2
    obtain ⟨d1, d2⟩ := e3.text (m := 32) (by omega) (by omega)
    exact ⟨(o3 rfl).symm, d1, d2⟩
  · by_cases a4 : act = 4
    · subst a4
      simp only [if_true, show ¬ (4 : Int) = 3 by decide, if_false, List.append_nil] at e2 ⊢
      have e3 : Rat (rcK R).2 s (lowb (old.length : Int) 2 ++ (old ++ [])) := by rw [List.append_nil]; exact e2
      obtain ⟨d1, d2⟩ := e3.text (m := 32) (by omega) (by omega)
      exact ⟨d1, (n4 rfl).symm, d2⟩
    · simp only [a3, a4, if_false] at e2 ⊢
      rw [List.append_assoc] at e2
      obtain ⟨d1, d2⟩ := e2.text (m := 32) (by omega) (by omega)
      have e3 : Rat ((rcK R).2.text 32).2 s (lowb (nw.length : Int) 2 ++ (nw ++ [])) := by rw [List.append_nil]; exact d2
      obtain ⟨f1, f2⟩ := e3.text (m := 32) (by omega) (by omega)
      exact ⟨d1, f1, f2⟩
theorem of_kind {b rest : List UInt8} {kind : Int} (hb : b = lowb kind 1 ++ rest) (hf : fitN kind 1) : ∃ R1, Rat R1 b rest ∧ ofP 0 b = ofin b (rof R1 kind).2 (rof R1 kind).1 := by
  have h0 := Rat.start b
  rw [show Rat ⟨0, b, 0, 0⟩ b b ↔ Rat ⟨0, b, 0, 0⟩ b (lowb kind 1 ++ rest) by rw [← hb]] at h0
  obtain ⟨b1, b2⟩ := h0.num (wi := 1) rfl hf
  refine ⟨_, b2, ?_⟩
  unfold ofP
  rw [if_pos b2.e, b1]
theorem nat_eq {a b : Nat} (h : (a : Int) = (b : Int)) : a = b := by omega
theorem of_body {c : Rc} (hc : c.clean = c) (hli : c.imgs.length ≤ 255) (hlt : c.tbl.length ≤ 255) {b : List UInt8} (h : c.body = (b, 0)) : ofP 0 b = (c, 0) := by
  have hbody := h
  obtain ⟨kind, txn, prev, page, act, key, old, nw, next, imgs, tbl, epoch, node⟩ := c
  unfold Rc.body at h
  dsimp only at h hli hlt
  have f1 : ∀ n : Nat, n ≤ 255 → fitN (n : Int) 1 := fun n hn => ⟨by omega, by rw [show ((256 ^ 1 : Nat) : Int) = 256 by decide]; omega⟩
  by_cases k12 : kind = 1 ∨ kind = 2
  · have h' : bfin (ims (layN ([], 0) kind 1) imgs).1 (ims (layN ([], 0) kind 1) imgs).2 = (b, 0) := by
      rcases k12 with rfl | rfl
      · rw [if_pos rfl] at h
        split at h
        · exact h
        · cases h
      · rw [if_neg (by decide), if_pos rfl] at h
        exact h
    obtain ⟨a1, a2, a3, _⟩ := bfin_ok h'
    unfold ims at a1 a2 a3
    obtain ⟨b1, b2, b3⟩ := imgo_ok _ _ a1 a2
    obtain ⟨c1, c2, c3⟩ := layN_ok b1
    obtain ⟨d1, d2, d3⟩ := layN_ok c1
    rw [a3] at b3
    have hb : b = lowb kind 1 ++ (lowb (imgs.length : Int) 1 ++ (imgs.flatMap imb ++ [])) := by rw [b3, c3, d3]; simp
    obtain ⟨R1, r1, r2⟩ := of_kind hb d2
    obtain ⟨e1, e2⟩ := r1.num (wi := 1) rfl (f1 _ hli)
    obtain ⟨g1, g2⟩ := rim_ok imgs [] _ _ b2 e2
    have hr : rof R1 kind = (⟨kind, txn, prev, page, act, key, old, nw, next, imgs, tbl, epoch, node⟩, (rim imgs.length (R1.raw 1).2 []).2) := by
      rw [← hc]
      unfold rof Rc.clean
      dsimp only
      rw [if_pos k12, if_pos k12, nat_eq e1, g1, List.nil_append]
    rw [r2, hr]
    exact ofin_ok g2 hbody
  rw [if_neg (by omega), if_neg (by omega)] at h
  by_cases k6 : kind = 6
  · subst k6
    rw [if_pos rfl] at h
    by_cases ha : act < 3 ∨ 5 < act
    · rw [if_pos ha] at h
      cases h
    rw [if_neg ha] at h
    obtain ⟨a1, a2, a3, _⟩ := bfin_ok h
    obtain ⟨q1, q2, q3⟩ := cutP_ok a1
    obtain ⟨b1, b2, b3, b4, b5, b6⟩ := chg_ok a2
    obtain ⟨c1, c2, c3⟩ := layN_ok b1
    obtain ⟨d1, d2, d3⟩ := layN_ok c1
    unfold lnkc at d1 d3
    obtain ⟨e1, e2, e3⟩ := layN_ok d1
    obtain ⟨f1, f2, f3⟩ := layN_ok e1
    obtain ⟨g1, g2, g3⟩ := layN_ok f1
    rw [a3] at b6
    unfold lnkc at b6 c3
    dsimp only at b2 b3 b4 b5 b6 c2 d2 e2 f2 g2
    simp only [c3, d3, e3, f3, g3] at b6
    have hb : b = lowb 6 1 ++ (lowb txn 6 ++ (lowb prev 6 ++ (lowb next 6 ++ (lowb act 1 ++ (lowb page 2 ++ (lowb (key.length : Int) 2 ++ (key ++ ((if act = 3 then [] else lowb (old.length : Int) 2 ++ old) ++ (if act = 4 then [] else lowb (nw.length : Int) 2 ++ nw))))))))) := by
      rw [b6]; simp
    obtain ⟨R1, r1, r2⟩ := of_kind hb g2
    obtain ⟨u1, u2⟩ := r1.num (wi := 6) rfl f2
    obtain ⟨v1, v2⟩ := u2.num (wi := 6) rfl e2
    obtain ⟨w1, w2⟩ := v2.num (wi := 6) rfl d2
    obtain ⟨x1, x2⟩ := w2.num (wi := 1) rfl c2
    have h3 : act = 3 → old = [] := fun h3 => by
      have := congrArg Rc.old hc
      subst h3
      simpa [Rc.clean, tdy] using this.symm
    have h4 : act = 4 → nw = [] := fun h4 => by
      have := congrArg Rc.nw hc
      subst h4
      simpa [Rc.clean, tdy] using this.symm
    obtain ⟨y1, y2, y3, y4, y5⟩ := chg_rd b2 q1 q2 q3 h3 h4 x2
    have hr : (rof R1 6).1 = ⟨6, txn, prev, page, act, key, old, nw, next, imgs, tbl, epoch, node⟩ ∧ Rat (rof R1 6).2 b [] := by
      unfold rof
      rw [if_neg (by decide), if_pos rfl]
      dsimp only
      rw [u1, v1, w1, x1, y1, y2, y3, y4]
      refine ⟨?_, y5⟩
      rw [← hc]
      unfold Rc.clean tdy
      dsimp only
      rw [if_neg (by decide), if_neg (by decide), if_pos rfl]
      by_cases z3 : act = 3
      · rw [if_pos z3, h3 z3]; rfl
      · by_cases z4 : act = 4
        · rw [if_neg z3, if_pos z4, h4 z4]; rfl
        · rw [if_neg z3, if_neg z4]; rfl
    rw [r2, hr.1]
    exact ofin_ok hr.2 hbody
  rw [if_neg k6] at h
  by_cases k345 : kind = 3 ∨ kind = 4 ∨ kind = 5
  · rw [if_pos k345] at h
    obtain ⟨a1, a2, a3, _⟩ := bfin_ok h
    obtain ⟨q1, q2, q3⟩ := cutP_ok a1
    obtain ⟨b1, b2, b3, b4, b5, b6⟩ := chg_ok a2
    rw [a3] at b6
    unfold lnkc at b1 b6
    obtain ⟨e1, e2, e3⟩ := layN_ok b1
    obtain ⟨f1, f2, f3⟩ := layN_ok e1
    obtain ⟨g1, g2, g3⟩ := layN_ok f1
    dsimp only at b2 b3 b4 b5 b6 e2 f2 g2
    simp only [e3, f3, g3] at b6
    have hb : b = lowb kind 1 ++ (lowb txn 6 ++ (lowb prev 6 ++ (lowb page 2 ++ (lowb (key.length : Int) 2 ++ (key ++ ((if kind = 3 then [] else lowb (old.length : Int) 2 ++ old) ++ (if kind = 4 then [] else lowb (nw.length : Int) 2 ++ nw))))))) := by
      rw [b6]; simp
    obtain ⟨R1, r1, r2⟩ := of_kind hb g2
    obtain ⟨u1, u2⟩ := r1.num (wi := 6) rfl f2
    obtain ⟨v1, v2⟩ := u2.num (wi := 6) rfl e2
    have h3 : kind = 3 → old = [] := fun h3 => by
      have := congrArg Rc.old hc
      subst h3
      simpa [Rc.clean, tdy] using this.symm
    have h4 : kind = 4 → nw = [] := fun h4 => by
      have := congrArg Rc.nw hc
      subst h4
      simpa [Rc.clean, tdy] using this.symm
    obtain ⟨y1, y2, y3, y4, y5⟩ := chg_rd b2 q1 q2 q3 h3 h4 v2
    have hr : (rof R1 kind).1 = ⟨kind, txn, prev, page, act, key, old, nw, next, imgs, tbl, epoch, node⟩ ∧ Rat (rof R1 kind).2 b [] := by
      unfold rof
      rw [if_neg k12, if_neg k6, if_pos k345]
      dsimp only
      rw [u1, v1, y1, y2, y3, y4]
      refine ⟨?_, y5⟩
      rw [← hc]
      unfold Rc.clean tdy
      dsimp only
      rw [if_neg k12, if_pos k345]
      by_cases z3 : kind = 3
      · rw [if_pos z3, h3 z3]; rfl
      · by_cases z4 : kind = 4
        · rw [if_neg z3, if_pos z4, h4 z4]; rfl
        · rw [if_neg z3, if_neg z4]; rfl
    rw [r2, hr.1]
    exact ofin_ok hr.2 hbody
  rw [if_neg k345] at h
  by_cases k78 : kind = 7 ∨ kind = 8
  · rw [if_pos k78] at h
    obtain ⟨a1, a2, a3, _⟩ := bfin_ok h
    unfold lnkc at a2 a3
    obtain ⟨e1, e2, e3⟩ := layN_ok a2
    obtain ⟨f1, f2, f3⟩ := layN_ok e1
    obtain ⟨g1, g2, g3⟩ := layN_ok f1
    have hb : b = lowb kind 1 ++ (lowb txn 6 ++ (lowb prev 6 ++ [])) := by rw [← a3, e3, f3, g3]; simp
    obtain ⟨R1, r1, r2⟩ := of_kind hb g2
    obtain ⟨u1, u2⟩ := r1.num (wi := 6) rfl f2
    obtain ⟨v1, v2⟩ := u2.num (wi := 6) rfl e2
    have hr : (rof R1 kind).1 = ⟨kind, txn, prev, page, act, key, old, nw, next, imgs, tbl, epoch, node⟩ ∧ Rat (rof R1 kind).2 b [] := by
      unfold rof
      rw [if_neg k12, if_neg k6, if_neg k345, if_pos k78]
      dsimp only
      rw [u1, v1]
      refine ⟨?_, v2⟩
      rw [← hc]
      unfold Rc.clean
      dsimp only
      rw [if_neg k12, if_neg k345, if_neg k6, if_pos k78]
    rw [r2, hr.1]
    exact ofin_ok hr.2 hbody
  rw [if_neg k78] at h
  by_cases k9 : kind = 9
  · rw [if_pos k9] at h
    obtain ⟨a1, a2, a3, _⟩ := bfin_ok h
    obtain ⟨b1, b2, b3⟩ := tbg_ok _ _ a2
    obtain ⟨c1, c2, c3⟩ := layN_ok b1
    obtain ⟨d1, d2, d3⟩ := layN_ok c1
    rw [a3] at b3
    have hb : b = lowb kind 1 ++ (lowb (tbl.length : Int) 1 ++ (tbl.flatMap tbb ++ [])) := by rw [b3, c3, d3]; simp
    obtain ⟨R1, r1, r2⟩ := of_kind hb d2
    obtain ⟨e1, e2⟩ := r1.num (wi := 1) rfl (f1 _ hlt)
    obtain ⟨g1, g2⟩ := rtb_ok tbl [] _ _ b2 e2
    have hr : rof R1 kind = (⟨kind, txn, prev, page, act, key, old, nw, next, imgs, tbl, epoch, node⟩, (rtb tbl.length (R1.raw 1).2 []).2) := by
      rw [← hc]
      unfold rof Rc.clean
      dsimp only
      rw [if_neg k12, if_neg k6, if_neg k345, if_neg k78, if_pos k9, if_neg k12, if_neg k345, if_neg k6, if_neg k78, if_pos k9, nat_eq e1, g1, List.nil_append]
    rw [r2, hr]
    exact ofin_ok g2 hbody
  rw [if_neg k9] at h
  by_cases k10 : kind = 10
  · rw [if_pos k10] at h
    obtain ⟨a1, a2, a3, _⟩ := bfin_ok h
    obtain ⟨e1, e2, e3⟩ := layN_ok a2
    obtain ⟨f1, f2, f3⟩ := layN_ok e1
    obtain ⟨g1, g2, g3⟩ := layN_ok f1
    have hb : b = lowb kind 1 ++ (lowb epoch 4 ++ (lowb node 1 ++ [])) := by rw [← a3, e3, f3, g3]; simp
    obtain ⟨R1, r1, r2⟩ := of_kind hb g2
    obtain ⟨u1, u2⟩ := r1.num (wi := 4) rfl f2
    obtain ⟨v1, v2⟩ := u2.num (wi := 1) rfl e2
    have hr : (rof R1 kind).1 = ⟨kind, txn, prev, page, act, key, old, nw, next, imgs, tbl, epoch, node⟩ ∧ Rat (rof R1 kind).2 b [] := by
      unfold rof
      rw [if_neg k12, if_neg k6, if_neg k345, if_neg k78, if_neg k9, if_pos k10]
      dsimp only
      rw [u1, v1]
      refine ⟨?_, v2⟩
      rw [← hc]
      unfold Rc.clean
      dsimp only
      rw [if_neg k12, if_neg k345, if_neg k6, if_neg k78, if_neg k9, if_pos k10]
    rw [r2, hr.1]
    exact ofin_ok hr.2 hbody
  rw [if_neg k10] at h
  cases h
theorem tdy_kind (c : Rc) (a : Int) : (tdy c a).kind = c.kind ∧ (tdy c a).act = c.act ∧ (tdy c a).txn = c.txn ∧ (tdy c a).prev = c.prev ∧ (tdy c a).page = c.page ∧ (tdy c a).key = c.key ∧ (tdy c a).next = c.next ∧ (tdy c a).imgs = c.imgs ∧ (tdy c a).tbl = c.tbl ∧ (tdy c a).epoch = c.epoch ∧ (tdy c a).node = c.node := by
  unfold tdy
  repeat' split
  all_goals exact ⟨rfl, rfl, rfl, rfl, rfl, rfl, rfl, rfl, rfl, rfl, rfl⟩
theorem clean_idem (c : Rc) : c.clean.clean = c.clean := by
  obtain ⟨kind, txn, prev, page, act, key, old, nw, next, imgs, tbl, epoch, node⟩ := c
  by_cases k12 : kind = 1 ∨ kind = 2
  · have e : (Rc.clean ⟨kind, txn, prev, page, act, key, old, nw, next, imgs, tbl, epoch, node⟩) = { Rc.z kind with imgs := imgs } := by
      unfold Rc.clean; dsimp only; rw [if_pos k12]
    rw [e]
    unfold Rc.clean Rc.z
    dsimp only
    rw [if_pos k12]
  by_cases k345 : kind = 3 ∨ kind = 4 ∨ kind = 5
  · have e : (Rc.clean ⟨kind, txn, prev, page, act, key, old, nw, next, imgs, tbl, epoch, node⟩) = tdy { Rc.z kind with txn := txn, prev := prev, page := page, key := key, old := old, nw := nw } kind := by
      unfold Rc.clean; dsimp only; rw [if_neg k12, if_pos k345]
    rw [e]
    unfold tdy
    by_cases h3 : kind = 3
    · subst h3; rfl
    by_cases h4 : kind = 4
    · subst h4; rfl
    obtain rfl : kind = 5 := by omega
    rfl
  by_cases k6 : kind = 6
  · subst k6
    have e : (Rc.clean ⟨6, txn, prev, page, act, key, old, nw, next, imgs, tbl, epoch, node⟩) = tdy { Rc.z 6 with txn := txn, prev := prev, next := next, act := act, page := page, key := key, old := old, nw := nw } act := rfl
    rw [e]
    unfold tdy
    by_cases h3 : act = 3
    · subst h3; rfl
    by_cases h4 : act = 4
    · subst h4; rfl
    rw [if_neg h3, if_neg h4]
    exact e.trans (by unfold tdy; rw [if_neg h3, if_neg h4])
  by_cases k78 : kind = 7 ∨ kind = 8
  · have e : (Rc.clean ⟨kind, txn, prev, page, act, key, old, nw, next, imgs, tbl, epoch, node⟩) = { Rc.z kind with txn := txn, prev := prev } := by
      unfold Rc.clean; dsimp only; rw [if_neg k12, if_neg k345, if_neg k6, if_pos k78]
    rw [e]
    unfold Rc.clean Rc.z
    dsimp only
    rw [if_neg k12, if_neg k345, if_neg k6, if_pos k78]
  by_cases k9 : kind = 9
  · subst k9; rfl
  by_cases k10 : kind = 10
  · subst k10; rfl
  have e : (Rc.clean ⟨kind, txn, prev, page, act, key, old, nw, next, imgs, tbl, epoch, node⟩) = Rc.z kind := by
    unfold Rc.clean; dsimp only; rw [if_neg k12, if_neg k345, if_neg k6, if_neg k78, if_neg k9, if_neg k10]
  rw [e]
  unfold Rc.clean Rc.z
  dsimp only
  rw [if_neg k12, if_neg k345, if_neg k6, if_neg k78, if_neg k9, if_neg k10]
theorem clean_lists (c : Rc) (h1 : c.imgs.length ≤ 255) (h2 : c.tbl.length ≤ 255) : c.clean.imgs.length ≤ 255 ∧ c.clean.tbl.length ≤ 255 := by
  have t1 : ∀ (x : Rc) (a : Int), (tdy x a).imgs = x.imgs := fun x a => (tdy_kind x a).2.2.2.2.2.2.2.1
  have t2 : ∀ (x : Rc) (a : Int), (tdy x a).tbl = x.tbl := fun x a => (tdy_kind x a).2.2.2.2.2.2.2.2.1
  unfold Rc.clean
  repeat' split
  all_goals
    constructor
    all_goals first | exact h1 | exact h2 | (simp only [t1, t2]; simp [Rc.z]; done) | (simp [Rc.z]; done)
theorem rof_clean (R : Rd) (k : Int) : (rof R k).1.clean = (rof R k).1 := by
  by_cases k12 : k = 1 ∨ k = 2
  · unfold rof
    rw [if_pos k12]
    dsimp only
    unfold Rc.clean Rc.z
    dsimp only
    rw [if_pos k12]
  by_cases k6 : k = 6
  · subst k6
    unfold rof
    rw [if_neg (by decide), if_pos rfl]
    dsimp only
    generalize (be ((((R.raw 6).2.raw 6).2.raw 6).2.raw 1).1 : Int) = a
    generalize ((((R.raw 6).2.raw 6).2.raw 6).2.raw 1).2 = Q
    unfold Rc.clean
    dsimp only
    rw [if_neg (by decide), if_neg (by decide), if_pos rfl]
    unfold tdy rcN rcO
    by_cases h3 : a = 3
    · subst h3; rfl
    by_cases h4 : a = 4
    · subst h4; rfl
    rw [if_neg h3, if_neg h4]
    rfl
  by_cases k345 : k = 3 ∨ k = 4 ∨ k = 5
  · unfold rof
    rw [if_neg k12, if_neg k6, if_pos k345]
    dsimp only
    unfold Rc.clean
    dsimp only
    rw [if_neg k12, if_pos k345]
    unfold tdy rcN rcO
    by_cases h3 : k = 3
    · subst h3; rfl
    by_cases h4 : k = 4
    · subst h4; rfl
    rw [if_neg h3, if_neg h4]
    rfl
  by_cases k78 : k = 7 ∨ k = 8
  · unfold rof
    rw [if_neg k12, if_neg k6, if_neg k345, if_pos k78]
    dsimp only
    unfold Rc.clean Rc.z
    dsimp only
    rw [if_neg k12, if_neg k345, if_neg k6, if_pos k78]
  by_cases k9 : k = 9
  · subst k9
    rfl
  by_cases k10 : k = 10
  · subst k10
    rfl
  unfold rof
  rw [if_neg k12, if_neg k6, if_neg k345, if_neg k78, if_neg k9, if_neg k10]
  dsimp only
  unfold Rc.clean Rc.z
  dsimp only
  rw [if_neg k12, if_neg k345, if_neg k6, if_neg k78, if_neg k9, if_neg k10]
theorem rof_lists (R : Rd) (k : Int) : (rof R k).1.imgs.length ≤ 255 ∧ (rof R k).1.tbl.length ≤ 255 := by
  have h1 := rim_len (be (R.raw 1).1) (R.raw 1).2 []
  have h2 := rtb_len (be (R.raw 1).1) (R.raw 1).2 []
  have h3 := num1 R
  simp only [List.length_nil, Nat.add_zero] at h1 h2
  unfold rof
  repeat' split
  all_goals
    constructor
    all_goals first | (simp [Rc.z]; done) | (dsimp only; omega)
theorem of_nil : (ofP 0 []).2 ≠ 0 := by
  have e : (⟨0, [], 0, 0⟩ : Rd).raw 1 = ([], ⟨0, [], 0, 2⟩) := rfl
  unfold ofP
  rw [e]
  decide
def Rc.short (c : Rc) : Prop := c.imgs.length ≤ 255 ∧ c.tbl.length ≤ 255
theorem frame_ok {c : Rc} (hs : c.short) {f : List UInt8} (h : c.frame = (f, 0)) : ∃ b, c.clean.body = (b, 0) ∧ f = lowb (b.length : Int) 2 ++ (lowb (sm b) 4 ++ b) ∧ 1 ≤ b.length ∧ b.length ≤ 4096 ∧ ofP 0 b = (c.clean, 0) := by
  unfold Rc.frame at h
  have hle := c.clean.body_le
  obtain ⟨l1, l2⟩ := clean_lists c hs.1 hs.2
  have ob := fun b => of_body (clean_idem c) l1 l2 (b := b)
  generalize c.clean.body = x at *
  obtain ⟨b, e⟩ := x
  dsimp only at h hle
  by_cases he : e = 0
  · rw [if_pos he] at h
    simp only [Prod.mk.injEq, and_true] at h
    subst he
    have o := ob b rfl
    refine ⟨b, rfl, h.symm, ?_, hle, o⟩
    rcases b with _ | ⟨x, r⟩
    · exact absurd (congrArg Prod.snd o) of_nil
    · simp
  · rw [if_neg he] at h
    simp only [Prod.mk.injEq] at h
    exact absurd h.2 he
theorem frame_len {c : Rc} (hs : c.short) {f : List UInt8} (h : c.frame = (f, 0)) : 7 ≤ f.length ∧ f.length ≤ 4102 := by
  obtain ⟨b, _, rfl, h1, h2, _⟩ := frame_ok hs h
  simp only [List.length_append, lowb_len]
  omega
theorem hd2 {n : Int} {B Y : List UInt8} : (lowb n 2 ++ B ++ Y).take 2 = lowb n 2 := by
  rw [List.append_assoc]
  exact List.take_left' (lowb_len _ _)
theorem opn0_frame {c : Rc} (hs : c.short) {f : List UInt8} (h : c.frame = (f, 0)) (Y : List UInt8) : opn0 (f ++ Y) = (c.clean, (f.length : Int), 0) := by
  obtain ⟨b, hb, rfl, h1, h2, ho⟩ := frame_ok hs h
  have e2 : be (lowb (b.length : Int) 2) = b.length := nat_eq (be_fits (by omega) (by rw [show ((256 ^ 2 : Nat) : Int) = 65536 by decide]; omega))
  have l2 := lowb_len (b.length : Int) 2
  have l4 := lowb_len (sm b) 4
  have ed : ((lowb (b.length : Int) 2 ++ (lowb (sm b) 4 ++ b) ++ Y).drop 2).take (4 + b.length) = lowb (sm b) 4 ++ b := by
    rw [List.append_assoc, List.drop_left' l2]
    exact List.take_left' (by rw [List.length_append, l4])
  unfold opn0
  rw [hd2, e2, ed, unsl_seal]
  rw [if_neg (by simp only [List.length_append, l2, l4]; omega), if_neg (by omega), if_neg (by simp only [List.length_append, l2, l4]; omega), if_pos rfl, ho, if_pos rfl]
  simp only [List.length_append, l2, l4, Prod.mk.injEq, true_and, and_true]
  omega
theorem opn0_ok {t : List UInt8} {c : Rc} {n : Int} (h : opn0 t = (c, n, 0)) : c.short ∧ c.clean = c ∧ ∃ f Y, t = f ++ Y ∧ c.frame = (f, 0) ∧ n = (f.length : Int) := by
  unfold opn0 at h
  by_cases t6 : t.length < 6
  · rw [if_pos t6] at h
    simp at h
  rw [if_neg t6] at h
  by_cases m1 : be (t.take 2) < 1 ∨ 4096 < be (t.take 2)
  · rw [if_pos m1] at h
    simp at h
  rw [if_neg m1] at h
  by_cases m2 : t.length < 6 + be (t.take 2)
  · rw [if_pos m2] at h
    simp at h
  rw [if_neg m2] at h
  have hl2 : (t.take 2).length = 2 := by rw [List.length_take]; omega
  have hm : t.take 2 = lowb (be (t.take 2) : Int) 2 := (lowb_be hl2).symm
  generalize hmm : be (t.take 2) = m at *
  have hlu : ((t.drop 2).take (4 + m)).length = 4 + m := by rw [List.length_take, List.length_drop]; omega
  by_cases hu : (unsl ((t.drop 2).take (4 + m))).2 = 0
  · rw [if_pos hu] at h
    generalize hU : (t.drop 2).take (4 + m) = U at *
    have eU : unsl U = if (be (U.take 4) : Int) = sm (U.drop 4) then (U.drop 4, 0) else ([], 5) := by
      unfold unsl
      rw [if_neg (by omega)]
    rw [eU] at hu h
    by_cases hsum : (be (U.take 4) : Int) = sm (U.drop 4)
    · rw [if_pos hsum] at h
      have hb : (U.drop 4).length = m := by rw [List.length_drop]; omega
      generalize hBB : U.drop 4 = b at *
      have hl4 : (U.take 4).length = 4 := by rw [List.length_take]; omega
      have hU4 : U = lowb (sm b) 4 ++ b := by
        rw [← hsum, lowb_be hl4, ← hBB, List.take_append_drop]
      generalize hoo : ofP 0 b = o at *
      obtain ⟨c', e⟩ := o
      by_cases he : e = 0
      · rw [if_pos he] at h
        simp only [Prod.mk.injEq, and_true] at h
        obtain ⟨hc, hn⟩ := h
        subst he hc
        have key : c'.body = (b, 0) ∧ c'.clean = c' ∧ c'.short := by
          unfold ofP at hoo
          split at hoo
          · unfold ofin at hoo
            split at hoo
            · split at hoo
              · rename_i hbd
                simp only [Prod.mk.injEq, and_true] at hoo
                subst hoo
                exact ⟨hbd, rof_clean _ _, rof_lists _ _⟩
              · cases hoo
            · rename_i hne
              simp only [Prod.mk.injEq] at hoo
              exact absurd hoo.2 hne
          · rename_i hne
            simp only [Prod.mk.injEq] at hoo
            exact absurd hoo.2 hne
        obtain ⟨k1, k2, k3⟩ := key
        refine ⟨k3, k2, lowb (b.length : Int) 2 ++ (lowb (sm b) 4 ++ b), t.drop (6 + m), ?_, ?_, ?_⟩
        · have e1 : t = t.take 2 ++ ((t.drop 2).take (4 + m) ++ (t.drop 2).drop (4 + m)) := by rw [List.take_append_drop, List.take_append_drop]
          rw [List.drop_drop, show 2 + (4 + m) = 6 + m by omega, hU, hU4, hm, ← hb] at e1
          rw [hb] at e1 ⊢
          rw [List.append_assoc]
          exact e1
        · unfold Rc.frame
          rw [k2, k1, if_pos rfl]
        · rw [← hn]
          simp only [List.length_append, lowb_len]
          omega
      · rw [if_neg he] at h
        simp only [Prod.mk.injEq] at h
        exact absurd h.2.2 he
    · rw [if_neg hsum] at hu
      cases hu
  · rw [if_neg hu] at h
    simp only [Prod.mk.injEq] at h
    exact absurd h.2.2 hu
end Go.Sp
namespace Go.Proofs
open Go.Shelf
def Tryz.lays105_ren : Go.Shelf.Ren := ⟨fun | 105 => 106 | 212 => 131 | 99 => 132 | 165 => 133 | 166 => 58 | 170 => 134 | 169 => 60 | 263 => 152 | 264 => 153 | 206 => 154 | 240 => 84 | 241 => 155 | 276 => 107 | 277 => 164 | n => n, fun | 9 => 9 | 3 => 3 | 4 => 4 | 20 => 20 | 0 => 0 | 46 => 149 | 109 => 193 | 5 => 5 | 72 => 110 | 76 => 117 | 51 => 185 | 146 => 211 | 53 => 69 | 148 => 213 | 70 => 107 | 37 => 108 | 75 => 116 | 127 => 150 | 164 => 169 | 80 => 120 | n => n, fun | n => n⟩
theorem Tryz.lays105 : Go.Proofs.Lays.n105 Tryz.prog Tryz.lays105_ren := {
  mixed := by kernel_rfl
  f99 := Tryz.func132.trans (congrArg some (by kernel_rfl))
  f105 := Tryz.func106.trans (congrArg some (by kernel_rfl))
  f165 := Tryz.func133.trans (congrArg some (by kernel_rfl))
  f166 := Tryz.func58.trans (congrArg some (by kernel_rfl))
  f169 := Tryz.func60.trans (congrArg some (by kernel_rfl))
  f170 := Tryz.func134.trans (congrArg some (by kernel_rfl))
  f206 := Tryz.func154.trans (congrArg some (by kernel_rfl))
  f212 := Tryz.func131.trans (congrArg some (by kernel_rfl))
  f240 := Tryz.func84.trans (congrArg some (by kernel_rfl))
  f241 := Tryz.func155.trans (congrArg some (by kernel_rfl))
  f263 := Tryz.func152.trans (congrArg some (by kernel_rfl))
  f264 := Tryz.func153.trans (congrArg some (by kernel_rfl))
  f276 := Tryz.func107.trans (congrArg some (by kernel_rfl))
  f277 := Tryz.func164.trans (congrArg some (by kernel_rfl))
  t0 := Tryz.underlying0
  a0 := Tryz.isAgg0
  z0 := Tryz.sizeOf0
  v0 := Tryz.zeroValue0
  t3 := Tryz.underlying3
  a3 := Tryz.isAgg3
  z3 := Tryz.sizeOf3
  v3 := Tryz.zeroValue3
  t4 := Tryz.underlying4
  a4 := Tryz.isAgg4
  z4 := Tryz.sizeOf4
  v4 := Tryz.zeroValue4
  t5 := Tryz.underlying5
  a5 := Tryz.isAgg5
  z5 := Tryz.sizeOf5
  v5 := Tryz.zeroValue5
  t9 := Tryz.underlying9
  a9 := Tryz.isAgg9
  z9 := Tryz.sizeOf9
  v9 := Tryz.zeroValue9
  t20 := Tryz.underlying20
  a20 := Tryz.isAgg20
  z20 := Tryz.sizeOf20
  v20 := Tryz.zeroValue20
  t37 := Tryz.underlying108
  a37 := Tryz.isAgg108
  z37 := Tryz.sizeOf108
  v37 := Tryz.zeroValue108
  t46 := Tryz.underlying149
  a46 := Tryz.isAgg149
  z46 := Tryz.sizeOf149
  v46 := Tryz.zeroValue149
  t51 := Tryz.underlying185
  a51 := Tryz.isAgg185
  z51 := Tryz.sizeOf185
  v51 := Tryz.zeroValue185
  t53 := Tryz.underlying69
  a53 := Tryz.isAgg69
  z53 := Tryz.sizeOf69
  v53 := Tryz.zeroValue69
  t70 := Tryz.underlying107
  a70 := Tryz.isAgg107
  z70 := Tryz.sizeOf107
  v70 := Tryz.zeroValue107
  t72 := Tryz.underlying110
  a72 := Tryz.isAgg110
  z72 := Tryz.sizeOf110
  v72 := Tryz.zeroValue110
  t75 := Tryz.underlying116
  a75 := Tryz.isAgg116
  z75 := Tryz.sizeOf116
  v75 := Tryz.zeroValue116
  t76 := Tryz.underlying117
  a76 := Tryz.isAgg117
  z76 := Tryz.sizeOf117
  v76 := Tryz.zeroValue117
  t109 := Tryz.underlying193
  a109 := Tryz.isAgg193
  z109 := Tryz.sizeOf193
  v109 := Tryz.zeroValue193
  t127 := Tryz.underlying150
  a127 := Tryz.isAgg150
  z127 := Tryz.sizeOf150
  v127 := Tryz.zeroValue150
  t146 := Tryz.underlying211
  a146 := Tryz.isAgg211
  z146 := Tryz.sizeOf211
  v146 := Tryz.zeroValue211
  t148 := Tryz.underlying213
  a148 := Tryz.isAgg213
  z148 := Tryz.sizeOf213
  v148 := Tryz.zeroValue213
  t164 := Tryz.underlying169
  a164 := Tryz.isAgg169
  z164 := Tryz.sizeOf169
  v164 := Tryz.zeroValue169 }
theorem Tryz.builder : Builder.Extra Tryz.prog Tryz.lays105_ren := {
  sizeBuilder := by kernel_rfl
  liesBuilder := by kernel_rfl
  t5 := Tryz.underlying5
  a5 := Tryz.isAgg5
  z5 := Tryz.sizeOf5
  v5 := Tryz.zeroValue5
  infoByte := by kernel_rfl
  cellsByte := by kernel_rfl
  sizeByte := by kernel_rfl
  neB5 := by decide }
def Tryz.lays169_ren : Go.Shelf.Ren := ⟨fun | 169 => 60 | n => n, fun | 70 => 107 | 9 => 9 | 0 => 0 | 72 => 110 | 37 => 108 | 127 => 150 | 3 => 3 | 5 => 5 | n => n, fun | n => n⟩
theorem Tryz.lays169 : Go.Proofs.Lays.n169 Tryz.prog Tryz.lays169_ren := {
  mixed := by kernel_rfl
  f169 := Tryz.func60.trans (congrArg some (by kernel_rfl))
  t0 := Tryz.underlying0
  a0 := Tryz.isAgg0
  z0 := Tryz.sizeOf0
  v0 := Tryz.zeroValue0
  t3 := Tryz.underlying3
  a3 := Tryz.isAgg3
  z3 := Tryz.sizeOf3
  v3 := Tryz.zeroValue3
  t9 := Tryz.underlying9
  a9 := Tryz.isAgg9
  z9 := Tryz.sizeOf9
  v9 := Tryz.zeroValue9
  t37 := Tryz.underlying108
  a37 := Tryz.isAgg108
  z37 := Tryz.sizeOf108
  v37 := Tryz.zeroValue108
  t70 := Tryz.underlying107
  a70 := Tryz.isAgg107
  z70 := Tryz.sizeOf107
  v70 := Tryz.zeroValue107
  t72 := Tryz.underlying110
  a72 := Tryz.isAgg110
  z72 := Tryz.sizeOf110
  v72 := Tryz.zeroValue110
  t127 := Tryz.underlying150
  a127 := Tryz.isAgg150
  z127 := Tryz.sizeOf150
  v127 := Tryz.zeroValue150 }
theorem Tryz.builderS : Builder.Extra Tryz.prog Tryz.lays169_ren := {
  sizeBuilder := by kernel_rfl
  liesBuilder := by kernel_rfl
  t5 := Tryz.underlying5
  a5 := Tryz.isAgg5
  z5 := Tryz.sizeOf5
  v5 := Tryz.zeroValue5
  infoByte := by kernel_rfl
  cellsByte := by kernel_rfl
  sizeByte := by kernel_rfl
  neB5 := by decide }
def Tryz.lays166_ren : Go.Shelf.Ren := ⟨fun | 166 => 58 | 240 => 84 | 276 => 107 | n => n, fun | 70 => 107 | 72 => 110 | 37 => 108 | 75 => 116 | 80 => 120 | 164 => 169 | n => n, fun | n => n⟩
theorem Tryz.lays166 : Go.Proofs.Lays.n166 Tryz.prog Tryz.lays166_ren := {
  mixed := by kernel_rfl
  f166 := Tryz.func58.trans (congrArg some (by kernel_rfl))
  f240 := Tryz.func84.trans (congrArg some (by kernel_rfl))
  f276 := Tryz.func107.trans (congrArg some (by kernel_rfl))
  t0 := Tryz.underlying0
  a0 := Tryz.isAgg0
  z0 := Tryz.sizeOf0
  v0 := Tryz.zeroValue0
  t3 := Tryz.underlying3
  a3 := Tryz.isAgg3
  z3 := Tryz.sizeOf3
  v3 := Tryz.zeroValue3
  t4 := Tryz.underlying4
  a4 := Tryz.isAgg4
  z4 := Tryz.sizeOf4
  v4 := Tryz.zeroValue4
  t9 := Tryz.underlying9
  a9 := Tryz.isAgg9
  z9 := Tryz.sizeOf9
  v9 := Tryz.zeroValue9
  t20 := Tryz.underlying20
  a20 := Tryz.isAgg20
  z20 := Tryz.sizeOf20
  v20 := Tryz.zeroValue20
  t37 := Tryz.underlying108
  a37 := Tryz.isAgg108
  z37 := Tryz.sizeOf108
  v37 := Tryz.zeroValue108
  t70 := Tryz.underlying107
  a70 := Tryz.isAgg107
  z70 := Tryz.sizeOf107
  v70 := Tryz.zeroValue107
  t72 := Tryz.underlying110
  a72 := Tryz.isAgg110
  z72 := Tryz.sizeOf110
  v72 := Tryz.zeroValue110
  t75 := Tryz.underlying116
  a75 := Tryz.isAgg116
  z75 := Tryz.sizeOf116
  v75 := Tryz.zeroValue116
  t164 := Tryz.underlying169
  a164 := Tryz.isAgg169
  z164 := Tryz.sizeOf169
  v164 := Tryz.zeroValue169 }
theorem Tryz.builderW : Builder.Extra Tryz.prog Tryz.lays166_ren := {
  sizeBuilder := by kernel_rfl
  liesBuilder := by kernel_rfl
  t5 := Tryz.underlying5
  a5 := Tryz.isAgg5
  z5 := Tryz.sizeOf5
  v5 := Tryz.zeroValue5
  infoByte := by kernel_rfl
  cellsByte := by kernel_rfl
  sizeByte := by kernel_rfl
  neB5 := by decide }
def Tryz.lkB_ren : Go.Shelf.Ren := ⟨fun | 7 => 67 | 10 => 95 | n => n, fun | 23 => 77 | 26 => 3 | 3 => 88 | 28 => 96 | 0 => 0 | 27 => 95 | 33 => 123 | 4 => 4 | n => n, fun | n => n⟩
theorem Tryz.lkB : Go.Proofs.SlLaysZI.n7 Tryz.prog Tryz.lkB_ren := {
  mixed := by kernel_rfl
  f7 := ⟨Tryz.f67.name, by decide, Tryz.func67.trans (congrArg some (by kernel_rfl))⟩
  f10 := ⟨Tryz.f95.name, by decide, Tryz.func95.trans (congrArg some (by kernel_rfl))⟩
  t0 := Tryz.underlying0
  a0 := Tryz.isAgg0
  z0 := Tryz.sizeOf0
  v0 := Tryz.zeroValue0
  t4 := Tryz.underlying4
  a4 := Tryz.isAgg4
  z4 := Tryz.sizeOf4
  v4 := Tryz.zeroValue4
  t23 := Tryz.underlying77
  a23 := Tryz.isAgg77
  z23 := Tryz.sizeOf77
  v23 := Tryz.zeroValue77
  t26 := Tryz.underlying3
  a26 := Tryz.isAgg3
  z26 := Tryz.sizeOf3
  v26 := Tryz.zeroValue3
  t27 := Tryz.underlying95
  a27 := Tryz.isAgg95
  z27 := Tryz.sizeOf95
  v27 := Tryz.zeroValue95
  t28 := Tryz.underlying96
  a28 := Tryz.isAgg96
  z28 := Tryz.sizeOf96
  v28 := Tryz.zeroValue96
  t33 := Tryz.underlying123
  a33 := Tryz.isAgg123
  z33 := Tryz.sizeOf123
  v33 := Tryz.zeroValue123 }
def Tryz.lkL_ren : Go.Shelf.Ren := ⟨fun | 7 => 38 | 10 => 64 | n => n, fun | 23 => 78 | 26 => 3 | 3 => 3 | 28 => 96 | 0 => 0 | 27 => 95 | 33 => 123 | 4 => 4 | n => n, fun | n => n⟩
theorem Tryz.lkL : Go.Proofs.SlLaysZI.n7 Tryz.prog Tryz.lkL_ren := {
  mixed := by kernel_rfl
  f7 := ⟨Tryz.f38.name, by decide, Tryz.func38.trans (congrArg some (by kernel_rfl))⟩
  f10 := ⟨Tryz.f64.name, by decide, Tryz.func64.trans (congrArg some (by kernel_rfl))⟩
  t0 := Tryz.underlying0
  a0 := Tryz.isAgg0
  z0 := Tryz.sizeOf0
  v0 := Tryz.zeroValue0
  t4 := Tryz.underlying4
  a4 := Tryz.isAgg4
  z4 := Tryz.sizeOf4
  v4 := Tryz.zeroValue4
  t23 := Tryz.underlying78
  a23 := Tryz.isAgg78
  z23 := Tryz.sizeOf78
  v23 := Tryz.zeroValue78
  t26 := Tryz.underlying3
  a26 := Tryz.isAgg3
  z26 := Tryz.sizeOf3
  v26 := Tryz.zeroValue3
  t27 := Tryz.underlying95
  a27 := Tryz.isAgg95
  z27 := Tryz.sizeOf95
  v27 := Tryz.zeroValue95
  t28 := Tryz.underlying96
  a28 := Tryz.isAgg96
  z28 := Tryz.sizeOf96
  v28 := Tryz.zeroValue96
  t33 := Tryz.underlying123
  a33 := Tryz.isAgg123
  z33 := Tryz.sizeOf123
  v33 := Tryz.zeroValue123 }
def Tryz.lkS_ren : Go.Shelf.Ren := ⟨fun | 7 => 66 | 10 => 94 | n => n, fun | 23 => 124 | 26 => 9 | 3 => 4 | 28 => 127 | 0 => 0 | 27 => 126 | 33 => 157 | 4 => 4 | n => n, fun | n => n⟩
theorem Tryz.lkS : Go.Proofs.SlLaysZ.n7 Tryz.prog Tryz.lkS_ren := {
  mixed := by kernel_rfl
  f7 := ⟨Tryz.f66.name, by decide, Tryz.func66.trans (congrArg some (by kernel_rfl))⟩
  f10 := ⟨Tryz.f94.name, by decide, Tryz.func94.trans (congrArg some (by kernel_rfl))⟩
  t0 := Tryz.underlying0
  a0 := Tryz.isAgg0
  z0 := Tryz.sizeOf0
  v0 := Tryz.zeroValue0
  t4 := Tryz.underlying4
  a4 := Tryz.isAgg4
  z4 := Tryz.sizeOf4
  v4 := Tryz.zeroValue4
  t23 := Tryz.underlying124
  a23 := Tryz.isAgg124
  z23 := Tryz.sizeOf124
  v23 := Tryz.zeroValue124
  t26 := Tryz.underlying9
  a26 := Tryz.isAgg9
  z26 := Tryz.sizeOf9
  v26 := Tryz.zeroValue9
  t27 := Tryz.underlying126
  a27 := Tryz.isAgg126
  z27 := Tryz.sizeOf126
  v27 := Tryz.zeroValue126
  t28 := Tryz.underlying127
  a28 := Tryz.isAgg127
  z28 := Tryz.sizeOf127
  v28 := Tryz.zeroValue127
  t33 := Tryz.underlying157
  a33 := Tryz.isAgg157
  z33 := Tryz.sizeOf157
  v33 := Tryz.zeroValue157 }
def Tryz.lsI_ren : Go.Shelf.Ren := ⟨fun | 6 => 37 | 8 => 62 | 9 => 63 | 11 => 89 | 13 => 91 | 12 => 90 | 23 => 123 | 24 => 124 | 14 => 114 | 15 => 115 | 16 => 116 | 17 => 117 | 18 => 118 | 19 => 119 | 20 => 120 | 21 => 121 | 22 => 122 | 25 => 136 | 26 => 137 | 27 => 138 | 28 => 139 | 29 => 140 | 30 => 141 | 31 => 158 | n => n, fun | 26 => 3 | 28 => 96 | 24 => 93 | 0 => 0 | 3 => 3 | 37 => 149 | 48 => 185 | 50 => 69 | 4 => 4 | 40 => 178 | 39 => 177 | 45 => 63 | 5 => 5 | 9 => 9 | 51 => 198 | 55 => 202 | 57 => 216 | 58 => 135 | 33 => 123 | n => n, fun | n => n⟩
theorem Tryz.lsI : Go.Proofs.SlLaysZI.n6 Tryz.prog Tryz.lsI_ren := {
  mixed := by kernel_rfl
  f6 := ⟨Tryz.f37.name, by decide, Tryz.func37.trans (congrArg some (by kernel_rfl))⟩
  f8 := ⟨Tryz.f62.name, by decide, Tryz.func62.trans (congrArg some (by kernel_rfl))⟩
  f11 := ⟨Tryz.f89.name, by decide, Tryz.func89.trans (congrArg some (by kernel_rfl))⟩
  t0 := Tryz.underlying0
  a0 := Tryz.isAgg0
  z0 := Tryz.sizeOf0
  v0 := Tryz.zeroValue0
  t24 := Tryz.underlying93
  a24 := Tryz.isAgg93
  z24 := Tryz.sizeOf93
  v24 := Tryz.zeroValue93
  t26 := Tryz.underlying3
  a26 := Tryz.isAgg3
  z26 := Tryz.sizeOf3
  v26 := Tryz.zeroValue3
  t28 := Tryz.underlying96
  a28 := Tryz.isAgg96
  z28 := Tryz.sizeOf96
  v28 := Tryz.zeroValue96
  i26 := by kernel_rfl }
def Tryz.lsS_ren : Go.Shelf.Ren := ⟨fun | 6 => 65 | 8 => 92 | 9 => 93 | 11 => 125 | 13 => 91 | 12 => 126 | 23 => 123 | 24 => 124 | 14 => 142 | 15 => 143 | 16 => 144 | 17 => 145 | 18 => 146 | 19 => 147 | 20 => 148 | 21 => 149 | 22 => 150 | 25 => 159 | 26 => 137 | 27 => 138 | 28 => 160 | 29 => 161 | 30 => 162 | 31 => 165 | n => n, fun | 26 => 9 | 28 => 127 | 24 => 67 | 0 => 0 | 3 => 3 | 37 => 149 | 48 => 185 | 50 => 69 | 4 => 4 | 40 => 178 | 39 => 177 | 45 => 63 | 5 => 5 | 9 => 9 | 51 => 198 | 55 => 202 | 57 => 216 | 58 => 135 | 33 => 157 | n => n, fun | n => n⟩
theorem Tryz.lsS : Go.Proofs.SlLaysZ.n6 Tryz.prog Tryz.lsS_ren := {
  mixed := by kernel_rfl
  f6 := ⟨Tryz.f65.name, by decide, Tryz.func65.trans (congrArg some (by kernel_rfl))⟩
  f8 := ⟨Tryz.f92.name, by decide, Tryz.func92.trans (congrArg some (by kernel_rfl))⟩
  f11 := ⟨Tryz.f125.name, by decide, Tryz.func125.trans (congrArg some (by kernel_rfl))⟩
  t0 := Tryz.underlying0
  a0 := Tryz.isAgg0
  z0 := Tryz.sizeOf0
  v0 := Tryz.zeroValue0
  t24 := Tryz.underlying67
  a24 := Tryz.isAgg67
  z24 := Tryz.sizeOf67
  v24 := Tryz.zeroValue67
  t26 := Tryz.underlying9
  a26 := Tryz.isAgg9
  z26 := Tryz.sizeOf9
  v26 := Tryz.zeroValue9
  t28 := Tryz.underlying127
  a28 := Tryz.isAgg127
  z28 := Tryz.sizeOf127
  v28 := Tryz.zeroValue127
  i26 := by kernel_rfl }
def Tryz.loI_ren : Go.Shelf.Ren := ⟨fun | 5 => 63 | 8 => 91 | 7 => 90 | 19 => 123 | 20 => 124 | 10 => 114 | 11 => 115 | 12 => 116 | 13 => 117 | 14 => 118 | 15 => 119 | 16 => 120 | 17 => 121 | 18 => 122 | 30 => 136 | 31 => 137 | 32 => 138 | 33 => 139 | 34 => 140 | 35 => 141 | 40 => 158 | n => n, fun | 23 => 93 | 25 => 3 | 3 => 3 | 32 => 149 | 22 => 93 | 0 => 0 | 44 => 185 | 46 => 69 | 4 => 4 | 36 => 178 | 35 => 177 | 41 => 63 | 5 => 5 | 9 => 9 | 53 => 198 | 57 => 202 | 63 => 216 | 64 => 135 | n => n, fun | n => n⟩
theorem Tryz.loI : Go.Proofs.SlLaysM.n5 Tryz.prog Tryz.loI_ren := {
  mixed := by kernel_rfl
  f5 := ⟨Tryz.f63.name, by decide, Tryz.func63.trans (congrArg some (by kernel_rfl))⟩
  f7 := ⟨Tryz.f90.name, by decide, Tryz.func90.trans (congrArg some (by kernel_rfl))⟩
  f8 := Tryz.func91.trans (congrArg some (by kernel_rfl))
  f10 := ⟨Tryz.f114.name, by decide, Tryz.func114.trans (congrArg some (by kernel_rfl))⟩
  f11 := ⟨Tryz.f115.name, by decide, Tryz.func115.trans (congrArg some (by kernel_rfl))⟩
  f12 := ⟨Tryz.f116.name, by decide, Tryz.func116.trans (congrArg some (by kernel_rfl))⟩
  f13 := ⟨Tryz.f117.name, by decide, Tryz.func117.trans (congrArg some (by kernel_rfl))⟩
  f14 := ⟨Tryz.f118.name, by decide, Tryz.func118.trans (congrArg some (by kernel_rfl))⟩
  f15 := ⟨Tryz.f119.name, by decide, Tryz.func119.trans (congrArg some (by kernel_rfl))⟩
  f16 := ⟨Tryz.f120.name, by decide, Tryz.func120.trans (congrArg some (by kernel_rfl))⟩
  f17 := ⟨Tryz.f121.name, by decide, Tryz.func121.trans (congrArg some (by kernel_rfl))⟩
  f18 := ⟨Tryz.f122.name, by decide, Tryz.func122.trans (congrArg some (by kernel_rfl))⟩
  f19 := Tryz.func123.trans (congrArg some (by kernel_rfl))
  f20 := Tryz.func124.trans (congrArg some (by kernel_rfl))
  f30 := ⟨Tryz.f136.name, by decide, Tryz.func136.trans (congrArg some (by kernel_rfl))⟩
  f31 := Tryz.func137.trans (congrArg some (by kernel_rfl))
  f32 := Tryz.func138.trans (congrArg some (by kernel_rfl))
  f33 := ⟨Tryz.f139.name, by decide, Tryz.func139.trans (congrArg some (by kernel_rfl))⟩
  f34 := ⟨Tryz.f140.name, by decide, Tryz.func140.trans (congrArg some (by kernel_rfl))⟩
  f35 := ⟨Tryz.f141.name, by decide, Tryz.func141.trans (congrArg some (by kernel_rfl))⟩
  f40 := ⟨Tryz.f158.name, by decide, Tryz.func158.trans (congrArg some (by kernel_rfl))⟩
  t0 := Tryz.underlying0
  a0 := Tryz.isAgg0
  z0 := Tryz.sizeOf0
  v0 := Tryz.zeroValue0
  t3 := Tryz.underlying3
  a3 := Tryz.isAgg3
  z3 := Tryz.sizeOf3
  v3 := Tryz.zeroValue3
  t4 := Tryz.underlying4
  a4 := Tryz.isAgg4
  z4 := Tryz.sizeOf4
  v4 := Tryz.zeroValue4
  t5 := Tryz.underlying5
  a5 := Tryz.isAgg5
  z5 := Tryz.sizeOf5
  v5 := Tryz.zeroValue5
  t9 := Tryz.underlying9
  a9 := Tryz.isAgg9
  z9 := Tryz.sizeOf9
  v9 := Tryz.zeroValue9
  t22 := Tryz.underlying93
  a22 := Tryz.isAgg93
  z22 := Tryz.sizeOf93
  v22 := Tryz.zeroValue93
  t23 := Tryz.underlying93
  a23 := Tryz.isAgg93
  z23 := Tryz.sizeOf93
  v23 := Tryz.zeroValue93
  t25 := Tryz.underlying3
  a25 := Tryz.isAgg3
  z25 := Tryz.sizeOf3
  v25 := Tryz.zeroValue3
  t32 := Tryz.underlying149
  a32 := Tryz.isAgg149
  z32 := Tryz.sizeOf149
  v32 := Tryz.zeroValue149
  t35 := Tryz.underlying177
  a35 := Tryz.isAgg177
  z35 := Tryz.sizeOf177
  v35 := Tryz.zeroValue177
  t36 := Tryz.underlying178
  a36 := Tryz.isAgg178
  z36 := Tryz.sizeOf178
  v36 := Tryz.zeroValue178
  t41 := Tryz.underlying63
  a41 := Tryz.isAgg63
  z41 := Tryz.sizeOf63
  v41 := Tryz.zeroValue63
  t44 := Tryz.underlying185
  a44 := Tryz.isAgg185
  z44 := Tryz.sizeOf185
  v44 := Tryz.zeroValue185
  t46 := Tryz.underlying69
  a46 := Tryz.isAgg69
  z46 := Tryz.sizeOf69
  v46 := Tryz.zeroValue69
  t53 := Tryz.underlying198
  a53 := Tryz.isAgg198
  z53 := Tryz.sizeOf198
  v53 := Tryz.zeroValue198
  t57 := Tryz.underlying202
  a57 := Tryz.isAgg202
  z57 := Tryz.sizeOf202
  v57 := Tryz.zeroValue202
  t63 := Tryz.underlying216
  a63 := Tryz.isAgg216
  z63 := Tryz.sizeOf216
  v63 := Tryz.zeroValue216
  t64 := Tryz.underlying135
  a64 := Tryz.isAgg135
  z64 := Tryz.sizeOf135
  v64 := Tryz.zeroValue135 }
def Tryz.loS_ren : Go.Shelf.Ren := ⟨fun | 6 => 93 | 8 => 91 | 9 => 126 | 19 => 123 | 20 => 124 | 21 => 142 | 22 => 143 | 23 => 144 | 24 => 145 | 25 => 146 | 26 => 147 | 27 => 148 | 28 => 149 | 29 => 150 | 36 => 159 | 31 => 137 | 32 => 138 | 37 => 160 | 38 => 161 | 39 => 162 | 41 => 165 | n => n, fun | 27 => 67 | 29 => 9 | 3 => 3 | 32 => 149 | 26 => 67 | 0 => 0 | 44 => 185 | 46 => 69 | 4 => 4 | 36 => 178 | 35 => 177 | 41 => 63 | 5 => 5 | 9 => 9 | 53 => 198 | 57 => 202 | 63 => 216 | 64 => 135 | n => n, fun | n => n⟩
theorem Tryz.loS : Go.Proofs.SlLaysM.n6 Tryz.prog Tryz.loS_ren := {
  mixed := by kernel_rfl
  f6 := ⟨Tryz.f93.name, by decide, Tryz.func93.trans (congrArg some (by kernel_rfl))⟩
  f8 := Tryz.func91.trans (congrArg some (by kernel_rfl))
  f9 := ⟨Tryz.f126.name, by decide, Tryz.func126.trans (congrArg some (by kernel_rfl))⟩
  f19 := Tryz.func123.trans (congrArg some (by kernel_rfl))
  f20 := Tryz.func124.trans (congrArg some (by kernel_rfl))
  f21 := ⟨Tryz.f142.name, by decide, Tryz.func142.trans (congrArg some (by kernel_rfl))⟩
  f22 := ⟨Tryz.f143.name, by decide, Tryz.func143.trans (congrArg some (by kernel_rfl))⟩
  f23 := ⟨Tryz.f144.name, by decide, Tryz.func144.trans (congrArg some (by kernel_rfl))⟩
  f24 := ⟨Tryz.f145.name, by decide, Tryz.func145.trans (congrArg some (by kernel_rfl))⟩
  f25 := ⟨Tryz.f146.name, by decide, Tryz.func146.trans (congrArg some (by kernel_rfl))⟩
  f26 := ⟨Tryz.f147.name, by decide, Tryz.func147.trans (congrArg some (by kernel_rfl))⟩
  f27 := ⟨Tryz.f148.name, by decide, Tryz.func148.trans (congrArg some (by kernel_rfl))⟩
  f28 := ⟨Tryz.f149.name, by decide, Tryz.func149.trans (congrArg some (by kernel_rfl))⟩
  f29 := ⟨Tryz.f150.name, by decide, Tryz.func150.trans (congrArg some (by kernel_rfl))⟩
  f31 := Tryz.func137.trans (congrArg some (by kernel_rfl))
  f32 := Tryz.func138.trans (congrArg some (by kernel_rfl))
  f36 := ⟨Tryz.f159.name, by decide, Tryz.func159.trans (congrArg some (by kernel_rfl))⟩
  f37 := ⟨Tryz.f160.name, by decide, Tryz.func160.trans (congrArg some (by kernel_rfl))⟩
  f38 := ⟨Tryz.f161.name, by decide, Tryz.func161.trans (congrArg some (by kernel_rfl))⟩
  f39 := ⟨Tryz.f162.name, by decide, Tryz.func162.trans (congrArg some (by kernel_rfl))⟩
  f41 := ⟨Tryz.f165.name, by decide, Tryz.func165.trans (congrArg some (by kernel_rfl))⟩
  t0 := Tryz.underlying0
  a0 := Tryz.isAgg0
  z0 := Tryz.sizeOf0
  v0 := Tryz.zeroValue0
  t3 := Tryz.underlying3
  a3 := Tryz.isAgg3
  z3 := Tryz.sizeOf3
  v3 := Tryz.zeroValue3
  t4 := Tryz.underlying4
  a4 := Tryz.isAgg4
  z4 := Tryz.sizeOf4
  v4 := Tryz.zeroValue4
  t5 := Tryz.underlying5
  a5 := Tryz.isAgg5
  z5 := Tryz.sizeOf5
  v5 := Tryz.zeroValue5
  t9 := Tryz.underlying9
  a9 := Tryz.isAgg9
  z9 := Tryz.sizeOf9
  v9 := Tryz.zeroValue9
  t26 := Tryz.underlying67
  a26 := Tryz.isAgg67
  z26 := Tryz.sizeOf67
  v26 := Tryz.zeroValue67
  t27 := Tryz.underlying67
  a27 := Tryz.isAgg67
  z27 := Tryz.sizeOf67
  v27 := Tryz.zeroValue67
  t29 := Tryz.underlying9
  a29 := Tryz.isAgg9
  z29 := Tryz.sizeOf9
  v29 := Tryz.zeroValue9
  t32 := Tryz.underlying149
  a32 := Tryz.isAgg149
  z32 := Tryz.sizeOf149
  v32 := Tryz.zeroValue149
  t35 := Tryz.underlying177
  a35 := Tryz.isAgg177
  z35 := Tryz.sizeOf177
  v35 := Tryz.zeroValue177
  t36 := Tryz.underlying178
  a36 := Tryz.isAgg178
  z36 := Tryz.sizeOf178
  v36 := Tryz.zeroValue178
  t41 := Tryz.underlying63
  a41 := Tryz.isAgg63
  z41 := Tryz.sizeOf63
  v41 := Tryz.zeroValue63
  t44 := Tryz.underlying185
  a44 := Tryz.isAgg185
  z44 := Tryz.sizeOf185
  v44 := Tryz.zeroValue185
  t46 := Tryz.underlying69
  a46 := Tryz.isAgg69
  z46 := Tryz.sizeOf69
  v46 := Tryz.zeroValue69
  t53 := Tryz.underlying198
  a53 := Tryz.isAgg198
  z53 := Tryz.sizeOf198
  v53 := Tryz.zeroValue198
  t57 := Tryz.underlying202
  a57 := Tryz.isAgg202
  z57 := Tryz.sizeOf202
  v57 := Tryz.zeroValue202
  t63 := Tryz.underlying216
  a63 := Tryz.isAgg216
  z63 := Tryz.sizeOf216
  v63 := Tryz.zeroValue216
  t64 := Tryz.underlying135
  a64 := Tryz.isAgg135
  z64 := Tryz.sizeOf135
  v64 := Tryz.zeroValue135 }
end Go.Proofs
namespace Go.Sp
open Go
set_option maxRecDepth 100000
set_option linter.unusedVariables false
open Go.Proofs
variable (K : Env → W) (k : Value → W) {e : Enc} {args : Array Value} {G : e.α → W} {L : List HP} {ρ : Env}
attribute [local instance] cI cB cP cA
noncomputable def c6 := cf Tryz.f6 15 [(0, [0]), (1, [0]), (2, []), (3, [0])] [(0, [0]), (1, [0, 9]), (2, [2, 3]), (3, [2, 3]), (1000000, [2, 3])] [] []
@[go_sem] theorem c6_i : c6.li 0 = [0] ∧ c6.li 1 = [0] ∧ c6.li 2 = [] ∧ c6.li 3 = [0] := ⟨rfl, rfl, rfl, rfl⟩
@[go_sem] theorem c6_r0 (v0 : Int) : RP c6 0 [(0, v0)] K =
 (K [(0, v0)]) := by kernel_rfl
@[go_sem] theorem c6_r1 (v0 : Int) : RP c6 1 [(0, v0)] K =
 (cnd (decide (v0 < 1)) (K [(0, v0), (9, true)]) (K [(0, v0), (9, decide (8192 < v0))])) := by kernel_rfl
@[go_sem] theorem c6_r2 : RP c6 2 [] K =
 (K [(2, .pointer none), (3, .int .i64 1)]) := by kernel_rfl
@[go_sem] theorem c6_r3 (v0 : Int) : RP c6 3 [(0, v0)] K =
 (val eSl Tryz.prog (oMake 67 (v0) (v0)) fun (y1_ : (Option Addr × Nat × Nat)) => (nwb (.map #[] 0) fun y2_ => (nwc #[.slice (((⟨(y1_.1, y1_.2.1, y1_.2.2), (some y2_), true, (-1 : Int), (0 : Int), (0 : Int), (0 : Int)⟩ : disk_Disk).sure).1) (((⟨(y1_.1, y1_.2.1, y1_.2.2), (some y2_), true, (-1 : Int), (0 : Int), (0 : Int), (0 : Int)⟩ : disk_Disk).sure).2.1) (((⟨(y1_.1, y1_.2.1, y1_.2.2), (some y2_), true, (-1 : Int), (0 : Int), (0 : Int), (0 : Int)⟩ : disk_Disk).sure).2.2), .map ((⟨(y1_.1, y1_.2.1, y1_.2.2), (some y2_), true, (-1 : Int), (0 : Int), (0 : Int), (0 : Int)⟩ : disk_Disk).wait), .bool ((⟨(y1_.1, y1_.2.1, y1_.2.2), (some y2_), true, (-1 : Int), (0 : Int), (0 : Int), (0 : Int)⟩ : disk_Disk).up), .int .i64 ((⟨(y1_.1, y1_.2.1, y1_.2.2), (some y2_), true, (-1 : Int), (0 : Int), (0 : Int), (0 : Int)⟩ : disk_Disk).fuse), .int .u64 ((⟨(y1_.1, y1_.2.1, y1_.2.2), (some y2_), true, (-1 : Int), (0 : Int), (0 : Int), (0 : Int)⟩ : disk_Disk).keep), .int .i64 ((⟨(y1_.1, y1_.2.1, y1_.2.2), (some y2_), true, (-1 : Int), (0 : Int), (0 : Int), (0 : Int)⟩ : disk_Disk).acts), .int .i64 ((⟨(y1_.1, y1_.2.1, y1_.2.2), (some y2_), true, (-1 : Int), (0 : Int), (0 : Int), (0 : Int)⟩ : disk_Disk).downs)] 71 fun y3_ => (K [(2, y3_), (3, .int .i64 0)])))) := by kernel_rfl
@[go_sem] theorem c6_o : c6.lo 1000000 = [2, 3] := rfl
@[go_sem] theorem c6_e (v2 : Option Addr) (v3 : Int) : RTp c6 [(2, v2), (3, v3)] k = (k (.tuple #[v2, v3])) := by kernel_rfl
theorem c6_ok : (c6.P.follows .mixedOrders && okc c6 c6.body) = true := by kernel_rfl
theorem c6_fn (hρ : envA 0 args.toList = ρ) (hs : Nat.ble args.size 15 = true) (h : E L (D c6 (.seq (.reg 0) (.seq (.seq (.reg 1) (.cond (.tmp 9) (.seq (.reg 2) (.ret)) (.skip))) (.seq (.reg 3) (.ret)))) (fnQ c6 e G) ρ)) : E L (cal e Tryz.prog 6 args G) :=
  d_fn (c := c6) Tryz.func6 (by kernel_rfl) (by kernel_rfl) (by kernel_rfl) c6_ok (by kernel_rfl) (by kernel_rfl) hρ hs h
noncomputable def c44 := cf Tryz.f44 38 [(0, [0]), (1, [0]), (2, [0, 3]), (3, [3]), (4, [0]), (5, [0, 4]), (6, [4]), (7, [0]), (8, [0, 21]), (9, [0, 21]), (10, [0, 5, 6, 21]), (11, [0]), (12, [])] [(0, [0]), (1, [0, 3]), (2, [0, 3, 10]), (3, [2]), (4, [0, 4]), (5, [0, 4, 15]), (6, [2]), (7, [0, 21]), (8, [0, 21, 23]), (9, [0, 5, 6, 21]), (10, [0, 21]), (11, []), (12, [2]), (1000000, [2])] [] [(21, eP), (22, (eT3 eB eI eS)), (24, (eT2 eI eS))]
@[go_sem] theorem c44_i : c44.li 0 = [0] ∧ c44.li 1 = [0] ∧ c44.li 2 = [0, 3] ∧ c44.li 3 = [3] ∧ c44.li 4 = [0] ∧ c44.li 5 = [0, 4] ∧ c44.li 6 = [4] ∧ c44.li 7 = [0] ∧ c44.li 8 = [0, 21] ∧ c44.li 9 = [0, 21] ∧ c44.li 10 = [0, 5, 6, 21] ∧ c44.li 11 = [0] ∧ c44.li 12 = [] := ⟨rfl, rfl, rfl, rfl, rfl, rfl, rfl, rfl, rfl, rfl, rfl, rfl, rfl⟩
@[go_sem] theorem c44_r0 (v0 : Option Addr) : RP c44 0 [(0, v0)] K =
 (K [(0, v0)]) := by kernel_rfl
@[go_sem] theorem c44_r1 (v0 : Option Addr) : RP c44 1 [(0, v0)] K =
 (cal eI Tryz.prog 71 #[v0, .int .i64 0] fun (y1_ : Int) => (K [(0, v0), (3, y1_)])) := by kernel_rfl
@[go_sem] theorem c44_r2 (v0 : Option Addr) (v3 : Int) : RP c44 2 [(0, v0), (3, v3)] K =
 (K [(0, v0), (3, v3), (10, .bool (v3 != 0))]) := by kernel_rfl
@[go_sem] theorem c44_r3 (v3 : Int) : RP c44 3 [(3, v3)] K =
 (K [(2, v3)]) := by kernel_rfl
@[go_sem] theorem c44_r4 (v0 : Option Addr) : RP c44 4 [(0, v0)] K =
 (cal eI Tryz.prog 72 #[v0] fun (y1_ : Int) => (K [(0, v0), (4, y1_)])) := by kernel_rfl
@[go_sem] theorem c44_r5 (v0 : Option Addr) (v4 : Int) : RP c44 5 [(0, v0), (4, v4)] K =
 (K [(0, v0), (4, v4), (15, .bool (v4 != 0))]) := by kernel_rfl
@[go_sem] theorem c44_r6 (v4 : Int) : RP c44 6 [(4, v4)] K =
 (K [(2, v4)]) := by kernel_rfl
@[go_sem] theorem c44_r7 (v0 : Option Addr) : RP c44 7 [(0, v0)] K =
 (nn v0 fun y1_ => (ld eM (y1_.add 1) fun (y2_ : Option Nat) => (val eP Tryz.prog (oRange 68 (.map y2_)) fun (y3_ : Option Addr) => (K [(0, v0), (21, y3_)])))) := by kernel_rfl
@[go_sem] theorem c44_r8 (v0 v21 : Option Addr) : RP c44 8 [(0, v0), (21, v21)] K =
 (nxt (eT3 eB eI eS) Tryz.prog (oNext (v21) false 0) (K [(0, v0), (21, v21), (23, false)]) fun (y1_ : (Bool × Int × (List UInt8))) => (K [(0, v0), (21, v21), (23, y1_.1)])) := by kernel_rfl
@[go_sem] theorem c44_r9 (v0 v21 : Option Addr) : RP c44 9 [(0, v0), (21, v21)] K =
 (val (eT2 eI eS) Tryz.prog (oEntry (v21)) fun (y1_ : (Int × (List UInt8))) => (K [(0, v0), (5, y1_.1), (6, str y1_.2), (21, v21)])) := by kernel_rfl
@[go_sem] theorem c44_r10 (v0 : Option Addr) (v5 : Int) (v6 : List UInt8) (v21 : Option Addr) : RP c44 10 [(0, v0), (5, v5), (6, str v6), (21, v21)] K =
 (nn v0 fun y1_ => (ld eSl y1_ fun (y2_ : (Option Addr × Nat × Nat)) => (rq (0 ≤ v5 ∧ v5 < (y2_.2.1 : Int)) (nn y2_.1 fun y3_ => (st (Addr.add y3_ (v5.toNat * 1)) (str v6) (K [(0, v0), (21, v21)])))))) := by kernel_rfl
@[go_sem] theorem c44_r11 (v0 : Option Addr) : RP c44 11 [(0, v0)] K =
 (nn v0 fun y1_ => (ld eM (y1_.add 1) fun (y2_ : Option Nat) => (val eN Tryz.prog (oB_clear #[68] 0 #[.map y2_]) fun (y3_ : Unit) => (K [])))) := by kernel_rfl
@[go_sem] theorem c44_r12 : RP c44 12 [] K =
 (K [(2, .int .i64 0)]) := by kernel_rfl
@[go_sem] theorem c44_o : c44.lo 1000000 = [2] := rfl
@[go_sem] theorem c44_e (v2 : Int) : RTp c44 [(2, v2)] k = (k (v2)) := by kernel_rfl
theorem c44_ok : (c44.P.follows .mixedOrders && okc c44 c44.body) = true := by kernel_rfl
theorem c44_fn (hρ : envA 0 args.toList = ρ) (hs : Nat.ble args.size 38 = true) (h : E L (D c44 (.seq (.reg 0) (.seq (.seq (.reg 1) (.seq (.reg 2) (.cond (.tmp 10) (.seq (.reg 3) (.ret)) (.skip)))) (.seq (.seq (.reg 4) (.seq (.reg 5) (.cond (.tmp 15) (.seq (.reg 6) (.ret)) (.skip)))) (.seq (.seq (.reg 7) (.block 0 (.loop (.seq (.reg 8) (.seq (.cond (.tmp 23) (.skip) (.exit 0)) (.block 1 (.seq (.reg 9) (.reg 10)))))))) (.seq (.reg 11) (.seq (.reg 12) (.ret))))))) (fnQ c44 e G) ρ)) : E L (cal e Tryz.prog 44 args G) :=
  d_fn (c := c44) Tryz.func44 (by kernel_rfl) (by kernel_rfl) (by kernel_rfl) c44_ok (by kernel_rfl) (by kernel_rfl) hρ hs h
noncomputable def c54 := cf Tryz.f54 10 [(0, [0]), (1, [0]), (2, []), (3, [0])] [(0, [0]), (1, [0, 4]), (2, [2]), (3, [2]), (1000000, [2])] [] []
@[go_sem] theorem c54_i : c54.li 0 = [0] ∧ c54.li 1 = [0] ∧ c54.li 2 = [] ∧ c54.li 3 = [0] := ⟨rfl, rfl, rfl, rfl⟩
@[go_sem] theorem c54_r0 (v0 : Option Addr) : RP c54 0 [(0, v0)] K =
 (K [(0, v0)]) := by kernel_rfl
@[go_sem] theorem c54_r1 (v0 : Option Addr) : RP c54 1 [(0, v0)] K =
 (cal eB Tryz.prog 80 #[v0] fun (y1_ : Bool) => (K [(0, v0), (4, y1_)])) := by kernel_rfl
@[go_sem] theorem c54_r2 : RP c54 2 [] K =
 (K [(2, .int .i64 0)]) := by kernel_rfl
@[go_sem] theorem c54_r3 (v0 : Option Addr) : RP c54 3 [(0, v0)] K =
 (nn v0 fun y1_ => (ld eSl y1_ fun (y2_ : (Option Addr × Nat × Nat)) => (K [(2, .int .i64 (y2_.2.1 : Int))]))) := by kernel_rfl
@[go_sem] theorem c54_o : c54.lo 1000000 = [2] := rfl
@[go_sem] theorem c54_e (v2 : Int) : RTp c54 [(2, v2)] k = (k (v2)) := by kernel_rfl
theorem c54_ok : (c54.P.follows .mixedOrders && okc c54 c54.body) = true := by kernel_rfl
theorem c54_fn (hρ : envA 0 args.toList = ρ) (hs : Nat.ble args.size 10 = true) (h : E L (D c54 (.seq (.reg 0) (.seq (.seq (.reg 1) (.cond (.tmp 4) (.seq (.reg 2) (.ret)) (.skip))) (.seq (.reg 3) (.ret)))) (fnQ c54 e G) ρ)) : E L (cal e Tryz.prog 54 args G) :=
  d_fn (c := c54) Tryz.func54 (by kernel_rfl) (by kernel_rfl) (by kernel_rfl) c54_ok (by kernel_rfl) (by kernel_rfl) hρ hs h
noncomputable def c55 := cf Tryz.f55 34 [(0, [0, 1]), (1, [0, 1]), (2, [0, 1, 6]), (3, [6]), (4, [0, 1]), (5, [0, 1, 7, 8]), (6, [7]), (7, [0, 1])] [(0, [0, 1]), (1, [0, 1, 6]), (2, [0, 1, 6, 13]), (3, [4, 5]), (4, [0, 1, 7, 8]), (5, [0, 1, 7, 24]), (6, [4, 5]), (7, [4, 5]), (1000000, [4, 5])] [] []
@[go_sem] theorem c55_i : c55.li 0 = [0, 1] ∧ c55.li 1 = [0, 1] ∧ c55.li 2 = [0, 1, 6] ∧ c55.li 3 = [6] ∧ c55.li 4 = [0, 1] ∧ c55.li 5 = [0, 1, 7, 8] ∧ c55.li 6 = [7] ∧ c55.li 7 = [0, 1] := ⟨rfl, rfl, rfl, rfl, rfl, rfl, rfl, rfl⟩
@[go_sem] theorem c55_r0 (v0 : Option Addr) (v1 : Int) : RP c55 0 [(0, v0), (1, v1)] K =
 (K [(0, v0), (1, v1)]) := by kernel_rfl
@[go_sem] theorem c55_r1 (v0 : Option Addr) (v1 : Int) : RP c55 1 [(0, v0), (1, v1)] K =
 (cal eI Tryz.prog 71 #[v0, v1] fun (y1_ : Int) => (K [(0, v0), (1, v1), (6, y1_)])) := by kernel_rfl
@[go_sem] theorem c55_r2 (v0 : Option Addr) (v1 v6 : Int) : RP c55 2 [(0, v0), (1, v1), (6, v6)] K =
 (K [(0, v0), (1, v1), (6, v6), (13, .bool (v6 != 0))]) := by kernel_rfl
@[go_sem] theorem c55_r3 (v6 : Int) : RP c55 3 [(6, v6)] K =
 (K [(4, str ([] : List UInt8)), (5, v6)]) := by kernel_rfl
@[go_sem] theorem c55_r4 (v0 : Option Addr) (v1 : Int) : RP c55 4 [(0, v0), (1, v1)] K =
 (nn v0 fun y1_ => (ld eM (y1_.add 1) fun (y2_ : Option Nat) => (val (eT2 eS eB) Tryz.prog (oLookup 68 (.map y2_) (v1) true) fun (y3_ : ((List UInt8) × Bool)) => (K [(0, v0), (1, v1), (7, str y3_.1), (8, y3_.2)])))) := by kernel_rfl
@[go_sem] theorem c55_r5 (v0 : Option Addr) (v1 : Int) (v7 : List UInt8) (v8 : Bool) : RP c55 5 [(0, v0), (1, v1), (7, str v7), (8, v8)] K =
 (K [(0, v0), (1, v1), (7, str v7), (24, v8)]) := by kernel_rfl
@[go_sem] theorem c55_r6 (v7 : List UInt8) : RP c55 6 [(7, str v7)] K =
 (K [(4, str v7), (5, .int .i64 0)]) := by kernel_rfl
@[go_sem] theorem c55_r7 (v0 : Option Addr) (v1 : Int) : RP c55 7 [(0, v0), (1, v1)] K =
 (nn v0 fun y1_ => (ld eSl y1_ fun (y2_ : (Option Addr × Nat × Nat)) => (rq (0 ≤ v1 ∧ v1 < (y2_.2.1 : Int)) (nn y2_.1 fun y3_ => (ld eS (Addr.add y3_ (v1.toNat * 1)) fun (y4_ : List UInt8) => (cal eS Tryz.prog 81 #[str y4_] fun (y5_ : List UInt8) => (K [(4, str y5_), (5, .int .i64 0)]))))))) := by kernel_rfl
@[go_sem] theorem c55_o : c55.lo 1000000 = [4, 5] := rfl
@[go_sem] theorem c55_e (v4 : List UInt8) (v5 : Int) : RTp c55 [(4, str v4), (5, v5)] k = (k (.tuple #[str v4, v5])) := by kernel_rfl
theorem c55_ok : (c55.P.follows .mixedOrders && okc c55 c55.body) = true := by kernel_rfl
theorem c55_fn (hρ : envA 0 args.toList = ρ) (hs : Nat.ble args.size 34 = true) (h : E L (D c55 (.seq (.reg 0) (.seq (.seq (.reg 1) (.seq (.reg 2) (.cond (.tmp 13) (.seq (.reg 3) (.ret)) (.skip)))) (.seq (.seq (.reg 4) (.seq (.reg 5) (.cond (.tmp 24) (.seq (.reg 6) (.ret)) (.skip)))) (.seq (.reg 7) (.ret))))) (fnQ c55 e G) ρ)) : E L (cal e Tryz.prog 55 args G) :=
  d_fn (c := c55) Tryz.func55 (by kernel_rfl) (by kernel_rfl) (by kernel_rfl) c55_ok (by kernel_rfl) (by kernel_rfl) hρ hs h
noncomputable def c70 := cf Tryz.f70 30 [(0, [0, 1, 2]), (1, [0, 1, 2]), (2, [0, 1, 2, 7]), (3, [7]), (4, [0, 1, 2]), (5, []), (6, [0, 1, 2]), (7, [0, 1, 2, 8]), (8, [8]), (9, [0, 1, 2]), (10, [])] [(0, [0, 1, 2]), (1, [0, 1, 2, 7]), (2, [0, 1, 2, 7, 13]), (3, [6]), (4, [0, 1, 2, 17]), (5, [6]), (6, [0, 1, 2, 8]), (7, [0, 1, 2, 8, 21]), (8, [6]), (9, []), (10, [6]), (1000000, [6])] [(9, (true, [(0, 1), (1, 1), (2, 1), (3, 0), (4, 1), (5, 1), (6, 2), (7, 4)]))] []
@[go_sem] theorem c70_i : c70.li 0 = [0, 1, 2] ∧ c70.li 1 = [0, 1, 2] ∧ c70.li 2 = [0, 1, 2, 7] ∧ c70.li 3 = [7] ∧ c70.li 4 = [0, 1, 2] ∧ c70.li 5 = [] ∧ c70.li 6 = [0, 1, 2] ∧ c70.li 7 = [0, 1, 2, 8] ∧ c70.li 8 = [8] ∧ c70.li 9 = [0, 1, 2] ∧ c70.li 10 = [] := ⟨rfl, rfl, rfl, rfl, rfl, rfl, rfl, rfl, rfl, rfl, rfl⟩
@[go_sem] theorem c70_r0 (v0 : Option Addr) (v1 : Int) (v2 : List UInt8) : RP c70 0 [(0, v0), (1, v1), (2, str v2)] K =
 (K [(0, v0), (1, v1), (2, str v2)]) := by kernel_rfl
@[go_sem] theorem c70_r1 (v0 : Option Addr) (v1 : Int) (v2 : List UInt8) : RP c70 1 [(0, v0), (1, v1), (2, str v2)] K =
 (cal eI Tryz.prog 71 #[v0, v1] fun (y1_ : Int) => (K [(0, v0), (1, v1), (2, str v2), (7, y1_)])) := by kernel_rfl
@[go_sem] theorem c70_r2 (v0 : Option Addr) (v1 : Int) (v2 : List UInt8) (v7 : Int) : RP c70 2 [(0, v0), (1, v1), (2, str v2), (7, v7)] K =
 (K [(0, v0), (1, v1), (2, str v2), (7, v7), (13, .bool (v7 != 0))]) := by kernel_rfl
@[go_sem] theorem c70_r3 (v7 : Int) : RP c70 3 [(7, v7)] K =
 (K [(6, v7)]) := by kernel_rfl
@[go_sem] theorem c70_r4 (v0 : Option Addr) (v1 : Int) (v2 : List UInt8) : RP c70 4 [(0, v0), (1, v1), (2, str v2)] K =
 (K [(0, v0), (1, v1), (2, str v2), (17, decide ((64 : Int) < (v2.length : Int)))]) := by kernel_rfl
@[go_sem] theorem c70_r5 : RP c70 5 [] K =
 (K [(6, .int .i64 3)]) := by kernel_rfl
@[go_sem] theorem c70_r6 (v0 : Option Addr) (v1 : Int) (v2 : List UInt8) : RP c70 6 [(0, v0), (1, v1), (2, str v2)] K =
 (cal eI Tryz.prog 72 #[v0] fun (y1_ : Int) => (K [(0, v0), (1, v1), (2, str v2), (8, y1_)])) := by kernel_rfl
@[go_sem] theorem c70_r7 (v0 : Option Addr) (v1 : Int) (v2 : List UInt8) (v8 : Int) : RP c70 7 [(0, v0), (1, v1), (2, str v2), (8, v8)] K =
 (K [(0, v0), (1, v1), (2, str v2), (8, v8), (21, .bool (v8 != 0))]) := by kernel_rfl
@[go_sem] theorem c70_r8 (v8 : Int) : RP c70 8 [(8, v8)] K =
 (K [(6, v8)]) := by kernel_rfl
@[go_sem] theorem c70_r9 (v0 : Option Addr) (v1 : Int) (v2 : List UInt8) : RP c70 9 [(0, v0), (1, v1), (2, str v2)] K =
 (ph fun S0 => (nn v0 fun y1_ => (ldq S0 eM (y1_.add 1) fun (y2_ : Option Nat) => (cal eS Tryz.prog 81 #[str v2] fun (y3_ : List UInt8) => (kpn S0 fun S1 => (unt Tryz.prog (oMapUpdate 68 (.map y2_) (v1) (str y3_)) (K []))))))) := by kernel_rfl
@[go_sem] theorem c70_r10 : RP c70 10 [] K =
 (K [(6, .int .i64 0)]) := by kernel_rfl
@[go_sem] theorem c70_o : c70.lo 1000000 = [6] := rfl
@[go_sem] theorem c70_e (v6 : Int) : RTp c70 [(6, v6)] k = (k (v6)) := by kernel_rfl
theorem c70_ok : (c70.P.follows .mixedOrders && okc c70 c70.body) = true := by kernel_rfl
theorem c70_fn (hρ : envA 0 args.toList = ρ) (hs : Nat.ble args.size 30 = true) (h : E L (D c70 (.seq (.reg 0) (.seq (.seq (.reg 1) (.seq (.reg 2) (.cond (.tmp 13) (.seq (.reg 3) (.ret)) (.skip)))) (.seq (.seq (.reg 4) (.cond (.tmp 17) (.seq (.reg 5) (.ret)) (.skip))) (.seq (.seq (.reg 6) (.seq (.reg 7) (.cond (.tmp 21) (.seq (.reg 8) (.ret)) (.skip)))) (.seq (.reg 9) (.seq (.reg 10) (.ret))))))) (fnQ c70 e G) ρ)) : E L (cal e Tryz.prog 70 args G) :=
  d_fn (c := c70) Tryz.func70 (by kernel_rfl) (by kernel_rfl) (by kernel_rfl) c70_ok (by kernel_rfl) (by kernel_rfl) hρ hs h
noncomputable def c71 := cf Tryz.f71 26 [(0, [0, 1]), (1, [0, 1]), (2, []), (3, [0, 1]), (4, []), (5, [0, 1]), (6, []), (7, [])] [(0, [0, 1]), (1, [0, 1, 5]), (2, [4]), (3, [0, 1, 8]), (4, [4]), (5, [14]), (6, [4]), (7, [4]), (1000000, [4])] [] []
@[go_sem] theorem c71_i : c71.li 0 = [0, 1] ∧ c71.li 1 = [0, 1] ∧ c71.li 2 = [] ∧ c71.li 3 = [0, 1] ∧ c71.li 4 = [] ∧ c71.li 5 = [0, 1] ∧ c71.li 6 = [] ∧ c71.li 7 = [] := ⟨rfl, rfl, rfl, rfl, rfl, rfl, rfl, rfl⟩
@[go_sem] theorem c71_r0 (v0 : Option Addr) (v1 : Int) : RP c71 0 [(0, v0), (1, v1)] K =
 (K [(0, v0), (1, v1)]) := by kernel_rfl
@[go_sem] theorem c71_r1 (v0 : Option Addr) (v1 : Int) : RP c71 1 [(0, v0), (1, v1)] K =
 (cal eB Tryz.prog 80 #[v0] fun (y1_ : Bool) => (K [(0, v0), (1, v1), (5, y1_)])) := by kernel_rfl
@[go_sem] theorem c71_r2 : RP c71 2 [] K =
 (K [(4, .int .i64 11)]) := by kernel_rfl
@[go_sem] theorem c71_r3 (v0 : Option Addr) (v1 : Int) : RP c71 3 [(0, v0), (1, v1)] K =
 (nn v0 fun y1_ => (ld eB (y1_.add 2) fun (y2_ : Bool) => (K [(0, v0), (1, v1), (8, .bool (!y2_))]))) := by kernel_rfl
@[go_sem] theorem c71_r4 : RP c71 4 [] K =
 (K [(4, .int .i64 9)]) := by kernel_rfl
@[go_sem] theorem c71_r5 (v0 : Option Addr) (v1 : Int) : RP c71 5 [(0, v0), (1, v1)] K =
 (cnd (decide (v1 < 0)) (K [(14, true)]) (nn v0 fun y1_ => (ld eSl y1_ fun (y2_ : (Option Addr × Nat × Nat)) => (K [(14, decide ((y2_.2.1 : Int) ≤ v1))])))) := by kernel_rfl
@[go_sem] theorem c71_r6 : RP c71 6 [] K =
 (K [(4, .int .i64 6)]) := by kernel_rfl
@[go_sem] theorem c71_r7 : RP c71 7 [] K =
 (K [(4, .int .i64 0)]) := by kernel_rfl
@[go_sem] theorem c71_o : c71.lo 1000000 = [4] := rfl
@[go_sem] theorem c71_e (v4 : Int) : RTp c71 [(4, v4)] k = (k (v4)) := by kernel_rfl
theorem c71_ok : (c71.P.follows .mixedOrders && okc c71 c71.body) = true := by kernel_rfl
theorem c71_fn (hρ : envA 0 args.toList = ρ) (hs : Nat.ble args.size 26 = true) (h : E L (D c71 (.seq (.reg 0) (.seq (.block 0 (.seq (.reg 1) (.cond (.tmp 5) (.seq (.reg 2) (.ret)) (.seq (.reg 3) (.cond (.tmp 8) (.seq (.reg 4) (.ret)) (.seq (.reg 5) (.cond (.tmp 14) (.seq (.reg 6) (.ret)) (.skip)))))))) (.seq (.reg 7) (.ret)))) (fnQ c71 e G) ρ)) : E L (cal e Tryz.prog 71 args G) :=
  d_fn (c := c71) Tryz.func71 (by kernel_rfl) (by kernel_rfl) (by kernel_rfl) c71_ok (by kernel_rfl) (by kernel_rfl) hρ hs h
noncomputable def c72 := cf Tryz.f72 33 [(0, [0]), (1, [0]), (2, [0]), (3, []), (4, [0]), (5, [0]), (6, [0]), (7, [])] [(0, [0]), (1, [0, 7]), (2, []), (3, [2]), (4, [0, 18]), (5, [0]), (6, []), (7, [2]), (1000000, [2])] [] []
@[go_sem] theorem c72_i : c72.li 0 = [0] ∧ c72.li 1 = [0] ∧ c72.li 2 = [0] ∧ c72.li 3 = [] ∧ c72.li 4 = [0] ∧ c72.li 5 = [0] ∧ c72.li 6 = [0] ∧ c72.li 7 = [] := ⟨rfl, rfl, rfl, rfl, rfl, rfl, rfl, rfl⟩
@[go_sem] theorem c72_r0 (v0 : Option Addr) : RP c72 0 [(0, v0)] K =
 (K [(0, v0)]) := by kernel_rfl
@[go_sem] theorem c72_r1 (v0 : Option Addr) : RP c72 1 [(0, v0)] K =
 (nn v0 fun y1_ => (ld eI (y1_.add 3) fun (y2_ : Int) => (K [(0, v0), (7, .bool (y2_ == 0))]))) := by kernel_rfl
@[go_sem] theorem c72_r2 (v0 : Option Addr) : RP c72 2 [(0, v0)] K =
 (nn v0 fun y1_ => (ld eU64 (y1_.add 4) fun (y2_ : Int) => (cal eN Tryz.prog 98 #[v0, .int .u64 y2_] fun (y3_ : Unit) => (K [])))) := by kernel_rfl
@[go_sem] theorem c72_r3 : RP c72 3 [] K =
 (K [(2, .int .i64 9)]) := by kernel_rfl
@[go_sem] theorem c72_r4 (v0 : Option Addr) : RP c72 4 [(0, v0)] K =
 (nn v0 fun y1_ => (ld eI (y1_.add 3) fun (y2_ : Int) => (K [(0, v0), (18, decide (0 < y2_))]))) := by kernel_rfl
@[go_sem] theorem c72_r5 (v0 : Option Addr) : RP c72 5 [(0, v0)] K =
 (nn v0 fun y1_ => (ld eI (y1_.add 3) fun (y2_ : Int) => (nn v0 fun y3_ => (st (y3_.add 3) (IntKind.wrap .i64 (y2_ - 1)) (K [(0, v0)]))))) := by kernel_rfl
@[go_sem] theorem c72_r6 (v0 : Option Addr) : RP c72 6 [(0, v0)] K =
 (nn v0 fun y1_ => (ld eI (y1_.add 5) fun (y2_ : Int) => (nn v0 fun y3_ => (st (y3_.add 5) (IntKind.wrap .i64 (y2_ + 1)) (K []))))) := by kernel_rfl
@[go_sem] theorem c72_r7 : RP c72 7 [] K =
 (K [(2, .int .i64 0)]) := by kernel_rfl
@[go_sem] theorem c72_o : c72.lo 1000000 = [2] := rfl
@[go_sem] theorem c72_e (v2 : Int) : RTp c72 [(2, v2)] k = (k (v2)) := by kernel_rfl
theorem c72_ok : (c72.P.follows .mixedOrders && okc c72 c72.body) = true := by kernel_rfl
theorem c72_fn (hρ : envA 0 args.toList = ρ) (hs : Nat.ble args.size 33 = true) (h : E L (D c72 (.seq (.reg 0) (.seq (.seq (.reg 1) (.cond (.tmp 7) (.seq (.reg 2) (.seq (.reg 3) (.ret))) (.skip))) (.seq (.seq (.reg 4) (.cond (.tmp 18) (.reg 5) (.skip))) (.seq (.reg 6) (.seq (.reg 7) (.ret)))))) (fnQ c72 e G) ρ)) : E L (cal e Tryz.prog 72 args G) :=
  d_fn (c := c72) Tryz.func72 (by kernel_rfl) (by kernel_rfl) (by kernel_rfl) c72_ok (by kernel_rfl) (by kernel_rfl) hρ hs h
noncomputable def c80 := cf Tryz.f80 13 [(0, [0]), (1, [0])] [(0, [0]), (1, [2]), (1000000, [2])] [] []
@[go_sem] theorem c80_i : c80.li 0 = [0] ∧ c80.li 1 = [0] := ⟨rfl, rfl⟩
@[go_sem] theorem c80_r0 (v0 : Option Addr) : RP c80 0 [(0, v0)] K =
 (K [(0, v0)]) := by kernel_rfl
@[go_sem] theorem c80_r1 (v0 : Option Addr) : RP c80 1 [(0, v0)] K =
 (cnd (v0.isNone) (K [(2, true)]) (nn v0 fun y1_ => (ld eSl y1_ fun (y2_ : (Option Addr × Nat × Nat)) => (K [(2, .bool ((y2_.2.1 : Int) == 0))])))) := by kernel_rfl
@[go_sem] theorem c80_o : c80.lo 1000000 = [2] := rfl
@[go_sem] theorem c80_e (v2 : Bool) : RTp c80 [(2, v2)] k = (k (v2)) := by kernel_rfl
theorem c80_ok : (c80.P.follows .mixedOrders && okc c80 c80.body) = true := by kernel_rfl
theorem c80_fn (hρ : envA 0 args.toList = ρ) (hs : Nat.ble args.size 13 = true) (h : E L (D c80 (.seq (.reg 0) (.seq (.reg 1) (.ret))) (fnQ c80 e G) ρ)) : E L (cal e Tryz.prog 80 args G) :=
  d_fn (c := c80) Tryz.func80 (by kernel_rfl) (by kernel_rfl) (by kernel_rfl) c80_ok (by kernel_rfl) (by kernel_rfl) hρ hs h
noncomputable def c81 := cf Tryz.f81 9 [(0, [0]), (1, [0])] [(0, [0]), (1, [2]), (1000000, [2])] [] []
@[go_sem] theorem c81_i : c81.li 0 = [0] ∧ c81.li 1 = [0] := ⟨rfl, rfl⟩
@[go_sem] theorem c81_r0 (v0 : List UInt8) : RP c81 0 [(0, str v0)] K =
 (K [(0, str v0)]) := by kernel_rfl
@[go_sem] theorem c81_r1 (v0 : List UInt8) : RP c81 1 [(0, str v0)] K =
 (cal eS Tryz.prog 106 #[str ([0] : List UInt8), IntKind.wrap .i64 ((64 : Int) - (v0.length : Int))] fun (y1_ : List UInt8) => (rq ((v0.length : Int) + (y1_.length : Int) ≤ 9223372036854775807) (K [(2, str (v0 ++ y1_))]))) := by kernel_rfl
@[go_sem] theorem c81_o : c81.lo 1000000 = [2] := rfl
@[go_sem] theorem c81_e (v2 : List UInt8) : RTp c81 [(2, str v2)] k = (k (str v2)) := by kernel_rfl
theorem c81_ok : (c81.P.follows .mixedOrders && okc c81 c81.body) = true := by kernel_rfl
theorem c81_fn (hρ : envA 0 args.toList = ρ) (hs : Nat.ble args.size 9 = true) (h : E L (D c81 (.seq (.reg 0) (.seq (.reg 1) (.ret))) (fnQ c81 e G) ρ)) : E L (cal e Tryz.prog 81 args G) :=
  d_fn (c := c81) Tryz.func81 (by kernel_rfl) (by kernel_rfl) (by kernel_rfl) c81_ok (by kernel_rfl) (by kernel_rfl) hρ hs h
noncomputable def c98 := cf Tryz.f98 50 [(0, [0, 1]), (1, [0, 1, 7, 8, 9]), (2, [0, 1, 7, 8, 9]), (3, [0, 1, 4, 5, 7, 8, 9]), (4, [0, 1, 5, 7, 8, 9]), (5, [0, 1, 7, 8, 9]), (6, [0]), (7, [0]), (8, [0])] [(0, [0, 1, 7, 8, 9]), (1, [0, 1, 7, 8, 9, 10]), (2, [0, 1, 4, 5, 7, 8, 9]), (3, [0, 1, 5, 7, 8, 9, 19]), (4, [0, 1, 7, 8, 9]), (5, [0, 1, 7, 8, 9]), (6, [0]), (7, [0]), (8, []), (1000000, [])] [(4, (true, [(0, 1), (1, 1), (2, 1), (3, 0), (4, 1), (5, 1), (6, 1), (7, 1), (8, 0), (9, 1), (10, 0), (11, 1), (12, 4)]))] []
@[go_sem] theorem c98_i : c98.li 0 = [0, 1] ∧ c98.li 1 = [0, 1, 7, 8, 9] ∧ c98.li 2 = [0, 1, 7, 8, 9] ∧ c98.li 3 = [0, 1, 4, 5, 7, 8, 9] ∧ c98.li 4 = [0, 1, 5, 7, 8, 9] ∧ c98.li 5 = [0, 1, 7, 8, 9] ∧ c98.li 6 = [0] ∧ c98.li 7 = [0] ∧ c98.li 8 = [0] := ⟨rfl, rfl, rfl, rfl, rfl, rfl, rfl, rfl, rfl⟩
@[go_sem] theorem c98_r0 (v0 : Option Addr) (v1 : Int) : RP c98 0 [(0, v0), (1, .int .u64 v1)] K =
 (cal eSl Tryz.prog 127 #[v0] fun (y1_ : (Option Addr × Nat × Nat)) => (K [(0, v0), (1, .int .u64 v1), (7, .slice y1_.1 y1_.2.1 y1_.2.2), (8, .int .i64 (y1_.2.1 : Int)), (9, .int .i64 0)])) := by kernel_rfl
@[go_sem] theorem c98_r1 (v0 : Option Addr) (v1 : Int) (v7p : Option Addr) (v7n v7c : Nat) (v8 v9 : Int) : RP c98 1 [(0, v0), (1, .int .u64 v1), (7, .slice v7p v7n v7c), (8, v8), (9, v9)] K =
 (K [(0, v0), (1, .int .u64 v1), (7, .slice v7p v7n v7c), (8, v8), (9, v9), (10, decide (v9 < v8))]) := by kernel_rfl
@[go_sem] theorem c98_r2 (v0 : Option Addr) (v1 : Int) (v7p : Option Addr) (v7n v7c : Nat) (v8 v9 : Int) : RP c98 2 [(0, v0), (1, .int .u64 v1), (7, .slice v7p v7n v7c), (8, v8), (9, v9)] K =
 (rq (0 ≤ v9 ∧ v9 < v7n) (nn v7p fun y1_ => (ld eI (Addr.add y1_ (v9.toNat * 1)) fun (y2_ : Int) => (K [(0, v0), (1, .int .u64 v1), (4, v9), (5, y2_), (7, .slice v7p v7n v7c), (8, v8), (9, v9)])))) := by kernel_rfl
@[go_sem] theorem c98_r3 (v0 : Option Addr) (v1 v4 v5 : Int) (v7p : Option Addr) (v7n v7c : Nat) (v8 v9 : Int) : RP c98 3 [(0, v0), (1, .int .u64 v1), (4, v4), (5, v5), (7, .slice v7p v7n v7c), (8, v8), (9, v9)] K =
 (rq ((64 : Int) ≠ 0) (rq (0 ≤ (v4.tmod (64 : Int))) (K [(0, v0), (1, .int .u64 v1), (5, v5), (7, .slice v7p v7n v7c), (8, v8), (9, v9), (19, .bool ((bits .and .u64 (v1.fdiv (2 ^ (min (v4.tmod (64 : Int)).toNat 64))) (1 : Int)) == 1))]))) := by kernel_rfl
@[go_sem] theorem c98_r4 (v0 : Option Addr) (v1 v5 : Int) (v7p : Option Addr) (v7n v7c : Nat) (v8 v9 : Int) : RP c98 4 [(0, v0), (1, .int .u64 v1), (5, v5), (7, .slice v7p v7n v7c), (8, v8), (9, v9)] K =
 (ph fun S0 => (nn v0 fun y1_ => (ldq S0 eSl y1_ fun (y2_ : (Option Addr × Nat × Nat)) => (nn v0 fun y3_ => (ldq S0 eM (y3_.add 1) fun (y4_ : Option Nat) => (valq S0 eS Tryz.prog (oLookup 68 (.map y4_) (v5) false) fun (y5_ : List UInt8) => (rq (0 ≤ v5 ∧ v5 < (y2_.2.1 : Int)) (nn y2_.1 fun y6_ => (st (Addr.add y6_ (v5.toNat * 1)) (str y5_) (K [(0, v0), (1, .int .u64 v1), (7, .slice v7p v7n v7c), (8, v8), (9, v9)])))))))))) := by kernel_rfl
@[go_sem] theorem c98_r5 (v0 : Option Addr) (v1 : Int) (v7p : Option Addr) (v7n v7c : Nat) (v8 v9 : Int) : RP c98 5 [(0, v0), (1, .int .u64 v1), (7, .slice v7p v7n v7c), (8, v8), (9, v9)] K =
 (K [(0, v0), (1, .int .u64 v1), (7, .slice v7p v7n v7c), (8, v8), (9, IntKind.wrap .i64 (v9 + 1))]) := by kernel_rfl
@[go_sem] theorem c98_r6 (v0 : Option Addr) : RP c98 6 [(0, v0)] K =
 (nn v0 fun y1_ => (ld eM (y1_.add 1) fun (y2_ : Option Nat) => (val eN Tryz.prog (oB_clear #[68] 0 #[.map y2_]) fun (y3_ : Unit) => (K [(0, v0)])))) := by kernel_rfl
@[go_sem] theorem c98_r7 (v0 : Option Addr) : RP c98 7 [(0, v0)] K =
 (nn v0 fun y1_ => (st (y1_.add 2) (false) (nn v0 fun y2_ => (st (y2_.add 3) (.int .i64 (-1 : Int)) (K [(0, v0)]))))) := by kernel_rfl
@[go_sem] theorem c98_r8 (v0 : Option Addr) : RP c98 8 [(0, v0)] K =
 (nn v0 fun y1_ => (ld eI (y1_.add 6) fun (y2_ : Int) => (nn v0 fun y3_ => (st (y3_.add 6) (IntKind.wrap .i64 (y2_ + 1)) (K []))))) := by kernel_rfl
@[go_sem] theorem c98_o : c98.lo 1000000 = [] := rfl
@[go_sem] theorem c98_e : RTp c98 [] k = (k (.tuple #[])) := by kernel_rfl
theorem c98_ok : (c98.P.follows .mixedOrders && okc c98 c98.body) = true := by kernel_rfl
theorem c98_fn (hρ : envA 0 args.toList = ρ) (hs : Nat.ble args.size 50 = true) (h : E L (D c98 (.seq (.seq (.reg 0) (.block 0 (.loop (.seq (.reg 1) (.seq (.cond (.tmp 10) (.skip) (.exit 0)) (.seq (.block 1 (.seq (.reg 2) (.seq (.reg 3) (.cond (.tmp 19) (.reg 4) (.skip))))) (.reg 5))))))) (.seq (.reg 6) (.seq (.reg 7) (.reg 8)))) (fnQ c98 e G) ρ)) : E L (cal e Tryz.prog 98 args G) :=
  d_fn (c := c98) Tryz.func98 (by kernel_rfl) (by kernel_rfl) (by kernel_rfl) c98_ok (by kernel_rfl) (by kernel_rfl) hρ hs h
noncomputable def c127 := cf Tryz.f127 23 [(0, [0]), (1, [0]), (2, []), (3, [0]), (4, [0, 3]), (5, [3, 11]), (6, [3, 11]), (7, [3, 4, 11]), (8, [3]), (9, [3])] [(0, [0]), (1, [0, 6]), (2, [2]), (3, [0, 3]), (4, [3, 11]), (5, [3, 11, 13]), (6, [3, 4, 11]), (7, [3, 11]), (8, [3]), (9, [2]), (1000000, [2])] [] [(11, eP), (12, (eT3 eB eI eS)), (14, (eT2 eI eS))]
@[go_sem] theorem c127_i : c127.li 0 = [0] ∧ c127.li 1 = [0] ∧ c127.li 2 = [] ∧ c127.li 3 = [0] ∧ c127.li 4 = [0, 3] ∧ c127.li 5 = [3, 11] ∧ c127.li 6 = [3, 11] ∧ c127.li 7 = [3, 4, 11] ∧ c127.li 8 = [3] ∧ c127.li 9 = [3] := ⟨rfl, rfl, rfl, rfl, rfl, rfl, rfl, rfl, rfl, rfl⟩
@[go_sem] theorem c127_r0 (v0 : Option Addr) : RP c127 0 [(0, v0)] K =
 (K [(0, v0)]) := by kernel_rfl
@[go_sem] theorem c127_r1 (v0 : Option Addr) : RP c127 1 [(0, v0)] K =
 (cal eB Tryz.prog 80 #[v0] fun (y1_ : Bool) => (K [(0, v0), (6, y1_)])) := by kernel_rfl
@[go_sem] theorem c127_r2 : RP c127 2 [] K =
 (K [(2, .slice none 0 0)]) := by kernel_rfl
@[go_sem] theorem c127_r3 (v0 : Option Addr) : RP c127 3 [(0, v0)] K =
 (K [(0, v0), (3, .slice none 0 0)]) := by kernel_rfl
@[go_sem] theorem c127_r4 (v0 v3p : Option Addr) (v3n v3c : Nat) : RP c127 4 [(0, v0), (3, .slice v3p v3n v3c)] K =
 (nn v0 fun y1_ => (ld eM (y1_.add 1) fun (y2_ : Option Nat) => (val eP Tryz.prog (oRange 68 (.map y2_)) fun (y3_ : Option Addr) => (K [(3, .slice v3p v3n v3c), (11, y3_)])))) := by kernel_rfl
@[go_sem] theorem c127_r5 (v3p : Option Addr) (v3n v3c : Nat) (v11 : Option Addr) : RP c127 5 [(3, .slice v3p v3n v3c), (11, v11)] K =
 (nxt (eT3 eB eI eS) Tryz.prog (oNext (v11) false 0) (K [(3, .slice v3p v3n v3c), (11, v11), (13, false)]) fun (y1_ : (Bool × Int × (List UInt8))) => (K [(3, .slice v3p v3n v3c), (11, v11), (13, y1_.1)])) := by kernel_rfl
@[go_sem] theorem c127_r6 (v3p : Option Addr) (v3n v3c : Nat) (v11 : Option Addr) : RP c127 6 [(3, .slice v3p v3n v3c), (11, v11)] K =
 (val (eT2 eI eS) Tryz.prog (oEntry (v11)) fun (y1_ : (Int × (List UInt8))) => (K [(3, .slice v3p v3n v3c), (4, y1_.1), (11, v11)])) := by kernel_rfl
@[go_sem] theorem c127_r7 (v3p : Option Addr) (v3n v3c : Nat) (v4 : Int) (v11 : Option Addr) : RP c127 7 [(3, .slice v3p v3n v3c), (4, v4), (11, v11)] K =
 (nwc #[v4] 3 fun y1_ => (val eSl Tryz.prog (oB_append #[93, 93] 93 #[.slice v3p v3n v3c, .slice (some y1_) 1 1]) fun (y2_ : (Option Addr × Nat × Nat)) => (K [(3, .slice y2_.1 y2_.2.1 y2_.2.2), (11, v11)]))) := by kernel_rfl
@[go_sem] theorem c127_r8 (v3p : Option Addr) (v3n v3c : Nat) : RP c127 8 [(3, .slice v3p v3n v3c)] K =
 (cal eN Tryz.prog 63 #[.slice v3p v3n v3c] fun (y1_ : Unit) => (K [(3, .slice v3p v3n v3c)])) := by kernel_rfl
@[go_sem] theorem c127_r9 (v3p : Option Addr) (v3n v3c : Nat) : RP c127 9 [(3, .slice v3p v3n v3c)] K =
 (K [(2, .slice v3p v3n v3c)]) := by kernel_rfl
@[go_sem] theorem c127_o : c127.lo 1000000 = [2] := rfl
@[go_sem] theorem c127_e (v2p : Option Addr) (v2n v2c : Nat) : RTp c127 [(2, .slice v2p v2n v2c)] k = (k (.slice v2p v2n v2c)) := by kernel_rfl
theorem c127_ok : (c127.P.follows .mixedOrders && okc c127 c127.body) = true := by kernel_rfl
theorem c127_fn (hρ : envA 0 args.toList = ρ) (hs : Nat.ble args.size 23 = true) (h : E L (D c127 (.seq (.reg 0) (.seq (.seq (.reg 1) (.cond (.tmp 6) (.seq (.reg 2) (.ret)) (.skip))) (.seq (.reg 3) (.seq (.seq (.reg 4) (.block 0 (.loop (.seq (.reg 5) (.seq (.cond (.tmp 13) (.skip) (.exit 0)) (.block 1 (.seq (.reg 6) (.reg 7)))))))) (.seq (.reg 8) (.seq (.reg 9) (.ret))))))) (fnQ c127 e G) ρ)) : E L (cal e Tryz.prog 127 args G) :=
  d_fn (c := c127) Tryz.func127 (by kernel_rfl) (by kernel_rfl) (by kernel_rfl) c127_ok (by kernel_rfl) (by kernel_rfl) hρ hs h
end Go.Sp
namespace Go.Sp
set_option linter.unusedSimpArgs false
set_option linter.unusedVariables false
set_option maxRecDepth 10000
open Go Go.Proofs
theorem f80 (t : TypeId) (s : SlV) (zs : List Int) (hl : zs.length < 4611686018427387904) :
    Fq eN Tryz.prog 63 #[.slice s.1 s.2.1 s.2.2] [ow t 1 s (zs.map fun n => .int .i64 n)] [ow t 1 s ((zs.mergeSort fun x y => decide (x ≤ y)).map fun n => .int .i64 n)] () :=
  fq_sort (fun b o c zs w h1 h2 h3 => AnyM.slices_Sort_int Tryz.loI b o c zs w h1 h2 h3) (fun p c w => AnyM.slices_Sort_int_none Tryz.loI p c w) t s zs hl
theorem f87 (s : List UInt8) (c : Nat) (h : s.length * c ≤ 140737488355328) (hc : c ≤ 9223372036854775807) : Fp eS Tryz.prog 106 #[str s, .int .i64 (c : Int)] [] (Lib.repeatL s c) :=
  fp_below fun w => Any.strings_Repeat Tryz.lays105 Tryz.builder ⟨s.toArray⟩ c w hc h
def wh (s : List UInt8) : List UInt8 := s ++ List.replicate (64 - s.length) 0
theorem wh_len {s : List UInt8} (h : s.length ≤ 64) : (wh s).length = 64 := by simp [wh]; omega
theorem wh_full {s : List UInt8} (h : s.length = 64) : wh s = s := by simp [wh, h]
theorem rep_one (n : Nat) : Lib.repeatL [0] n = List.replicate n (0 : UInt8) := by
  induction n with
  | zero => rfl
  | succ n ih => rw [Lib.repeatL, ih]; rfl
theorem f69 (s : List UInt8) (h : s.length ≤ 64) : Fp eS Tryz.prog 81 #[str s] [] (wh s) := fun L => by
  refine c81_fn rfl rfl ?_
  repeat' (first | (with_reducible first | refine d_seq fun K hK => ?_ | (refine hK _ _ ?_; clear hK K) | (refine SG.p ?_; try intro b) | refine SP.p ?_) | refine i_c ?_ ?_ <;> intro hc <;> try simp only [push_cast, seval] at hc | refine i_x ?_ | clear hK K)
  have e : IntKind.wrap .i64 ((64 : Int) - (s.length : Int)) = ((64 - s.length : Nat) : Int) := by rw [w64 (by omega) (by omega)]; omega
  rw [e]
  refine i_clp (f87 [0] (64 - s.length) (by simp; omega) (by omega)) ?_
  have hl : (Lib.repeatL [0] (64 - s.length)).length ≤ 64 := by rw [rep_one]; simp
  repeat' (first | (with_reducible first | refine d_seq fun K hK => ?_ | (refine hK _ _ ?_; clear hK K) | (refine SG.p ?_; try intro b) | refine SP.p ?_) | refine i_c ?_ ?_ <;> intro hc <;> try simp only [push_cast, seval] at hc | refine i_x ?_ | clear hK K)
  (with_reducible first | apply i_ret0 | apply i_ret2 | apply i_ret3 | apply i_ret); exact rfl
  rw [rep_one]; rfl
end Go.Sp
namespace Go.Sp
open Go Go.Proofs
set_option linter.unusedSimpArgs false
set_option linter.unusedVariables false
set_option maxRecDepth 10000
structure Dk where
  sb : Nat
  bb : Nat
  mb : Nat
  sure : List (List UInt8)
  es : Ents eI eS
  c : Nat
  up : Bool
  fuse : Int
  keep : Int
  acts : Int
  downs : Int
abbrev Dk.hd (D : Dk) : List Value := [.slice (some ⟨D.bb, 0, none⟩) D.sure.length D.sure.length, .map (some D.mb), .bool D.up, .int .i64 D.fuse, .int .u64 D.keep, .int .i64 D.acts, .int .i64 D.downs]
abbrev dkl (D : Dk) : List HP := [ar D.sb 71 D.hd, ar D.bb 9 (D.sure.map fun s => str s), mp eI eS D.mb D.es D.c]
def Dk.p (D : Dk) : Value := .pointer (some ⟨D.sb, 0, none⟩)
structure Dk.ok (D : Dk) : Prop where
  n0 : 0 < D.sure.length
  n1 : D.sure.length ≤ 8192
  l64 : ∀ s ∈ D.sure, s.length ≤ 64
  e64 : ∀ x ∈ D.es, x.2.1.length = 64
  ei : ∀ x ∈ D.es, 0 ≤ x.1 ∧ x.1 < (D.sure.length : Int)
  ec : ∀ x ∈ D.es, x.2.2 < D.c
  kn : (D.es.map (·.1)).Nodup
  bn : (D.es.map (·.2.2)).Nodup
  fu : -1 ≤ D.fuse ∧ D.fuse ≤ 9223372036854775807
  kp : 0 ≤ D.keep ∧ D.keep ≤ 18446744073709551615
def Dk.chk (D : Dk) (i : Int) : Int := if D.up = false then 9 else if i < 0 ∨ (D.sure.length : Int) ≤ i then 6 else 0
def Dk.get (D : Dk) (i : Int) : List UInt8 := (gk D.es i).getD (wh (D.sure.getD i.toNat []))
theorem f66 (D : Dk) (h : D.ok) : Fp eB Tryz.prog 80 #[D.p] (dkl D) false := fun L => by
  refine c80_fn rfl rfl ?_
  have := h.n0
  simp only [dkl, Dk.hd, Dk.p]
  repeat' (first | (with_reducible first | refine d_seq fun K hK => ?_ | (refine hK _ _ ?_; clear hK K) | (refine SG.p ?_; try intro b) | refine SP.p ?_) | refine i_c ?_ ?_ <;> intro hc <;> try simp only [push_cast, seval] at hc | refine i_x ?_ | clear hK K)
  (with_reducible first | apply i_ret0 | apply i_ret2 | apply i_ret3 | apply i_ret); exact rfl
  rw [beq_eq_false_iff_ne]; omega
theorem f67 (D : Dk) (h : D.ok) (i : Int) : Fp eI Tryz.prog 71 #[D.p, .int .i64 i] (dkl D) (D.chk i) := fun L => by
  refine c71_fn rfl rfl ?_
  simp only [Dk.p]
  repeat' (first | (with_reducible first | refine d_seq fun K hK => ?_ | (refine hK _ _ ?_; clear hK K) | (refine SG.p ?_; try intro b)) | refine i_c ?_ ?_ <;> intro hc <;> try simp only [push_cast, seval] at hc | refine i_x ?_ | clear hK K)
  refine i_clp (f66 D h) ?_
  simp only [dkl, Dk.hd]
  repeat' (first | (with_reducible first | refine d_seq fun K hK => ?_ | (refine hK _ _ ?_; clear hK K) | (refine SG.p ?_; try intro b) | refine SP.p ?_) | refine i_c ?_ ?_ <;> intro hc <;> try simp only [push_cast, seval] at hc | refine i_x ?_ | clear hK K)
  all_goals ((with_reducible first | apply i_ret0 | apply i_ret2 | apply i_ret3 | apply i_ret); exact rfl; simp [Dk.chk, *]; try omega)
theorem Dk.chk_ok {D : Dk} {i : Int} (h : D.chk i = 0) : D.up = true ∧ 0 ≤ i ∧ i < D.sure.length := by
  unfold Dk.chk at h
  split at h
  · cases h
  · split at h
    · cases h
    · rename_i h1 h2
      refine ⟨by simpa using h1, by omega, by omega⟩
theorem f31 (D : Dk) (h : D.ok) (i : Int) : Fp (eT2 eS eI) Tryz.prog 55 #[D.p, .int .i64 i] (dkl D) (if D.chk i = 0 then D.get i else [], D.chk i) := fun L => by
  refine c55_fn rfl rfl ?_
  simp only [Dk.p]
  repeat' (first | (with_reducible first | refine d_seq fun K hK => ?_ | (refine hK _ _ ?_; clear hK K) | (refine SG.p ?_; try intro b)) | refine i_c ?_ ?_ <;> intro hc <;> try simp only [push_cast, seval] at hc | refine i_x ?_ | clear hK K)
  refine i_clp (f67 D h i) ?_
  simp only [dkl, Dk.hd]
  repeat' (first | (with_reducible first | refine d_seq fun K hK => ?_ | (refine hK _ _ ?_; clear hK K) | (refine SG.p ?_; try intro b) | refine SP.p ?_) | refine i_c ?_ ?_ <;> intro hc <;> try simp only [push_cast, seval] at hc | refine i_x ?_ | clear hK K)
  · (with_reducible first | apply i_ret0 | apply i_ret2 | apply i_ret3 | apply i_ret); exact rfl
    simp [*]
  · have hk := Dk.chk_ok hc
    have hn : i.toNat < D.sure.length := by omega
    refine i_lk2 (ε := eS) [] (by kernel_rfl) ?_
    repeat' (first | (with_reducible first | refine d_seq fun K hK => ?_ | (refine hK _ _ ?_; clear hK K) | (refine SG.p ?_; try intro b) | refine SP.p ?_) | refine i_c ?_ ?_ <;> intro hc <;> try simp only [push_cast, seval] at hc | refine i_x ?_ | clear hK K)
    · (with_reducible first | apply i_ret0 | apply i_ret2 | apply i_ret3 | apply i_ret); exact rfl
      simp only [hc, if_true, Dk.get]
      cases hg : gk D.es i <;> simp_all
    · have hl : (D.sure.map fun s => str s)[i.toNat]? = some (str (D.sure.getD i.toNat [])) := by simp [hn]
      refine i_ld (e := eS) (by simpa using hl) ?_
      refine i_clp (f69 _ (h.l64 _ (by simp [hn]))) ?_
      repeat' (first | (with_reducible first | refine d_seq fun K hK => ?_ | (refine hK _ _ ?_; clear hK K) | (refine SG.p ?_; try intro b) | refine SP.p ?_) | refine i_c ?_ ?_ <;> intro hc <;> try simp only [push_cast, seval] at hc | refine i_x ?_ | clear hK K)
      (with_reducible first | apply i_ret0 | apply i_ret2 | apply i_ret3 | apply i_ret); exact rfl
      simp only [hc, if_true, Dk.get]
      cases hg : gk D.es i <;> simp_all
theorem f26 (D : Dk) (h : D.ok) : Fp eI Tryz.prog 54 #[D.p] (dkl D) (D.sure.length : Int) := fun L => by
  refine c54_fn rfl rfl ?_
  simp only [Dk.p]
  repeat' (first | (with_reducible first | refine d_seq fun K hK => ?_ | (refine hK _ _ ?_; clear hK K) | (refine SG.p ?_; try intro b)) | refine i_c ?_ ?_ <;> intro hc <;> try simp only [push_cast, seval] at hc | refine i_x ?_ | clear hK K)
  refine i_clp (f66 D h) ?_
  simp only [dkl, Dk.hd]
  repeat' (first | (with_reducible first | refine d_seq fun K hK => ?_ | (refine hK _ _ ?_; clear hK K) | (refine SG.p ?_; try intro b) | refine SP.p ?_) | refine i_c ?_ ?_ <;> intro hc <;> try simp only [push_cast, seval] at hc | refine i_x ?_ | clear hK K)
  (with_reducible first | apply i_ret0 | apply i_ret2 | apply i_ret3 | apply i_ret); exact rfl
  rfl
def Dk.new (sb bb mb n : Nat) : Dk := ⟨sb, bb, mb, List.replicate n [], [], 0, true, -1, 0, 0, 0⟩
theorem Dk.new_ok {sb bb mb n : Nat} (h0 : 0 < n) (h1 : n ≤ 8192) : (Dk.new sb bb mb n).ok := by
  constructor <;> simp_all [Dk.new]
theorem f25 (n : Nat) (h0 : 0 < n) (h1 : n ≤ 8192) : Fn (eT2 eP eI) Tryz.prog 6 #[.int .i64 (n : Int)] [] fun y X => ∃ sb bb mb, y = (some ⟨sb, 0, none⟩, 0) ∧ X = dkl (Dk.new sb bb mb n) := fun L => by
  refine c6_fn rfl rfl ?_
  repeat' (first | (with_reducible first | refine d_seq fun K hK => ?_ | (refine hK _ _ ?_; clear hK K) | (refine SG.p ?_; try intro b) | refine SP.p ?_) | refine i_c ?_ ?_ <;> intro hc <;> try simp only [push_cast, seval] at hc | refine i_x ?_ | clear hK K)
  all_goals try (exfalso; omega)
  refine r_mk (el := 9) n (str []) (by kernel_rfl) rfl (by omega) fun bb => ?_
  refine r_nwm eI eS fun mb => ?_
  refine r_nwc fun sb => ?_
  repeat' (first | (with_reducible first | refine d_seq fun K hK => ?_ | (refine hK _ _ ?_; clear hK K) | (refine SG.p ?_; try intro b) | refine SP.p ?_) | refine i_c ?_ ?_ <;> intro hc <;> try simp only [push_cast, seval] at hc | refine i_x ?_ | clear hK K)
  refine r_done (x := (some ⟨sb, 0, none⟩, 0)) (dkl (Dk.new sb bb mb n)) rfl ⟨sb, bb, mb, rfl, rfl⟩ ?_
  have hl : (List.replicate n ([] : List UInt8)).map (fun s => str s) = List.replicate n (str []) := by simp
  simp only [dkl, Dk.hd, Dk.new, hl, List.length_replicate]
  exact SX.p
def Dk.keys (D : Dk) : List Int := (D.es.map (·.1)).mergeSort fun x y => decide (x ≤ y)
theorem sort_perm {l l' : List Int} (h : l.Perm l') : l.mergeSort (fun x y => decide (x ≤ y)) = l'.mergeSort (fun x y => decide (x ≤ y)) := by
  have tr : ∀ a b c : Int, decide (a ≤ b) = true → decide (b ≤ c) = true → decide (a ≤ c) = true := by intro a b c h1 h2; simp at *; omega
  have tt : ∀ a b : Int, (decide (a ≤ b) || decide (b ≤ a)) = true := by intro a b; simp; omega
  refine List.Perm.eq_of_pairwise (le := fun a b => decide (a ≤ b) = true) ?_ (List.pairwise_mergeSort tr tt l) (List.pairwise_mergeSort tr tt l') (((List.mergeSort_perm _ _).trans h).trans (List.mergeSort_perm _ _).symm)
  intro a b _ _ h1 h2
  simp at h1 h2
  omega
theorem f43 (D : Dk) (h : D.ok) (hlen : D.es.length ≤ 8192) : Fn eSl Tryz.prog 127 #[D.p] (dkl D) fun y X => X = ow 3 1 y (D.keys.map fun n => .int .i64 n) :: dkl D ∧ y.2.1 = D.keys.length := fun L => by
  refine c127_fn rfl rfl ?_
  simp only [Dk.p]
  repeat' (first | (with_reducible first | refine d_seq fun K hK => ?_ | (refine hK _ _ ?_; clear hK K) | (refine SG.p ?_; try intro b)) | refine i_c ?_ ?_ <;> intro hc <;> try simp only [push_cast, seval] at hc | refine i_x ?_ | clear hK K)
  refine i_clp (f66 D h) ?_
  simp only [dkl, Dk.hd]
  repeat' (first | (with_reducible first | refine d_seq fun K hK => ?_ | (refine hK _ _ ?_; clear hK K) | (refine SG.p ?_; try intro b) | refine SP.p ?_) | refine i_c ?_ ?_ <;> intro hc <;> try simp only [push_cast, seval] at hc | refine i_x ?_ | clear hK K)
  refine i_mrng (κ := eI) (ε := eS) (a := 3) (b := 9) (by kernel_rfl) fun it => ?_
  refine r_nilow 3 1 ?_
  repeat' (first | (with_reducible first | refine d_seq fun K hK => ?_ | (refine hK _ _ ?_; clear hK K) | (refine SG.p ?_; try intro b) | refine SP.p ?_) | refine i_c ?_ ?_ <;> intro hc <;> try simp only [push_cast, seval] at hc | refine i_x ?_ | clear hK K)
  refine d_lp [3, 11] (fun s : SlV × Ents eI eS × Ents eI eS => [(3, .slice s.1.1 s.1.2.1 s.1.2.2), (11, .pointer (some ⟨it, 0, none⟩))])
    (fun s => ow 3 1 s.1 ((s.2.1.map fun x => (x.1 : Int)).map fun n => .int .i64 n) :: blk it (.mapIter (some D.mb) D.c (sn s.2.1) D.c) :: (dkl D ++ L)) (fun s => Rg D.es s.2.1 s.2.2 ∧ s.1.2.1 = s.2.1.length) (fun s => s.2.2.length) ((none, 0, 0), [], D.es) rfl ?_ ⟨Rg.start _, rfl⟩ ?_
  · show Sub (ow 3 1 (none, 0, 0) [] :: blk it (.mapIter (some D.mb) D.c #[] D.c) :: (dkl D ++ L)) _
    exact SX.p
  rintro ⟨⟨op, on, oc⟩, S, R⟩ ⟨hR, ho⟩
  dsimp only at ho hR ⊢
  have hlS : S.length + R.length = D.es.length := by rw [← List.length_append]; exact hR.length_eq
  repeat' (first | (with_reducible first | refine d_seq fun K hK => ?_ | (refine hK _ _ ?_; clear hK K) | (refine SG.p ?_; try intro b) | refine SP.p ?_) | refine i_c ?_ ?_ <;> intro hc <;> try simp only [push_cast, seval] at hc | refine i_x ?_ | clear hK K)
  refine i_mnx (κ := eI) (ε := eS) h.ec (Nat.le_refl _) (fun ha => ?_) fun x hx hn => ?_
  · repeat' (first | (with_reducible first | refine d_seq fun K hK => ?_ | (refine hK _ _ ?_; clear hK K) | (refine SG.p ?_; try intro b) | refine SP.p ?_) | refine i_c ?_ ?_ <;> intro hc <;> try simp only [push_cast, seval] at hc | refine i_x ?_ | clear hK K)
    obtain rfl := hR.done h.bn ha
    have hS : S.Perm D.es := by have := hR; unfold Rg at this; simpa using this
    refine i_clq (f80 3 (op, on, oc) (S.map fun x => (x.1 : Int)) (by simp; omega)) ?_
    repeat' (first | (with_reducible first | refine d_seq fun K hK => ?_ | (refine hK _ _ ?_; clear hK K) | (refine SG.p ?_; try intro b) | refine SP.p ?_) | refine i_c ?_ ?_ <;> intro hc <;> try simp only [push_cast, seval] at hc | refine i_x ?_ | clear hK K)
    have hk : D.keys = (S.map fun x => (x.1 : Int)).mergeSort fun x y => decide (x ≤ y) := (sort_perm (hS.map _)).symm
    rw [hk]
    exact i_done (op, on, oc) (ow 3 1 (op, on, oc) _ :: dkl D) rfl ⟨rfl, by simpa using ho⟩
  · repeat' (first | (with_reducible first | refine d_seq fun K hK => ?_ | (refine hK _ _ ?_; clear hK K) | (refine SG.p ?_; try intro b) | refine SP.p ?_) | refine i_c ?_ ?_ <;> intro hc <;> try simp only [push_cast, seval] at hc | refine i_x ?_ | clear hK K)
    rw [sn_push]
    refine i_ment hx h.bn ?_
    repeat' (first | (with_reducible first | refine d_seq fun K hK => ?_ | (refine hK _ _ ?_; clear hK K) | (refine SG.p ?_; try intro b) | refine SP.p ?_) | refine i_c ?_ ?_ <;> intro hc <;> try simp only [push_cast, seval] at hc | refine i_x ?_ | clear hK K)
    obtain ⟨R', hlt, hst⟩ := hR.step hx hn
    refine i_app (t := 3) (sz := 1) (op, on, oc) 8 (by kernel_rfl) (by decide) rfl rfl (by simp only; omega) fun o' ho' _ => ?_
    have e : (S.map fun x => (x.1 : Int)).map (fun n => Value.int .i64 n) ++ [Value.int .i64 x.1] = ((S ++ [x]).map fun x => (x.1 : Int)).map fun n => Value.int .i64 n := by simp
    rw [e]
    exact i_bk (o', S ++ [x], R') rfl ⟨hst, by simp [ho', ho]⟩ hlt
def kb (keep : Int) (k : Nat) : Bool := bits .and .u64 (keep.fdiv (2 ^ (min (((k : Int).tmod (64 : Int))).toNat 64))) (1 : Int) == (1 : Int)
def Dk.cutn (D : Dk) (keep : Int) : Nat → List (List UInt8)
  | 0 => D.sure
  | n + 1 => if kb keep n then (D.cutn keep n).set (D.keys.getD n 0).toNat ((gk D.es (D.keys.getD n 0)).getD []) else D.cutn keep n
def Dk.off (D : Dk) (keep : Int) : Dk := { D with sure := D.cutn keep D.keys.length, es := [], up := false, fuse := -1, downs := IntKind.wrap .i64 (D.downs + 1) }
theorem Dk.cutn_len (D : Dk) (keep : Int) (n : Nat) : (D.cutn keep n).length = D.sure.length := by
  induction n with
  | zero => rfl
  | succ n ih => unfold Dk.cutn; split <;> simp [ih]
theorem Dk.keys_len (D : Dk) : D.keys.length = D.es.length := by simp [Dk.keys]
theorem Dk.keys_in {D : Dk} (h : D.ok) {n : Nat} (hn : n < D.keys.length) : 0 ≤ D.keys.getD n 0 ∧ D.keys.getD n 0 < D.sure.length := by
  have h1 : D.keys.getD n 0 ∈ D.es.map (·.1) := by
    have : D.keys.getD n 0 = D.keys[n] := by simp [hn]
    rw [this]
    exact (List.mergeSort_perm _ _).mem_iff.1 (List.getElem_mem hn)
  obtain ⟨x, hx, e⟩ := List.mem_map.1 h1
  rw [← e]
  exact h.ei x hx
theorem f70 (D : Dk) (h : D.ok) (hlen : D.es.length ≤ 8192) (keep : Int) : Fq eN Tryz.prog 98 #[D.p, .int .u64 keep] (dkl D) (dkl (D.off keep)) () := fun L => by
  refine c98_fn rfl rfl ?_
  simp only [Dk.p]
  repeat' (first | (with_reducible first | refine d_seq fun K hK => ?_ | (refine hK _ _ ?_; clear hK K) | (refine SG.p ?_; try intro b)) | refine i_c ?_ ?_ <;> intro hc <;> try simp only [push_cast, seval] at hc | refine i_x ?_ | clear hK K)
  refine i_cal (f43 D h hlen) fun y X ⟨hX, hy⟩ => ?_
  subst hX
  obtain ⟨yp, yn, yc⟩ := y
  dsimp only at hy
  subst hy
  repeat' (first | (with_reducible first | refine d_seq fun K hK => ?_ | (refine hK _ _ ?_; clear hK K) | (refine SG.p ?_; try intro b) | refine SP.p ?_) | refine i_c ?_ ?_ <;> intro hc <;> try simp only [push_cast, seval] at hc | refine i_x ?_ | clear hK K)
  refine d_lp [0, 1, 7, 8, 9] (fun n : Nat => [(0, .pointer (some ⟨D.sb, 0, none⟩)), (1, .int .u64 keep), (7, .slice yp D.keys.length yc), (8, .int .i64 (D.keys.length : Int)), (9, .int .i64 (n : Int))])
    (fun n => ow 3 1 (yp, D.keys.length, yc) (D.keys.map fun n => .int .i64 n) :: ar D.sb 71 D.hd :: ar D.bb 9 ((D.cutn keep n).map fun s => str s) :: mp eI eS D.mb D.es D.c :: L) (fun n => n ≤ D.keys.length) (fun n => D.keys.length - n) 0 rfl ?_ (by omega) ?_
  · show Sub (ow 3 1 (yp, D.keys.length, yc) (D.keys.map fun n => .int .i64 n) :: (dkl D ++ L)) _
    exact SX.p
  intro n hn
  repeat' (first | (with_reducible first | refine d_seq fun K hK => ?_ | (refine hK _ _ ?_; clear hK K) | (refine SG.p ?_; try intro b)) | refine i_c ?_ ?_ <;> intro hc <;> try simp only [push_cast, seval] at hc | refine i_x ?_ | clear hK K)
  · refine i_ow (t := 3) (sz := 1) (yp, D.keys.length, yc) fun hR => ?_
    obtain ⟨a, rfl⟩ := hR.ptr (by omega)
    repeat' (first | (with_reducible first | refine d_seq fun K hK => ?_ | (refine hK _ _ ?_; clear hK K) | (refine SG.p ?_; try intro b)) | refine i_c ?_ ?_ <;> intro hc <;> try simp only [push_cast, seval] at hc | refine i_x ?_ | clear hK K)
    have hn' : n < D.keys.length := by omega
    have hi := Dk.keys_in h hn'
    have hx : (D.keys.map fun n => Value.int .i64 n)[n]? = some (eI.enc (D.keys.getD n 0)) := by simp [hn']
    refine i_o1 hx ?_
    have hlc := Dk.cutn_len D keep n
    have h8 := hlen
    rw [← Dk.keys_len] at h8
    have hes : 0 ≤ (n : Int).tmod (64 : Int) := by rw [tm (by omega)]; omega
    repeat' (first | (with_reducible first | refine d_seq fun K hK => ?_ | (refine hK _ _ ?_; clear hK K) | (refine SG.p ?_; try intro b)) | refine i_c ?_ ?_ <;> intro hc <;> try simp only [push_cast, seval] at hc | refine i_x ?_ | clear hK K)
    · have hkb : kb keep n = true := by simpa [kb] using hc
      have e : D.cutn keep (n + 1) = (D.cutn keep n).set (D.keys.getD n 0).toNat ((gk D.es (D.keys.getD n 0)).getD []) := by rw [Dk.cutn, if_pos hkb]
      repeat' (first | (with_reducible first | refine d_seq fun K hK => ?_ | (refine hK _ _ ?_; clear hK K) | (refine SG.p ?_; try intro b) | refine SP.p ?_) | refine i_c ?_ ?_ <;> intro hc <;> try simp only [push_cast, seval] at hc | refine i_x ?_ | clear hK K)
      refine i_lk1q (ε := eS) [] (by kernel_rfl) ?_
      repeat' (first | (with_reducible first | refine d_seq fun K hK => ?_ | (refine hK _ _ ?_; clear hK K) | (refine SG.p ?_; try intro b) | refine SP.p ?_) | refine i_c ?_ ?_ <;> intro hc <;> try simp only [push_cast, seval] at hc | refine i_x ?_ | clear hK K)
      refine i_st (by simp only [List.length_map]; omega) rfl ?_
      rw [← List.map_set, ← e]
      repeat' (first | (with_reducible first | refine d_seq fun K hK => ?_ | (refine hK _ _ ?_; clear hK K) | (refine SG.p ?_; try intro b) | refine SP.p ?_) | refine i_c ?_ ?_ <;> intro hc <;> try simp only [push_cast, seval] at hc | refine i_x ?_ | clear hK K)
      exact i_bk (n + 1) (by simp (disch := omega) only [w64]; rfl) (by omega) (by omega)
    · have hkb : kb keep n = false := by simpa [kb] using hc
      have e : D.cutn keep (n + 1) = D.cutn keep n := by rw [Dk.cutn, if_neg (by simp [hkb])]
      rw [← e]
      refine i_bk (n + 1) (by simp (disch := omega) only [w64]; rfl) (by omega) (by omega)
  · obtain rfl : n = D.keys.length := by omega
    refine i_mclr (κ := eI) (ε := eS) (a := 3) (b := 9) (by kernel_rfl) ?_
    repeat' (first | (with_reducible first | refine d_seq fun K hK => ?_ | (refine hK _ _ ?_; clear hK K) | (refine SG.p ?_; try intro b) | refine SP.p ?_) | refine i_c ?_ ?_ <;> intro hc <;> try simp only [push_cast, seval] at hc | refine i_x ?_ | clear hK K)
    simp only [Dk.off, dkl, Dk.hd, Dk.cutn_len]
    (with_reducible first | apply i_ret0 | apply i_ret2 | apply i_ret3 | apply i_ret); exact rfl
theorem nd_len : ∀ (n : Nat) (l : List Int), l.Nodup → (∀ x ∈ l, 0 ≤ x ∧ x < (n : Int)) → l.length ≤ n
  | 0, l, _, h => by
    cases l with
    | nil => simp
    | cons x r => have := h x (by simp); omega
  | n + 1, l, hd, h => by
    by_cases hm : (n : Int) ∈ l
    · have h1 := nd_len n (l.erase n) (hd.erase _) fun x hx => by
        have h2 := (List.Nodup.mem_erase_iff hd).1 hx
        have := h x h2.2
        have := h2.1
        omega
      rw [List.length_erase_of_mem hm] at h1
      omega
    · have h1 := nd_len n l hd fun x hx => by
        have h2 := h x hx
        have : x ≠ n := fun e => hm (e ▸ hx)
        omega
      omega
theorem Dk.ok.len {D : Dk} (h : D.ok) : D.es.length ≤ 8192 := by
  have := nd_len D.sure.length (D.es.map (·.1)) h.kn fun x hx => by
    obtain ⟨y, hy, rfl⟩ := List.mem_map.1 hx
    exact h.ei y hy
  have := h.n1
  simp at *
  omega
theorem gk_mem {es : Ents eI eS} {k : Int} {v : List UInt8} (h : gk es k = some v) : ∃ x ∈ es, x.1 = k ∧ x.2.1 = v := by
  induction es with
  | nil => cases h
  | cons x r ih =>
    unfold gk at h
    split at h
    · rename_i e; exact ⟨x, by simp, e, by simpa using h⟩
    · obtain ⟨y, hy, e⟩ := ih h; exact ⟨y, by simp [hy], e⟩
theorem gk_none {es : Ents eI eS} {k : Int} (h : gk es k = none) : ∀ x ∈ es, x.1 ≠ k := by
  induction es with
  | nil => intro x hx; cases hx
  | cons y r ih =>
    unfold gk at h
    split at h
    · cases h
    · rename_i e
      intro x hx
      cases hx with
      | head => exact e
      | tail _ hx => exact ih h x hx
theorem Dk.cutn_64 {D : Dk} (h : D.ok) (keep : Int) (n : Nat) : ∀ s ∈ D.cutn keep n, s.length ≤ 64 := by
  induction n with
  | zero => exact h.l64
  | succ n ih =>
    unfold Dk.cutn
    split
    · intro s hs
      rcases List.mem_or_eq_of_mem_set hs with h1 | rfl
      · exact ih s h1
      · cases hg : gk D.es (D.keys.getD n 0) with
        | none => simp
        | some v =>
          obtain ⟨x, hx, _, rfl⟩ := gk_mem hg
          have := h.e64 x hx
          simp only [Option.getD_some]; omega
    · exact ih
theorem Dk.off_ok {D : Dk} (h : D.ok) (keep : Int) : (D.off keep).ok := by
  have h1 := h.n0
  have h2 := h.n1
  have h3 := h.kp
  have h4 := Dk.cutn_len D keep D.keys.length
  have h5 := Dk.cutn_64 h keep D.keys.length
  constructor <;> simp only [Dk.off, h4] <;> first | assumption | simp | omega
def Dk.act (D : Dk) : Int × Dk := if D.fuse = 0 then (9, D.off D.keep) else (0, { D with fuse := if 0 < D.fuse then D.fuse - 1 else D.fuse, acts := IntKind.wrap .i64 (D.acts + 1) })
theorem Dk.act_sb (D : Dk) : D.act.2.sb = D.sb := by unfold Dk.act; split <;> rfl
theorem Dk.act_ok {D : Dk} (h : D.ok) : D.act.2.ok := by
  unfold Dk.act
  split
  · exact Dk.off_ok h _
  · obtain ⟨h1, h2, h3, h4, h5, h6, h7, h8, h9, h10⟩ := h
    constructor <;> simp only <;> first | assumption | (split <;> omega)
theorem f68 (D : Dk) (h : D.ok) : Fq eI Tryz.prog 72 #[D.p] (dkl D) (dkl D.act.2) D.act.1 := by
  have hf := h.fu
  unfold Dk.act
  by_cases h0 : D.fuse = 0
  · simp only [h0, if_true]
    intro L
    refine c72_fn rfl rfl ?_
    simp only [Dk.p]
    repeat' (first | (with_reducible first | refine d_seq fun K hK => ?_ | (refine hK _ _ ?_; clear hK K) | (refine SG.p ?_; try intro b)) | refine i_c ?_ ?_ <;> intro hc <;> try simp only [push_cast, seval] at hc | refine i_x ?_ | clear hK K)
    · refine i_clq (f70 D h h.len D.keep) ?_
      repeat' (first | (with_reducible first | refine d_seq fun K hK => ?_ | (refine hK _ _ ?_; clear hK K) | (refine SG.p ?_; try intro b) | refine SP.p ?_) | refine i_c ?_ ?_ <;> intro hc <;> try simp only [push_cast, seval] at hc | refine i_x ?_ | clear hK K)
      (with_reducible first | apply i_ret0 | apply i_ret2 | apply i_ret3 | apply i_ret); exact rfl
      rfl
    all_goals contradiction
  · by_cases h1 : 0 < D.fuse <;> simp only [h0, h1, if_true, if_false]
    all_goals
      intro L
      refine c72_fn rfl rfl ?_
      simp only [Dk.p]
      repeat' (first | (with_reducible first | refine d_seq fun K hK => ?_ | (refine hK _ _ ?_; clear hK K) | (refine SG.p ?_; try intro b)) | refine i_c ?_ ?_ <;> intro hc <;> try simp only [push_cast, seval] at hc | refine i_x ?_ | clear hK K)
      all_goals first | contradiction | (exfalso; omega) | (simp (disch := omega) only [w64]; (with_reducible first | apply i_ret0 | apply i_ret2 | apply i_ret3 | apply i_ret); exact rfl; rfl) | ((with_reducible first | apply i_ret0 | apply i_ret2 | apply i_ret3 | apply i_ret); exact rfl; rfl)
def Dk.put (D : Dk) (i : Int) (s : List UInt8) : Dk := { D with es := pk D.es i s D.c, c := ck D.es i D.c }
def Dk.write (D : Dk) (i : Int) (s : List UInt8) : Int × Dk :=
  if D.chk i = 0 then (if 64 < s.length then (3, D) else if D.act.1 = 0 then (0, D.act.2.put i (wh s)) else (D.act.1, D.act.2)) else (D.chk i, D)
theorem f27 (D : Dk) (h : D.ok) (i : Int) (s : List UInt8) : Fq eI Tryz.prog 70 #[D.p, .int .i64 i, str s] (dkl D) (dkl (D.write i s).2) (D.write i s).1 := by
  unfold Dk.write
  by_cases h0 : D.chk i = 0
  · simp only [h0, if_true]
    by_cases h1 : 64 < s.length
    · simp only [h1, if_true]
      intro L
      refine c70_fn rfl rfl ?_
      simp only [Dk.p]
      repeat' (first | (with_reducible first | refine d_seq fun K hK => ?_ | (refine hK _ _ ?_; clear hK K) | (refine SG.p ?_; try intro b)) | refine i_c ?_ ?_ <;> intro hc <;> try simp only [push_cast, seval] at hc | refine i_x ?_ | clear hK K)
      refine i_clp (f67 D h i) ?_
      try simp only [h0]
      repeat' (first | (with_reducible first | refine d_seq fun K hK => ?_ | (refine hK _ _ ?_; clear hK K) | (refine SG.p ?_; try intro b)) | refine i_c ?_ ?_ <;> intro hc <;> try simp only [push_cast, seval] at hc | refine i_x ?_ | clear hK K)
      all_goals first | contradiction | omega | ((with_reducible first | apply i_ret0 | apply i_ret2 | apply i_ret3 | apply i_ret); exact rfl; rfl)
    · simp only [h1, if_false]
      by_cases h2 : D.act.1 = 0 <;> simp only [h2, if_true, if_false]
      all_goals
        intro L
        refine c70_fn rfl rfl ?_
        simp only [Dk.p]
        repeat' (first | (with_reducible first | refine d_seq fun K hK => ?_ | (refine hK _ _ ?_; clear hK K) | (refine SG.p ?_; try intro b)) | refine i_c ?_ ?_ <;> intro hc <;> try simp only [push_cast, seval] at hc | refine i_x ?_ | clear hK K)
        refine i_clp (f67 D h i) ?_
        try simp only [h0]
        repeat' (first | (with_reducible first | refine d_seq fun K hK => ?_ | (refine hK _ _ ?_; clear hK K) | (refine SG.p ?_; try intro b)) | refine i_c ?_ ?_ <;> intro hc <;> try simp only [push_cast, seval] at hc | refine i_x ?_ | clear hK K)
        all_goals try (first | contradiction | (exfalso; omega))
        refine i_clq (f68 D h) ?_
        try simp only [h2]
        repeat' (first | (with_reducible first | refine d_seq fun K hK => ?_ | (refine hK _ _ ?_; clear hK K) | (refine SG.p ?_; try intro b)) | refine i_c ?_ ?_ <;> intro hc <;> try simp only [push_cast, seval] at hc | refine i_x ?_ | clear hK K)
        all_goals try (first | contradiction | (exfalso; omega))
      · have hsb := Dk.act_sb D
        generalize D.act.2 = A at *
        rw [← hsb]
        repeat' (first | (with_reducible first | refine d_seq fun K hK => ?_ | (refine hK _ _ ?_; clear hK K) | (refine SG.p ?_; try intro b) | refine SP.p ?_) | refine i_c ?_ ?_ <;> intro hc <;> try simp only [push_cast, seval] at hc | refine i_x ?_ | clear hK K)
        refine i_clp (f69 s (by omega)) ?_
        repeat' (first | (with_reducible first | refine d_seq fun K hK => ?_ | (refine hK _ _ ?_; clear hK K) | (refine SG.p ?_; try intro b) | refine SP.p ?_) | refine i_c ?_ ?_ <;> intro hc <;> try simp only [push_cast, seval] at hc | refine i_x ?_ | clear hK K)
        refine i_mu (ε := eS) (v := wh s) [] rfl (by kernel_rfl) ?_
        repeat' (first | (with_reducible first | refine d_seq fun K hK => ?_ | (refine hK _ _ ?_; clear hK K) | (refine SG.p ?_; try intro b) | refine SP.p ?_) | refine i_c ?_ ?_ <;> intro hc <;> try simp only [push_cast, seval] at hc | refine i_x ?_ | clear hK K)
        simp only [Dk.put]
        (with_reducible first | apply i_ret0 | apply i_ret2 | apply i_ret3 | apply i_ret); exact rfl
        rfl
      · (with_reducible first | apply i_ret0 | apply i_ret2 | apply i_ret3 | apply i_ret); exact rfl
        rfl
  · simp only [h0, if_false]
    intro L
    refine c70_fn rfl rfl ?_
    simp only [Dk.p]
    repeat' (first | (with_reducible first | refine d_seq fun K hK => ?_ | (refine hK _ _ ?_; clear hK K) | (refine SG.p ?_; try intro b)) | refine i_c ?_ ?_ <;> intro hc <;> try simp only [push_cast, seval] at hc | refine i_x ?_ | clear hK K)
    refine i_clp (f67 D h i) ?_
    repeat' (first | (with_reducible first | refine d_seq fun K hK => ?_ | (refine hK _ _ ?_; clear hK K) | (refine SG.p ?_; try intro b)) | refine i_c ?_ ?_ <;> intro hc <;> try simp only [push_cast, seval] at hc | refine i_x ?_ | clear hK K)
    all_goals first | contradiction | omega | ((with_reducible first | apply i_ret0 | apply i_ret2 | apply i_ret3 | apply i_ret); exact rfl; rfl)
end Go.Sp
