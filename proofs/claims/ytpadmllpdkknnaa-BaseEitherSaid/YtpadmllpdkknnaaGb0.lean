/- What each region of the Go functions does. Written by my own generator. -/
import Derived.Test.YtpadmllpdkknnaaT
namespace Go.Sp
open Go
set_option maxRecDepth 100000
set_option linter.unusedVariables false
open Go.Proofs
/-! gharry.base.Load -/
noncomputable def c34 : Cfg := { P := Try.prog, n := 42, T := TT, body := (Try.f34.body).getD .skip, res := Try.f34.results.toList, li := lk [] [(0, [0]), (1, [0, 2]), (2, [2, 4, 5]), (3, [2, 5]), (4, [2, 4]), (5, [2, 6]), (6, [2]), (7, [2, 6])], lo := lk [] [(0, [0, 2]), (1, [2, 4, 5]), (2, [2, 4, 5, 13]), (3, [2, 3]), (4, [2, 6]), (5, [2, 6, 25]), (6, [2, 3]), (7, [2, 3]), (1000000, [2, 3])], ord := lk (false, []) [] }
@[go_sem] theorem c34_i0 : c34.li 0 = [0] := rfl
@[go_sem] theorem c34_i1 : c34.li 1 = [0, 2] := rfl
@[go_sem] theorem c34_i2 : c34.li 2 = [2, 4, 5] := rfl
@[go_sem] theorem c34_i3 : c34.li 3 = [2, 5] := rfl
@[go_sem] theorem c34_i4 : c34.li 4 = [2, 4] := rfl
@[go_sem] theorem c34_i5 : c34.li 5 = [2, 6] := rfl
@[go_sem] theorem c34_i6 : c34.li 6 = [2] := rfl
@[go_sem] theorem c34_i7 : c34.li 7 = [2, 6] := rfl
@[go_sem] theorem c34_r0 (d0 : Option Addr) (K : Env → W) : RP c34 0 [(0, .pointer d0)] K =
    (nwc #[.int .i64 ((0 : Int)), .int .i64 ((0 : Int)), .int .i64 ((0 : Int)), .int .i64 ((0 : Int)), .int .i64 ((0 : Int)), .int .i64 ((0 : Int)), .int .i64 ((0 : Int))] 39 fun y1_ => (K [(0, .pointer d0), (2, .pointer (some y1_))])) := by kernel_rfl
@[go_sem] theorem c34_r1 (d0 : Option Addr) (t2 : Addr) (K : Env → W) : RP c34 1 [(0, .pointer d0), (2, .pointer (some t2))] K =
    (cal (eT2 eS eI) Try.prog 31 #[.pointer d0, .int .i64 ((0 : Int))] fun (y1_ : ((List UInt8) × Int)) => (K [(2, .pointer (some t2)), (4, str y1_.1), (5, .int .i64 y1_.2)])) := by kernel_rfl
@[go_sem] theorem c34_r2 (t2 : Addr) (s4 : List UInt8) (e5 : Int) (K : Env → W) : RP c34 2 [(2, .pointer (some t2)), (4, str s4), (5, .int .i64 e5)] K =
    (K [(2, .pointer (some t2)), (4, str s4), (5, .int .i64 e5), (13, .bool ((e5 != (0 : Int))))]) := by kernel_rfl
@[go_sem] theorem c34_r3 (t2 : Addr) (e5 : Int) (K : Env → W) : RP c34 3 [(2, .pointer (some t2)), (5, .int .i64 e5)] K =
    (stl [.int .i64 (((⟨(0 : Int), (0 : Int), (0 : Int), (0 : Int), (0 : Int), (0 : Int), (0 : Int)⟩ : base_Base)).Node), .int .i64 (((⟨(0 : Int), (0 : Int), (0 : Int), (0 : Int), (0 : Int), (0 : Int), (0 : Int)⟩ : base_Base)).Boot), .int .i64 (((⟨(0 : Int), (0 : Int), (0 : Int), (0 : Int), (0 : Int), (0 : Int), (0 : Int)⟩ : base_Base)).Gen), .int .i64 (((⟨(0 : Int), (0 : Int), (0 : Int), (0 : Int), (0 : Int), (0 : Int), (0 : Int)⟩ : base_Base)).Check), .int .i64 (((⟨(0 : Int), (0 : Int), (0 : Int), (0 : Int), (0 : Int), (0 : Int), (0 : Int)⟩ : base_Base)).Redo), .int .i64 (((⟨(0 : Int), (0 : Int), (0 : Int), (0 : Int), (0 : Int), (0 : Int), (0 : Int)⟩ : base_Base)).Seen), .int .i64 (((⟨(0 : Int), (0 : Int), (0 : Int), (0 : Int), (0 : Int), (0 : Int), (0 : Int)⟩ : base_Base)).Joined)] t2 0 (K [(2, .pointer (some t2)), (3, .int .i64 e5)])) := by kernel_rfl
@[go_sem] theorem c34_r4 (t2 : Addr) (s4 : List UInt8) (K : Env → W) : RP c34 4 [(2, .pointer (some t2)), (4, str s4)] K =
    (cal eP Try.prog 72 #[str s4] fun (y1_ : Option Addr) => (K [(2, .pointer (some t2)), (6, .pointer y1_)])) := by kernel_rfl
@[go_sem] theorem c34_r5 (t2 : Addr) (r6 : Option Addr) (K : Env → W) : RP c34 5 [(2, .pointer (some t2)), (6, .pointer r6)] K =
    (cal eS Try.prog 73 #[.pointer r6, .int .i64 ((7 : Int))] fun (y1_ : List UInt8) => (cnd ((!(y1_ == ([103, 104, 97, 114, 114, 121, 49] : List UInt8)))) (K [(2, .pointer (some t2)), (6, .pointer r6), (25, .bool true)]) (cal eI Try.prog 74 #[.pointer r6] fun (y2_ : Int) => (K [(2, .pointer (some t2)), (6, .pointer r6), (25, .bool ((y2_ != (0 : Int))))])))) := by kernel_rfl
@[go_sem] theorem c34_r6 (t2 : Addr) (K : Env → W) : RP c34 6 [(2, .pointer (some t2))] K =
    (stl [.int .i64 (((⟨(0 : Int), (0 : Int), (0 : Int), (0 : Int), (0 : Int), (0 : Int), (0 : Int)⟩ : base_Base)).Node), .int .i64 (((⟨(0 : Int), (0 : Int), (0 : Int), (0 : Int), (0 : Int), (0 : Int), (0 : Int)⟩ : base_Base)).Boot), .int .i64 (((⟨(0 : Int), (0 : Int), (0 : Int), (0 : Int), (0 : Int), (0 : Int), (0 : Int)⟩ : base_Base)).Gen), .int .i64 (((⟨(0 : Int), (0 : Int), (0 : Int), (0 : Int), (0 : Int), (0 : Int), (0 : Int)⟩ : base_Base)).Check), .int .i64 (((⟨(0 : Int), (0 : Int), (0 : Int), (0 : Int), (0 : Int), (0 : Int), (0 : Int)⟩ : base_Base)).Redo), .int .i64 (((⟨(0 : Int), (0 : Int), (0 : Int), (0 : Int), (0 : Int), (0 : Int), (0 : Int)⟩ : base_Base)).Seen), .int .i64 (((⟨(0 : Int), (0 : Int), (0 : Int), (0 : Int), (0 : Int), (0 : Int), (0 : Int)⟩ : base_Base)).Joined)] t2 0 (K [(2, .pointer (some t2)), (3, .int .i64 ((8 : Int)))])) := by kernel_rfl
@[go_sem] theorem c34_r7 (t2 : Addr) (r6 : Option Addr) (K : Env → W) : RP c34 7 [(2, .pointer (some t2)), (6, .pointer r6)] K =
    (cal eI Try.prog 75 #[.pointer r6, .int .i64 ((1 : Int))] fun (y1_ : Int) => (cal eI Try.prog 75 #[.pointer r6, .int .i64 ((4 : Int))] fun (y2_ : Int) => (cal eI Try.prog 75 #[.pointer r6, .int .i64 ((2 : Int))] fun (y3_ : Int) => (cal eI Try.prog 75 #[.pointer r6, .int .i64 ((6 : Int))] fun (y4_ : Int) => (cal eI Try.prog 75 #[.pointer r6, .int .i64 ((6 : Int))] fun (y5_ : Int) => (cal eI Try.prog 75 #[.pointer r6, .int .i64 ((4 : Int))] fun (y6_ : Int) => (cal eI Try.prog 75 #[.pointer r6, .int .i64 ((4 : Int))] fun (y7_ : Int) => (stl [.int .i64 (((⟨y1_, y2_, y3_, y4_, y5_, y6_, y7_⟩ : base_Base)).Node), .int .i64 (((⟨y1_, y2_, y3_, y4_, y5_, y6_, y7_⟩ : base_Base)).Boot), .int .i64 (((⟨y1_, y2_, y3_, y4_, y5_, y6_, y7_⟩ : base_Base)).Gen), .int .i64 (((⟨y1_, y2_, y3_, y4_, y5_, y6_, y7_⟩ : base_Base)).Check), .int .i64 (((⟨y1_, y2_, y3_, y4_, y5_, y6_, y7_⟩ : base_Base)).Redo), .int .i64 (((⟨y1_, y2_, y3_, y4_, y5_, y6_, y7_⟩ : base_Base)).Seen), .int .i64 (((⟨y1_, y2_, y3_, y4_, y5_, y6_, y7_⟩ : base_Base)).Joined)] t2 0 (K [(2, .pointer (some t2)), (3, .int .i64 ((0 : Int)))]))))))))) := by kernel_rfl
@[go_sem] theorem c34_o : c34.lo 1000000 = [2, 3] := rfl
@[go_sem] theorem c34_e (t2 : Addr) (t3 : Int) (k : Value → W) : RTp c34 [(2, .pointer (some t2)), (3, .int .i64 t3)] k = (ldn e_base_Base 7 t2 fun (y1_ : base_Base) => (k (.tuple #[v_base_Base y1_, .int .i64 t3]))) := by kernel_rfl
theorem c34_ok : (c34.P.follows .mixedOrders && okc c34 c34.body) = true := by kernel_rfl
theorem c34_fn {e : Enc} {args : Array Value} {G : e.α → W} {L : List HP} {ρ : Env} (hρ : envA 0 args.toList = ρ) (hs : Nat.ble args.size 42 = true) (h : E L (D c34 (.seq (.reg 0) (.seq (.reg 1) (.seq (.seq (.reg 2) (.cond (.tmp 13) (.seq (.reg 3) (.ret)) (.skip))) (.seq (.reg 4) (.seq (.seq (.reg 5) (.cond (.tmp 25) (.seq (.reg 6) (.ret)) (.skip))) (.seq (.reg 7) (.ret))))))) (fnQ c34 e G) ρ)) : E L (cal e Try.prog 34 args G) :=
  d_fn (c := c34) Try.func34 (by kernel_rfl) (by kernel_rfl) (by kernel_rfl) c34_ok (by kernel_rfl) (by kernel_rfl) hρ hs h
/-! gharry.base.Save -/
noncomputable def c44 : Cfg := { P := Try.prog, n := 24, T := TT, body := (Try.f44.body).getD .skip, res := Try.f44.results.toList, li := lk [] [(0, [0, 1]), (1, [0, 3]), (2, [0, 5, 6]), (3, [6]), (4, [0, 5]), (5, [0, 7]), (6, [7]), (7, [0])], lo := lk [] [(0, [0, 3]), (1, [0, 5, 6]), (2, [0, 5, 6, 14]), (3, [4]), (4, [0, 7]), (5, [0, 7, 20]), (6, [4]), (7, [4]), (1000000, [4])], ord := lk (false, []) [] }
@[go_sem] theorem c44_i0 : c44.li 0 = [0, 1] := rfl
@[go_sem] theorem c44_i1 : c44.li 1 = [0, 3] := rfl
@[go_sem] theorem c44_i2 : c44.li 2 = [0, 5, 6] := rfl
@[go_sem] theorem c44_i3 : c44.li 3 = [6] := rfl
@[go_sem] theorem c44_i4 : c44.li 4 = [0, 5] := rfl
@[go_sem] theorem c44_i5 : c44.li 5 = [0, 7] := rfl
@[go_sem] theorem c44_i6 : c44.li 6 = [7] := rfl
@[go_sem] theorem c44_i7 : c44.li 7 = [0] := rfl
@[go_sem] theorem c44_r0 (d0 : Option Addr) (b1 : base_Base) (K : Env → W) : RP c44 0 [(0, .pointer d0), (1, v_base_Base b1)] K =
    (nwc #[.int .i64 b1.Node, .int .i64 b1.Boot, .int .i64 b1.Gen, .int .i64 b1.Check, .int .i64 b1.Redo, .int .i64 b1.Seen, .int .i64 b1.Joined] 39 fun y1_ => (K [(0, .pointer d0), (3, .pointer (some y1_))])) := by kernel_rfl
@[go_sem] theorem c44_r1 (d0 : Option Addr) (b3 : Addr) (K : Env → W) : RP c44 1 [(0, .pointer d0), (3, .pointer (some b3))] K =
    (ldn e_base_Base 7 b3 fun (y1_ : base_Base) => (cal (eT2 eS eI) Try.prog 81 #[v_base_Base y1_] fun (y2_ : ((List UInt8) × Int)) => (K [(0, .pointer d0), (5, str y2_.1), (6, .int .i64 y2_.2)]))) := by kernel_rfl
@[go_sem] theorem c44_r2 (d0 : Option Addr) (s5 : List UInt8) (e6 : Int) (K : Env → W) : RP c44 2 [(0, .pointer d0), (5, str s5), (6, .int .i64 e6)] K =
    (K [(0, .pointer d0), (5, str s5), (6, .int .i64 e6), (14, .bool ((e6 != (0 : Int))))]) := by kernel_rfl
@[go_sem] theorem c44_r3 (e6 : Int) (K : Env → W) : RP c44 3 [(6, .int .i64 e6)] K =
    (K [(4, .int .i64 e6)]) := by kernel_rfl
@[go_sem] theorem c44_r4 (d0 : Option Addr) (s5 : List UInt8) (K : Env → W) : RP c44 4 [(0, .pointer d0), (5, str s5)] K =
    (cal eI Try.prog 27 #[.pointer d0, .int .i64 ((0 : Int)), str s5] fun (y1_ : Int) => (K [(0, .pointer d0), (7, .int .i64 y1_)])) := by kernel_rfl
@[go_sem] theorem c44_r5 (d0 : Option Addr) (e7 : Int) (K : Env → W) : RP c44 5 [(0, .pointer d0), (7, .int .i64 e7)] K =
    (K [(0, .pointer d0), (7, .int .i64 e7), (20, .bool ((e7 != (0 : Int))))]) := by kernel_rfl
@[go_sem] theorem c44_r6 (e7 : Int) (K : Env → W) : RP c44 6 [(7, .int .i64 e7)] K =
    (K [(4, .int .i64 e7)]) := by kernel_rfl
@[go_sem] theorem c44_r7 (d0 : Option Addr) (K : Env → W) : RP c44 7 [(0, .pointer d0)] K =
    (cal eI Try.prog 28 #[.pointer d0] fun (y1_ : Int) => (K [(4, .int .i64 y1_)])) := by kernel_rfl
@[go_sem] theorem c44_o : c44.lo 1000000 = [4] := rfl
@[go_sem] theorem c44_e (t4 : Int) (k : Value → W) : RTp c44 [(4, .int .i64 t4)] k = (k (.int .i64 t4)) := by kernel_rfl
theorem c44_ok : (c44.P.follows .mixedOrders && okc c44 c44.body) = true := by kernel_rfl
theorem c44_fn {e : Enc} {args : Array Value} {G : e.α → W} {L : List HP} {ρ : Env} (hρ : envA 0 args.toList = ρ) (hs : Nat.ble args.size 24 = true) (h : E L (D c44 (.seq (.reg 0) (.seq (.reg 1) (.seq (.seq (.reg 2) (.cond (.tmp 14) (.seq (.reg 3) (.ret)) (.skip))) (.seq (.seq (.reg 4) (.seq (.reg 5) (.cond (.tmp 20) (.seq (.reg 6) (.ret)) (.skip)))) (.seq (.reg 7) (.ret)))))) (fnQ c44 e G) ρ)) : E L (cal e Try.prog 44 args G) :=
  d_fn (c := c44) Try.func44 (by kernel_rfl) (by kernel_rfl) (by kernel_rfl) c44_ok (by kernel_rfl) (by kernel_rfl) hρ hs h
/-! gharry.base.Start -/
noncomputable def c59 : Cfg := { P := Try.prog, n := 28, T := TT, body := (Try.f59.body).getD .skip, res := Try.f59.results.toList, li := lk [] [(0, [0]), (1, [0, 2]), (2, [0, 2, 4, 5]), (3, [2, 5]), (4, [0, 2, 4]), (5, [0, 2, 4]), (6, [2, 4, 6]), (7, [2, 6]), (8, [2, 4])], lo := lk [] [(0, [0, 2]), (1, [0, 2, 4, 5]), (2, [0, 2, 4, 5, 13]), (3, [2, 3]), (4, [0, 2, 4]), (5, [2, 4, 6]), (6, [2, 4, 6, 24]), (7, [2, 3]), (8, [2, 3]), (1000000, [2, 3])], ord := lk (false, []) [] }
@[go_sem] theorem c59_i0 : c59.li 0 = [0] := rfl
@[go_sem] theorem c59_i1 : c59.li 1 = [0, 2] := rfl
@[go_sem] theorem c59_i2 : c59.li 2 = [0, 2, 4, 5] := rfl
@[go_sem] theorem c59_i3 : c59.li 3 = [2, 5] := rfl
@[go_sem] theorem c59_i4 : c59.li 4 = [0, 2, 4] := rfl
@[go_sem] theorem c59_i5 : c59.li 5 = [0, 2, 4] := rfl
@[go_sem] theorem c59_i6 : c59.li 6 = [2, 4, 6] := rfl
@[go_sem] theorem c59_i7 : c59.li 7 = [2, 6] := rfl
@[go_sem] theorem c59_i8 : c59.li 8 = [2, 4] := rfl
@[go_sem] theorem c59_r0 (d0 : Option Addr) (K : Env → W) : RP c59 0 [(0, .pointer d0)] K =
    (nwc #[.int .i64 ((0 : Int)), .int .i64 ((0 : Int)), .int .i64 ((0 : Int)), .int .i64 ((0 : Int)), .int .i64 ((0 : Int)), .int .i64 ((0 : Int)), .int .i64 ((0 : Int))] 39 fun y1_ => (K [(0, .pointer d0), (2, .pointer (some y1_))])) := by kernel_rfl
@[go_sem] theorem c59_r1 (d0 : Option Addr) (t2 : Addr) (K : Env → W) : RP c59 1 [(0, .pointer d0), (2, .pointer (some t2))] K =
    (cal (eT2 e_base_Base eI) Try.prog 34 #[.pointer d0] fun (y1_ : (base_Base × Int)) => (nwc #[.int .i64 ((0 : Int)), .int .i64 ((0 : Int)), .int .i64 ((0 : Int)), .int .i64 ((0 : Int)), .int .i64 ((0 : Int)), .int .i64 ((0 : Int)), .int .i64 ((0 : Int))] 39 fun y2_ => (stl [.int .i64 y1_.1.Node, .int .i64 y1_.1.Boot, .int .i64 y1_.1.Gen, .int .i64 y1_.1.Check, .int .i64 y1_.1.Redo, .int .i64 y1_.1.Seen, .int .i64 y1_.1.Joined] y2_ 0 (K [(0, .pointer d0), (2, .pointer (some t2)), (4, .pointer (some y2_)), (5, .int .i64 y1_.2)])))) := by kernel_rfl
@[go_sem] theorem c59_r2 (d0 : Option Addr) (t2 : Addr) (b4 : Addr) (e5 : Int) (K : Env → W) : RP c59 2 [(0, .pointer d0), (2, .pointer (some t2)), (4, .pointer (some b4)), (5, .int .i64 e5)] K =
    (K [(0, .pointer d0), (2, .pointer (some t2)), (4, .pointer (some b4)), (5, .int .i64 e5), (13, .bool ((e5 != (0 : Int))))]) := by kernel_rfl
@[go_sem] theorem c59_r3 (t2 : Addr) (e5 : Int) (K : Env → W) : RP c59 3 [(2, .pointer (some t2)), (5, .int .i64 e5)] K =
    (stl [.int .i64 (((⟨(0 : Int), (0 : Int), (0 : Int), (0 : Int), (0 : Int), (0 : Int), (0 : Int)⟩ : base_Base)).Node), .int .i64 (((⟨(0 : Int), (0 : Int), (0 : Int), (0 : Int), (0 : Int), (0 : Int), (0 : Int)⟩ : base_Base)).Boot), .int .i64 (((⟨(0 : Int), (0 : Int), (0 : Int), (0 : Int), (0 : Int), (0 : Int), (0 : Int)⟩ : base_Base)).Gen), .int .i64 (((⟨(0 : Int), (0 : Int), (0 : Int), (0 : Int), (0 : Int), (0 : Int), (0 : Int)⟩ : base_Base)).Check), .int .i64 (((⟨(0 : Int), (0 : Int), (0 : Int), (0 : Int), (0 : Int), (0 : Int), (0 : Int)⟩ : base_Base)).Redo), .int .i64 (((⟨(0 : Int), (0 : Int), (0 : Int), (0 : Int), (0 : Int), (0 : Int), (0 : Int)⟩ : base_Base)).Seen), .int .i64 (((⟨(0 : Int), (0 : Int), (0 : Int), (0 : Int), (0 : Int), (0 : Int), (0 : Int)⟩ : base_Base)).Joined)] t2 0 (K [(2, .pointer (some t2)), (3, .int .i64 e5)])) := by kernel_rfl
@[go_sem] theorem c59_r4 (d0 : Option Addr) (t2 : Addr) (b4 : Addr) (K : Env → W) : RP c59 4 [(0, .pointer d0), (2, .pointer (some t2)), (4, .pointer (some b4))] K =
    (ld eI ((b4.add 1)) fun (y1_ : Int) => (st ((b4.add 1)) (.int .i64 ((IntKind.wrap .i64 (y1_ + (1 : Int))))) (K [(0, .pointer d0), (2, .pointer (some t2)), (4, .pointer (some b4))]))) := by kernel_rfl
@[go_sem] theorem c59_r5 (d0 : Option Addr) (t2 : Addr) (b4 : Addr) (K : Env → W) : RP c59 5 [(0, .pointer d0), (2, .pointer (some t2)), (4, .pointer (some b4))] K =
    (ldn e_base_Base 7 b4 fun (y1_ : base_Base) => (cal eI Try.prog 44 #[.pointer d0, v_base_Base y1_] fun (y2_ : Int) => (K [(2, .pointer (some t2)), (4, .pointer (some b4)), (6, .int .i64 y2_)]))) := by kernel_rfl
@[go_sem] theorem c59_r6 (t2 : Addr) (b4 : Addr) (e6 : Int) (K : Env → W) : RP c59 6 [(2, .pointer (some t2)), (4, .pointer (some b4)), (6, .int .i64 e6)] K =
    (K [(2, .pointer (some t2)), (4, .pointer (some b4)), (6, .int .i64 e6), (24, .bool ((e6 != (0 : Int))))]) := by kernel_rfl
@[go_sem] theorem c59_r7 (t2 : Addr) (e6 : Int) (K : Env → W) : RP c59 7 [(2, .pointer (some t2)), (6, .int .i64 e6)] K =
    (stl [.int .i64 (((⟨(0 : Int), (0 : Int), (0 : Int), (0 : Int), (0 : Int), (0 : Int), (0 : Int)⟩ : base_Base)).Node), .int .i64 (((⟨(0 : Int), (0 : Int), (0 : Int), (0 : Int), (0 : Int), (0 : Int), (0 : Int)⟩ : base_Base)).Boot), .int .i64 (((⟨(0 : Int), (0 : Int), (0 : Int), (0 : Int), (0 : Int), (0 : Int), (0 : Int)⟩ : base_Base)).Gen), .int .i64 (((⟨(0 : Int), (0 : Int), (0 : Int), (0 : Int), (0 : Int), (0 : Int), (0 : Int)⟩ : base_Base)).Check), .int .i64 (((⟨(0 : Int), (0 : Int), (0 : Int), (0 : Int), (0 : Int), (0 : Int), (0 : Int)⟩ : base_Base)).Redo), .int .i64 (((⟨(0 : Int), (0 : Int), (0 : Int), (0 : Int), (0 : Int), (0 : Int), (0 : Int)⟩ : base_Base)).Seen), .int .i64 (((⟨(0 : Int), (0 : Int), (0 : Int), (0 : Int), (0 : Int), (0 : Int), (0 : Int)⟩ : base_Base)).Joined)] t2 0 (K [(2, .pointer (some t2)), (3, .int .i64 e6)])) := by kernel_rfl
@[go_sem] theorem c59_r8 (t2 : Addr) (b4 : Addr) (K : Env → W) : RP c59 8 [(2, .pointer (some t2)), (4, .pointer (some b4))] K =
    (ldn e_base_Base 7 b4 fun (y1_ : base_Base) => (stl [.int .i64 y1_.Node, .int .i64 y1_.Boot, .int .i64 y1_.Gen, .int .i64 y1_.Check, .int .i64 y1_.Redo, .int .i64 y1_.Seen, .int .i64 y1_.Joined] t2 0 (K [(2, .pointer (some t2)), (3, .int .i64 ((0 : Int)))]))) := by kernel_rfl
@[go_sem] theorem c59_o : c59.lo 1000000 = [2, 3] := rfl
@[go_sem] theorem c59_e (t2 : Addr) (t3 : Int) (k : Value → W) : RTp c59 [(2, .pointer (some t2)), (3, .int .i64 t3)] k = (ldn e_base_Base 7 t2 fun (y1_ : base_Base) => (k (.tuple #[v_base_Base y1_, .int .i64 t3]))) := by kernel_rfl
theorem c59_ok : (c59.P.follows .mixedOrders && okc c59 c59.body) = true := by kernel_rfl
theorem c59_fn {e : Enc} {args : Array Value} {G : e.α → W} {L : List HP} {ρ : Env} (hρ : envA 0 args.toList = ρ) (hs : Nat.ble args.size 28 = true) (h : E L (D c59 (.seq (.reg 0) (.seq (.reg 1) (.seq (.seq (.reg 2) (.cond (.tmp 13) (.seq (.reg 3) (.ret)) (.skip))) (.seq (.reg 4) (.seq (.seq (.reg 5) (.seq (.reg 6) (.cond (.tmp 24) (.seq (.reg 7) (.ret)) (.skip)))) (.seq (.reg 8) (.ret))))))) (fnQ c59 e G) ρ)) : E L (cal e Try.prog 59 args G) :=
  d_fn (c := c59) Try.func59 (by kernel_rfl) (by kernel_rfl) (by kernel_rfl) c59_ok (by kernel_rfl) (by kernel_rfl) hρ hs h
/-! gharry.base.Plan -/
noncomputable def c71 : Cfg := { P := Try.prog, n := 22, T := TT, body := (Try.f71.body).getD .skip, res := Try.f71.results.toList, li := lk [] [(0, [0]), (1, [0]), (2, []), (3, [0]), (4, [0, 5]), (5, [5, 6])], lo := lk [] [(0, [0]), (1, [0, 8]), (2, [2, 3, 4]), (3, [0, 5]), (4, [5, 6]), (5, [2, 3, 4]), (1000000, [2, 3, 4])], ord := lk (false, []) [] }
@[go_sem] theorem c71_i0 : c71.li 0 = [0] := rfl
@[go_sem] theorem c71_i1 : c71.li 1 = [0] := rfl
@[go_sem] theorem c71_i2 : c71.li 2 = [] := rfl
@[go_sem] theorem c71_i3 : c71.li 3 = [0] := rfl
@[go_sem] theorem c71_i4 : c71.li 4 = [0, 5] := rfl
@[go_sem] theorem c71_i5 : c71.li 5 = [5, 6] := rfl
@[go_sem] theorem c71_r0 (sectors0 : Int) (K : Env → W) : RP c71 0 [(0, .int .i64 sectors0)] K =
    (K [(0, .int .i64 sectors0)]) := by kernel_rfl
@[go_sem] theorem c71_r1 (sectors0 : Int) (K : Env → W) : RP c71 1 [(0, .int .i64 sectors0)] K =
    (K [(0, .int .i64 sectors0), (8, .bool ((decide (sectors0 < (1 : Int)))))]) := by kernel_rfl
@[go_sem] theorem c71_r2 (K : Env → W) : RP c71 2 [] K =
    (K [(2, .int .i64 ((0 : Int))), (3, .int .i64 ((0 : Int))), (4, .int .i64 ((0 : Int)))]) := by kernel_rfl
@[go_sem] theorem c71_r3 (sectors0 : Int) (K : Env → W) : RP c71 3 [(0, .int .i64 sectors0)] K =
    (rq ((2 : Int) ≠ 0) (K [(0, .int .i64 sectors0), (5, .int .i64 ((IntKind.wrap .i64 (((IntKind.wrap .i64 (sectors0 - (1 : Int)))).tdiv ((2 : Int))))))])) := by kernel_rfl
@[go_sem] theorem c71_r4 (sectors0 : Int) (log5 : Int) (K : Env → W) : RP c71 4 [(0, .int .i64 sectors0), (5, .int .i64 log5)] K =
    (rq ((4 : Int) ≠ 0) (K [(5, .int .i64 log5), (6, .int .i64 ((IntKind.wrap .i64 (((IntKind.wrap .i64 ((IntKind.wrap .i64 (sectors0 - (1 : Int))) - log5))).tdiv ((4 : Int))))))])) := by kernel_rfl
@[go_sem] theorem c71_r5 (log5 : Int) (pages6 : Int) (K : Env → W) : RP c71 5 [(5, .int .i64 log5), (6, .int .i64 pages6)] K =
    (K [(2, .int .i64 log5), (3, .int .i64 ((IntKind.wrap .i64 ((1 : Int) + log5)))), (4, .int .i64 ((if (200 : Int) < pages6 then (200 : Int) else pages6)))]) := by kernel_rfl
@[go_sem] theorem c71_o : c71.lo 1000000 = [2, 3, 4] := rfl
@[go_sem] theorem c71_e (t2 : Int) (t3 : Int) (t4 : Int) (k : Value → W) : RTp c71 [(2, .int .i64 t2), (3, .int .i64 t3), (4, .int .i64 t4)] k = (k (.tuple #[.int .i64 t2, .int .i64 t3, .int .i64 t4])) := by kernel_rfl
theorem c71_ok : (c71.P.follows .mixedOrders && okc c71 c71.body) = true := by kernel_rfl
theorem c71_fn {e : Enc} {args : Array Value} {G : e.α → W} {L : List HP} {ρ : Env} (hρ : envA 0 args.toList = ρ) (hs : Nat.ble args.size 22 = true) (h : E L (D c71 (.seq (.reg 0) (.seq (.seq (.reg 1) (.cond (.tmp 8) (.seq (.reg 2) (.ret)) (.skip))) (.seq (.reg 3) (.seq (.reg 4) (.seq (.reg 5) (.ret)))))) (fnQ c71 e G) ρ)) : E L (cal e Try.prog 71 args G) :=
  d_fn (c := c71) Try.func71 (by kernel_rfl) (by kernel_rfl) (by kernel_rfl) c71_ok (by kernel_rfl) (by kernel_rfl) hρ hs h
/-! (gharry.base.Base).bytes -/
noncomputable def c81 : Cfg := { P := Try.prog, n := 41, T := TT, body := (Try.f81.body).getD .skip, res := Try.f81.results.toList, li := lk [] [(0, [0]), (1, [1]), (2, [1, 4]), (3, [1, 4]), (4, [1, 4]), (5, [1, 4]), (6, [1, 4]), (7, [1, 4]), (8, [1, 4]), (9, [1, 4]), (10, [4])], lo := lk [] [(0, [1]), (1, [1, 4]), (2, [1, 4]), (3, [1, 4]), (4, [1, 4]), (5, [1, 4]), (6, [1, 4]), (7, [1, 4]), (8, [1, 4]), (9, [4]), (10, [2, 3]), (1000000, [2, 3])], ord := lk (false, []) [] }
@[go_sem] theorem c81_i0 : c81.li 0 = [0] := rfl
@[go_sem] theorem c81_i1 : c81.li 1 = [1] := rfl
@[go_sem] theorem c81_i2 : c81.li 2 = [1, 4] := rfl
@[go_sem] theorem c81_i3 : c81.li 3 = [1, 4] := rfl
@[go_sem] theorem c81_i4 : c81.li 4 = [1, 4] := rfl
@[go_sem] theorem c81_i5 : c81.li 5 = [1, 4] := rfl
@[go_sem] theorem c81_i6 : c81.li 6 = [1, 4] := rfl
@[go_sem] theorem c81_i7 : c81.li 7 = [1, 4] := rfl
@[go_sem] theorem c81_i8 : c81.li 8 = [1, 4] := rfl
@[go_sem] theorem c81_i9 : c81.li 9 = [1, 4] := rfl
@[go_sem] theorem c81_i10 : c81.li 10 = [4] := rfl
@[go_sem] theorem c81_r0 (b0 : base_Base) (K : Env → W) : RP c81 0 [(0, v_base_Base b0)] K =
    (nwc #[.int .i64 b0.Node, .int .i64 b0.Boot, .int .i64 b0.Gen, .int .i64 b0.Check, .int .i64 b0.Redo, .int .i64 b0.Seen, .int .i64 b0.Joined] 39 fun y1_ => (K [(1, .pointer (some y1_))])) := by kernel_rfl
@[go_sem] theorem c81_r1 (b1 : Addr) (K : Env → W) : RP c81 1 [(1, .pointer (some b1))] K =
    (nwc #[str (((⟨([] : List UInt8), (0 : Int)⟩ : pack_Writer)).s), .int .i64 (((⟨([] : List UInt8), (0 : Int)⟩ : pack_Writer)).e)] 137 fun y1_ => (K [(1, .pointer (some b1)), (4, .pointer (some y1_))])) := by kernel_rfl
@[go_sem] theorem c81_r2 (b1 : Addr) (w4 : Addr) (K : Env → W) : RP c81 2 [(1, .pointer (some b1)), (4, .pointer (some w4))] K =
    (cal eN Try.prog 94 #[.pointer (some w4), str (([103, 104, 97, 114, 114, 121, 49] : List UInt8))] fun (y1_ : Unit) => (K [(1, .pointer (some b1)), (4, .pointer (some w4))])) := by kernel_rfl
@[go_sem] theorem c81_r3 (b1 : Addr) (w4 : Addr) (K : Env → W) : RP c81 3 [(1, .pointer (some b1)), (4, .pointer (some w4))] K =
    (ld eI b1 fun (y1_ : Int) => (cal eN Try.prog 95 #[.pointer (some w4), .int .i64 y1_, .int .i64 ((1 : Int))] fun (y2_ : Unit) => (K [(1, .pointer (some b1)), (4, .pointer (some w4))]))) := by kernel_rfl
@[go_sem] theorem c81_r4 (b1 : Addr) (w4 : Addr) (K : Env → W) : RP c81 4 [(1, .pointer (some b1)), (4, .pointer (some w4))] K =
    (ld eI ((b1.add 1)) fun (y1_ : Int) => (cal eN Try.prog 95 #[.pointer (some w4), .int .i64 y1_, .int .i64 ((4 : Int))] fun (y2_ : Unit) => (K [(1, .pointer (some b1)), (4, .pointer (some w4))]))) := by kernel_rfl
@[go_sem] theorem c81_r5 (b1 : Addr) (w4 : Addr) (K : Env → W) : RP c81 5 [(1, .pointer (some b1)), (4, .pointer (some w4))] K =
    (ld eI ((b1.add 2)) fun (y1_ : Int) => (cal eN Try.prog 95 #[.pointer (some w4), .int .i64 y1_, .int .i64 ((2 : Int))] fun (y2_ : Unit) => (K [(1, .pointer (some b1)), (4, .pointer (some w4))]))) := by kernel_rfl
@[go_sem] theorem c81_r6 (b1 : Addr) (w4 : Addr) (K : Env → W) : RP c81 6 [(1, .pointer (some b1)), (4, .pointer (some w4))] K =
    (ld eI ((b1.add 3)) fun (y1_ : Int) => (cal eN Try.prog 95 #[.pointer (some w4), .int .i64 y1_, .int .i64 ((6 : Int))] fun (y2_ : Unit) => (K [(1, .pointer (some b1)), (4, .pointer (some w4))]))) := by kernel_rfl
@[go_sem] theorem c81_r7 (b1 : Addr) (w4 : Addr) (K : Env → W) : RP c81 7 [(1, .pointer (some b1)), (4, .pointer (some w4))] K =
    (ld eI ((b1.add 4)) fun (y1_ : Int) => (cal eN Try.prog 95 #[.pointer (some w4), .int .i64 y1_, .int .i64 ((6 : Int))] fun (y2_ : Unit) => (K [(1, .pointer (some b1)), (4, .pointer (some w4))]))) := by kernel_rfl
@[go_sem] theorem c81_r8 (b1 : Addr) (w4 : Addr) (K : Env → W) : RP c81 8 [(1, .pointer (some b1)), (4, .pointer (some w4))] K =
    (ld eI ((b1.add 5)) fun (y1_ : Int) => (cal eN Try.prog 95 #[.pointer (some w4), .int .i64 y1_, .int .i64 ((4 : Int))] fun (y2_ : Unit) => (K [(1, .pointer (some b1)), (4, .pointer (some w4))]))) := by kernel_rfl
@[go_sem] theorem c81_r9 (b1 : Addr) (w4 : Addr) (K : Env → W) : RP c81 9 [(1, .pointer (some b1)), (4, .pointer (some w4))] K =
    (ld eI ((b1.add 6)) fun (y1_ : Int) => (cal eN Try.prog 95 #[.pointer (some w4), .int .i64 y1_, .int .i64 ((4 : Int))] fun (y2_ : Unit) => (K [(4, .pointer (some w4))]))) := by kernel_rfl
@[go_sem] theorem c81_r10 (w4 : Addr) (K : Env → W) : RP c81 10 [(4, .pointer (some w4))] K =
    (cal (eT2 eS eI) Try.prog 96 #[.pointer (some w4)] fun (y1_ : ((List UInt8) × Int)) => (K [(2, str y1_.1), (3, .int .i64 y1_.2)])) := by kernel_rfl
@[go_sem] theorem c81_o : c81.lo 1000000 = [2, 3] := rfl
@[go_sem] theorem c81_e (t2 : List UInt8) (t3 : Int) (k : Value → W) : RTp c81 [(2, str t2), (3, .int .i64 t3)] k = (k (.tuple #[str t2, .int .i64 t3])) := by kernel_rfl
theorem c81_ok : (c81.P.follows .mixedOrders && okc c81 c81.body) = true := by kernel_rfl
theorem c81_fn {e : Enc} {args : Array Value} {G : e.α → W} {L : List HP} {ρ : Env} (hρ : envA 0 args.toList = ρ) (hs : Nat.ble args.size 41 = true) (h : E L (D c81 (.seq (.reg 0) (.seq (.reg 1) (.seq (.reg 2) (.seq (.reg 3) (.seq (.reg 4) (.seq (.reg 5) (.seq (.reg 6) (.seq (.reg 7) (.seq (.reg 8) (.seq (.reg 9) (.seq (.reg 10) (.ret)))))))))))) (fnQ c81 e G) ρ)) : E L (cal e Try.prog 81 args G) :=
  d_fn (c := c81) Try.func81 (by kernel_rfl) (by kernel_rfl) (by kernel_rfl) c81_ok (by kernel_rfl) (by kernel_rfl) hρ hs h
end Go.Sp
