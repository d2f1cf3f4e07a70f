/- What each region of the Go functions does. Written by my own generator. -/
import Derived.Test.YtpadmllpdkknnaaT
namespace Go.Sp
open Go
set_option maxRecDepth 100000
set_option linter.unusedVariables false
open Go.Proofs
/-! gharry.disk.New -/
noncomputable def c25 : Cfg := { P := Try.prog, n := 15, T := TT, body := (Try.f25.body).getD .skip, res := Try.f25.results.toList, li := lk [] [(0, [0]), (1, [0]), (2, []), (3, [0])], lo := lk [] [(0, [0]), (1, [0, 9]), (2, [2, 3]), (3, [2, 3]), (1000000, [2, 3])], ord := lk (false, []) [] }
@[go_sem] theorem c25_i0 : c25.li 0 = [0] := rfl
@[go_sem] theorem c25_i1 : c25.li 1 = [0] := rfl
@[go_sem] theorem c25_i2 : c25.li 2 = [] := rfl
@[go_sem] theorem c25_i3 : c25.li 3 = [0] := rfl
@[go_sem] theorem c25_r0 (sectors0 : Int) (K : Env → W) : RP c25 0 [(0, .int .i64 sectors0)] K =
    (K [(0, .int .i64 sectors0)]) := by kernel_rfl
@[go_sem] theorem c25_r1 (sectors0 : Int) (K : Env → W) : RP c25 1 [(0, .int .i64 sectors0)] K =
    (cnd ((decide (sectors0 < (1 : Int)))) (K [(0, .int .i64 sectors0), (9, .bool true)]) (K [(0, .int .i64 sectors0), (9, .bool ((decide ((8192 : Int) < sectors0))))])) := by kernel_rfl
@[go_sem] theorem c25_r2 (K : Env → W) : RP c25 2 [] K =
    (K [(2, .pointer none), (3, .int .i64 ((1 : Int)))]) := by kernel_rfl
@[go_sem] theorem c25_r3 (sectors0 : Int) (K : Env → W) : RP c25 3 [(0, .int .i64 sectors0)] K =
    (val eSl Try.prog (oMake 30 (.int .i64 sectors0) (.int .i64 sectors0)) fun (y1_ : (Option Addr × Nat × Nat)) => (nwb (.map #[] 0) fun y2_ => (nwc #[.slice ((((⟨(y1_.1, y1_.2.1, y1_.2.2), (some y2_), true, (-1 : Int), (0 : Int), (0 : Int), (0 : Int)⟩ : disk_Disk)).sure).1) ((((⟨(y1_.1, y1_.2.1, y1_.2.2), (some y2_), true, (-1 : Int), (0 : Int), (0 : Int), (0 : Int)⟩ : disk_Disk)).sure).2.1) ((((⟨(y1_.1, y1_.2.1, y1_.2.2), (some y2_), true, (-1 : Int), (0 : Int), (0 : Int), (0 : Int)⟩ : disk_Disk)).sure).2.2), .map (((⟨(y1_.1, y1_.2.1, y1_.2.2), (some y2_), true, (-1 : Int), (0 : Int), (0 : Int), (0 : Int)⟩ : disk_Disk)).wait), .bool (((⟨(y1_.1, y1_.2.1, y1_.2.2), (some y2_), true, (-1 : Int), (0 : Int), (0 : Int), (0 : Int)⟩ : disk_Disk)).up), .int .i64 (((⟨(y1_.1, y1_.2.1, y1_.2.2), (some y2_), true, (-1 : Int), (0 : Int), (0 : Int), (0 : Int)⟩ : disk_Disk)).fuse), .int .u64 (((⟨(y1_.1, y1_.2.1, y1_.2.2), (some y2_), true, (-1 : Int), (0 : Int), (0 : Int), (0 : Int)⟩ : disk_Disk)).keep), .int .i64 (((⟨(y1_.1, y1_.2.1, y1_.2.2), (some y2_), true, (-1 : Int), (0 : Int), (0 : Int), (0 : Int)⟩ : disk_Disk)).acts), .int .i64 (((⟨(y1_.1, y1_.2.1, y1_.2.2), (some y2_), true, (-1 : Int), (0 : Int), (0 : Int), (0 : Int)⟩ : disk_Disk)).downs)] 59 fun y3_ => (K [(2, .pointer (some y3_)), (3, .int .i64 ((0 : Int)))])))) := by kernel_rfl
@[go_sem] theorem c25_o : c25.lo 1000000 = [2, 3] := rfl
@[go_sem] theorem c25_e (t2 : Option Addr) (t3 : Int) (k : Value → W) : RTp c25 [(2, .pointer t2), (3, .int .i64 t3)] k = (k (.tuple #[.pointer t2, .int .i64 t3])) := by kernel_rfl
theorem c25_ok : (c25.P.follows .mixedOrders && okc c25 c25.body) = true := by kernel_rfl
theorem c25_fn {e : Enc} {args : Array Value} {G : e.α → W} {L : List HP} {ρ : Env} (hρ : envA 0 args.toList = ρ) (hs : Nat.ble args.size 15 = true) (h : E L (D c25 (.seq (.reg 0) (.seq (.seq (.reg 1) (.cond (.tmp 9) (.seq (.reg 2) (.ret)) (.skip))) (.seq (.reg 3) (.ret)))) (fnQ c25 e G) ρ)) : E L (cal e Try.prog 25 args G) :=
  d_fn (c := c25) Try.func25 (by kernel_rfl) (by kernel_rfl) (by kernel_rfl) c25_ok (by kernel_rfl) (by kernel_rfl) hρ hs h
/-! (*gharry.disk.Disk).Size -/
noncomputable def c26 : Cfg := { P := Try.prog, n := 10, T := TT, body := (Try.f26.body).getD .skip, res := Try.f26.results.toList, li := lk [] [(0, [0]), (1, [0]), (2, []), (3, [0])], lo := lk [] [(0, [0]), (1, [0, 4]), (2, [2]), (3, [2]), (1000000, [2])], ord := lk (false, []) [] }
@[go_sem] theorem c26_i0 : c26.li 0 = [0] := rfl
@[go_sem] theorem c26_i1 : c26.li 1 = [0] := rfl
@[go_sem] theorem c26_i2 : c26.li 2 = [] := rfl
@[go_sem] theorem c26_i3 : c26.li 3 = [0] := rfl
@[go_sem] theorem c26_r0 (d0 : Option Addr) (K : Env → W) : RP c26 0 [(0, .pointer d0)] K =
    (K [(0, .pointer d0)]) := by kernel_rfl
@[go_sem] theorem c26_r1 (d0 : Option Addr) (K : Env → W) : RP c26 1 [(0, .pointer d0)] K =
    (cal eB Try.prog 66 #[.pointer d0] fun (y1_ : Bool) => (K [(0, .pointer d0), (4, .bool y1_)])) := by kernel_rfl
@[go_sem] theorem c26_r2 (K : Env → W) : RP c26 2 [] K =
    (K [(2, .int .i64 ((0 : Int)))]) := by kernel_rfl
@[go_sem] theorem c26_r3 (d0 : Option Addr) (K : Env → W) : RP c26 3 [(0, .pointer d0)] K =
    (nn d0 fun y1_ => (ld eSl y1_ fun (y2_ : (Option Addr × Nat × Nat)) => (K [(2, .int .i64 ((y2_.2.1 : Int)))]))) := by kernel_rfl
@[go_sem] theorem c26_o : c26.lo 1000000 = [2] := rfl
@[go_sem] theorem c26_e (t2 : Int) (k : Value → W) : RTp c26 [(2, .int .i64 t2)] k = (k (.int .i64 t2)) := by kernel_rfl
theorem c26_ok : (c26.P.follows .mixedOrders && okc c26 c26.body) = true := by kernel_rfl
theorem c26_fn {e : Enc} {args : Array Value} {G : e.α → W} {L : List HP} {ρ : Env} (hρ : envA 0 args.toList = ρ) (hs : Nat.ble args.size 10 = true) (h : E L (D c26 (.seq (.reg 0) (.seq (.seq (.reg 1) (.cond (.tmp 4) (.seq (.reg 2) (.ret)) (.skip))) (.seq (.reg 3) (.ret)))) (fnQ c26 e G) ρ)) : E L (cal e Try.prog 26 args G) :=
  d_fn (c := c26) Try.func26 (by kernel_rfl) (by kernel_rfl) (by kernel_rfl) c26_ok (by kernel_rfl) (by kernel_rfl) hρ hs h
/-! (*gharry.disk.Disk).Write -/
noncomputable def c27 : Cfg := { P := Try.prog, n := 30, T := TT, body := (Try.f27.body).getD .skip, res := Try.f27.results.toList, li := lk [] [(0, [0, 1, 2]), (1, [0, 1, 2]), (2, [0, 1, 2, 7]), (3, [7]), (4, [0, 1, 2]), (5, []), (6, [0, 1, 2]), (7, [0, 1, 2, 8]), (8, [8]), (9, [0, 1, 2]), (10, [])], lo := lk [] [(0, [0, 1, 2]), (1, [0, 1, 2, 7]), (2, [0, 1, 2, 7, 13]), (3, [6]), (4, [0, 1, 2, 17]), (5, [6]), (6, [0, 1, 2, 8]), (7, [0, 1, 2, 8, 21]), (8, [6]), (9, []), (10, [6]), (1000000, [6])], ord := lk (false, []) [(9, (true, [(0, 1), (1, 1), (2, 1), (3, 0), (4, 1), (5, 1), (6, 2), (7, 4)]))] }
@[go_sem] theorem c27_i0 : c27.li 0 = [0, 1, 2] := rfl
@[go_sem] theorem c27_i1 : c27.li 1 = [0, 1, 2] := rfl
@[go_sem] theorem c27_i2 : c27.li 2 = [0, 1, 2, 7] := rfl
@[go_sem] theorem c27_i3 : c27.li 3 = [7] := rfl
@[go_sem] theorem c27_i4 : c27.li 4 = [0, 1, 2] := rfl
@[go_sem] theorem c27_i5 : c27.li 5 = [] := rfl
@[go_sem] theorem c27_i6 : c27.li 6 = [0, 1, 2] := rfl
@[go_sem] theorem c27_i7 : c27.li 7 = [0, 1, 2, 8] := rfl
@[go_sem] theorem c27_i8 : c27.li 8 = [8] := rfl
@[go_sem] theorem c27_i9 : c27.li 9 = [0, 1, 2] := rfl
@[go_sem] theorem c27_i10 : c27.li 10 = [] := rfl
@[go_sem] theorem c27_r0 (d0 : Option Addr) (i1 : Int) (s2 : List UInt8) (K : Env → W) : RP c27 0 [(0, .pointer d0), (1, .int .i64 i1), (2, str s2)] K =
    (K [(0, .pointer d0), (1, .int .i64 i1), (2, str s2)]) := by kernel_rfl
@[go_sem] theorem c27_r1 (d0 : Option Addr) (i1 : Int) (s2 : List UInt8) (K : Env → W) : RP c27 1 [(0, .pointer d0), (1, .int .i64 i1), (2, str s2)] K =
    (cal eI Try.prog 67 #[.pointer d0, .int .i64 i1] fun (y1_ : Int) => (K [(0, .pointer d0), (1, .int .i64 i1), (2, str s2), (7, .int .i64 y1_)])) := by kernel_rfl
@[go_sem] theorem c27_r2 (d0 : Option Addr) (i1 : Int) (s2 : List UInt8) (e7 : Int) (K : Env → W) : RP c27 2 [(0, .pointer d0), (1, .int .i64 i1), (2, str s2), (7, .int .i64 e7)] K =
    (K [(0, .pointer d0), (1, .int .i64 i1), (2, str s2), (7, .int .i64 e7), (13, .bool ((e7 != (0 : Int))))]) := by kernel_rfl
@[go_sem] theorem c27_r3 (e7 : Int) (K : Env → W) : RP c27 3 [(7, .int .i64 e7)] K =
    (K [(6, .int .i64 e7)]) := by kernel_rfl
@[go_sem] theorem c27_r4 (d0 : Option Addr) (i1 : Int) (s2 : List UInt8) (K : Env → W) : RP c27 4 [(0, .pointer d0), (1, .int .i64 i1), (2, str s2)] K =
    (K [(0, .pointer d0), (1, .int .i64 i1), (2, str s2), (17, .bool ((decide ((64 : Int) < ((s2).length : Int)))))]) := by kernel_rfl
@[go_sem] theorem c27_r5 (K : Env → W) : RP c27 5 [] K =
    (K [(6, .int .i64 ((3 : Int)))]) := by kernel_rfl
@[go_sem] theorem c27_r6 (d0 : Option Addr) (i1 : Int) (s2 : List UInt8) (K : Env → W) : RP c27 6 [(0, .pointer d0), (1, .int .i64 i1), (2, str s2)] K =
    (cal eI Try.prog 68 #[.pointer d0] fun (y1_ : Int) => (K [(0, .pointer d0), (1, .int .i64 i1), (2, str s2), (8, .int .i64 y1_)])) := by kernel_rfl
@[go_sem] theorem c27_r7 (d0 : Option Addr) (i1 : Int) (s2 : List UInt8) (e8 : Int) (K : Env → W) : RP c27 7 [(0, .pointer d0), (1, .int .i64 i1), (2, str s2), (8, .int .i64 e8)] K =
    (K [(0, .pointer d0), (1, .int .i64 i1), (2, str s2), (8, .int .i64 e8), (21, .bool ((e8 != (0 : Int))))]) := by kernel_rfl
@[go_sem] theorem c27_r8 (e8 : Int) (K : Env → W) : RP c27 8 [(8, .int .i64 e8)] K =
    (K [(6, .int .i64 e8)]) := by kernel_rfl
@[go_sem] theorem c27_r9 (d0 : Option Addr) (i1 : Int) (s2 : List UInt8) (K : Env → W) : RP c27 9 [(0, .pointer d0), (1, .int .i64 i1), (2, str s2)] K =
    (ph fun S0 => (nn d0 fun y1_ => (ldq S0 eM ((y1_.add 1)) fun (y2_ : Option Nat) => (cal eS Try.prog 69 #[str s2] fun (y3_ : List UInt8) => (kpn S0 fun S1 => (unt Try.prog (oMapUpdate 57 (.map y2_) (.int .i64 i1) (str y3_)) (K []))))))) := by kernel_rfl
@[go_sem] theorem c27_r10 (K : Env → W) : RP c27 10 [] K =
    (K [(6, .int .i64 ((0 : Int)))]) := by kernel_rfl
@[go_sem] theorem c27_o : c27.lo 1000000 = [6] := rfl
@[go_sem] theorem c27_e (t6 : Int) (k : Value → W) : RTp c27 [(6, .int .i64 t6)] k = (k (.int .i64 t6)) := by kernel_rfl
theorem c27_ok : (c27.P.follows .mixedOrders && okc c27 c27.body) = true := by kernel_rfl
theorem c27_fn {e : Enc} {args : Array Value} {G : e.α → W} {L : List HP} {ρ : Env} (hρ : envA 0 args.toList = ρ) (hs : Nat.ble args.size 30 = true) (h : E L (D c27 (.seq (.reg 0) (.seq (.seq (.reg 1) (.seq (.reg 2) (.cond (.tmp 13) (.seq (.reg 3) (.ret)) (.skip)))) (.seq (.seq (.reg 4) (.cond (.tmp 17) (.seq (.reg 5) (.ret)) (.skip))) (.seq (.seq (.reg 6) (.seq (.reg 7) (.cond (.tmp 21) (.seq (.reg 8) (.ret)) (.skip)))) (.seq (.reg 9) (.seq (.reg 10) (.ret))))))) (fnQ c27 e G) ρ)) : E L (cal e Try.prog 27 args G) :=
  d_fn (c := c27) Try.func27 (by kernel_rfl) (by kernel_rfl) (by kernel_rfl) c27_ok (by kernel_rfl) (by kernel_rfl) hρ hs h
/-! (*gharry.disk.Disk).Sync -/
noncomputable def c28 : Cfg := { P := Try.prog, n := 38, T := TT, body := (Try.f28.body).getD .skip, res := Try.f28.results.toList, li := lk [] [(0, [0]), (1, [0]), (2, [0, 3]), (3, [3]), (4, [0]), (5, [0, 4]), (6, [4]), (7, [0]), (8, [0, 21]), (9, [0, 21]), (10, [0, 5, 6, 21]), (11, [0]), (12, [])], lo := lk [] [(0, [0]), (1, [0, 3]), (2, [0, 3, 10]), (3, [2]), (4, [0, 4]), (5, [0, 4, 15]), (6, [2]), (7, [0, 21]), (8, [0, 21, 23]), (9, [0, 5, 6, 21]), (10, [0, 21]), (11, []), (12, [2]), (1000000, [2])], ord := lk (false, []) [], de := [(21, eP), (22, (eT3 eB eI eS)), (24, (eT2 eI eS))] }
@[go_sem] theorem c28_i0 : c28.li 0 = [0] := rfl
@[go_sem] theorem c28_i1 : c28.li 1 = [0] := rfl
@[go_sem] theorem c28_i2 : c28.li 2 = [0, 3] := rfl
@[go_sem] theorem c28_i3 : c28.li 3 = [3] := rfl
@[go_sem] theorem c28_i4 : c28.li 4 = [0] := rfl
@[go_sem] theorem c28_i5 : c28.li 5 = [0, 4] := rfl
@[go_sem] theorem c28_i6 : c28.li 6 = [4] := rfl
@[go_sem] theorem c28_i7 : c28.li 7 = [0] := rfl
@[go_sem] theorem c28_i8 : c28.li 8 = [0, 21] := rfl
@[go_sem] theorem c28_i9 : c28.li 9 = [0, 21] := rfl
@[go_sem] theorem c28_i10 : c28.li 10 = [0, 5, 6, 21] := rfl
@[go_sem] theorem c28_i11 : c28.li 11 = [0] := rfl
@[go_sem] theorem c28_i12 : c28.li 12 = [] := rfl
@[go_sem] theorem c28_r0 (d0 : Option Addr) (K : Env → W) : RP c28 0 [(0, .pointer d0)] K =
    (K [(0, .pointer d0)]) := by kernel_rfl
@[go_sem] theorem c28_r1 (d0 : Option Addr) (K : Env → W) : RP c28 1 [(0, .pointer d0)] K =
    (cal eI Try.prog 67 #[.pointer d0, .int .i64 ((0 : Int))] fun (y1_ : Int) => (K [(0, .pointer d0), (3, .int .i64 y1_)])) := by kernel_rfl
@[go_sem] theorem c28_r2 (d0 : Option Addr) (e3 : Int) (K : Env → W) : RP c28 2 [(0, .pointer d0), (3, .int .i64 e3)] K =
    (K [(0, .pointer d0), (3, .int .i64 e3), (10, .bool ((e3 != (0 : Int))))]) := by kernel_rfl
@[go_sem] theorem c28_r3 (e3 : Int) (K : Env → W) : RP c28 3 [(3, .int .i64 e3)] K =
    (K [(2, .int .i64 e3)]) := by kernel_rfl
@[go_sem] theorem c28_r4 (d0 : Option Addr) (K : Env → W) : RP c28 4 [(0, .pointer d0)] K =
    (cal eI Try.prog 68 #[.pointer d0] fun (y1_ : Int) => (K [(0, .pointer d0), (4, .int .i64 y1_)])) := by kernel_rfl
@[go_sem] theorem c28_r5 (d0 : Option Addr) (e4 : Int) (K : Env → W) : RP c28 5 [(0, .pointer d0), (4, .int .i64 e4)] K =
    (K [(0, .pointer d0), (4, .int .i64 e4), (15, .bool ((e4 != (0 : Int))))]) := by kernel_rfl
@[go_sem] theorem c28_r6 (e4 : Int) (K : Env → W) : RP c28 6 [(4, .int .i64 e4)] K =
    (K [(2, .int .i64 e4)]) := by kernel_rfl
@[go_sem] theorem c28_r7 (d0 : Option Addr) (K : Env → W) : RP c28 7 [(0, .pointer d0)] K =
    (nn d0 fun y1_ => (ld eM ((y1_.add 1)) fun (y2_ : Option Nat) => (val eP Try.prog (oRange 57 (.map y2_)) fun (y3_ : Option Addr) => (K [(0, .pointer d0), (21, .pointer y3_)])))) := by kernel_rfl
@[go_sem] theorem c28_r8 (d0 : Option Addr) (t21 : Option Addr) (K : Env → W) : RP c28 8 [(0, .pointer d0), (21, .pointer t21)] K =
    (nxt (eT3 eB eI eS) Try.prog (oNext (.pointer t21) false 0) (K [(0, .pointer d0), (21, .pointer t21), (23, .bool false)]) fun (y1_ : (Bool × Int × (List UInt8))) => (K [(0, .pointer d0), (21, .pointer t21), (23, .bool y1_.1)])) := by kernel_rfl
@[go_sem] theorem c28_r9 (d0 : Option Addr) (t21 : Option Addr) (K : Env → W) : RP c28 9 [(0, .pointer d0), (21, .pointer t21)] K =
    (val (eT2 eI eS) Try.prog (oEntry (.pointer t21)) fun (y1_ : (Int × (List UInt8))) => (K [(0, .pointer d0), (5, .int .i64 y1_.1), (6, str y1_.2), (21, .pointer t21)])) := by kernel_rfl
@[go_sem] theorem c28_r10 (d0 : Option Addr) (i5 : Int) (s6 : List UInt8) (t21 : Option Addr) (K : Env → W) : RP c28 10 [(0, .pointer d0), (5, .int .i64 i5), (6, str s6), (21, .pointer t21)] K =
    (nn d0 fun y1_ => (ld eSl y1_ fun (y2_ : (Option Addr × Nat × Nat)) => (rq (0 ≤ i5 ∧ i5 < (y2_.2.1 : Int)) (nn y2_.1 fun y3_ => (st ((Addr.add y3_ ((i5).toNat * 1))) (str s6) (K [(0, .pointer d0), (21, .pointer t21)])))))) := by kernel_rfl
@[go_sem] theorem c28_r11 (d0 : Option Addr) (K : Env → W) : RP c28 11 [(0, .pointer d0)] K =
    (nn d0 fun y1_ => (ld eM ((y1_.add 1)) fun (y2_ : Option Nat) => (val eN Try.prog (oB_clear #[57] 0 #[.map y2_]) fun (y3_ : Unit) => (K [])))) := by kernel_rfl
@[go_sem] theorem c28_r12 (K : Env → W) : RP c28 12 [] K =
    (K [(2, .int .i64 ((0 : Int)))]) := by kernel_rfl
@[go_sem] theorem c28_o : c28.lo 1000000 = [2] := rfl
@[go_sem] theorem c28_e (t2 : Int) (k : Value → W) : RTp c28 [(2, .int .i64 t2)] k = (k (.int .i64 t2)) := by kernel_rfl
theorem c28_ok : (c28.P.follows .mixedOrders && okc c28 c28.body) = true := by kernel_rfl
theorem c28_fn {e : Enc} {args : Array Value} {G : e.α → W} {L : List HP} {ρ : Env} (hρ : envA 0 args.toList = ρ) (hs : Nat.ble args.size 38 = true) (h : E L (D c28 (.seq (.reg 0) (.seq (.seq (.reg 1) (.seq (.reg 2) (.cond (.tmp 10) (.seq (.reg 3) (.ret)) (.skip)))) (.seq (.seq (.reg 4) (.seq (.reg 5) (.cond (.tmp 15) (.seq (.reg 6) (.ret)) (.skip)))) (.seq (.seq (.reg 7) (.block 0 (.loop (.seq (.reg 8) (.seq (.cond (.tmp 23) (.skip) (.exit 0)) (.block 1 (.seq (.reg 9) (.reg 10)))))))) (.seq (.reg 11) (.seq (.reg 12) (.ret))))))) (fnQ c28 e G) ρ)) : E L (cal e Try.prog 28 args G) :=
  d_fn (c := c28) Try.func28 (by kernel_rfl) (by kernel_rfl) (by kernel_rfl) c28_ok (by kernel_rfl) (by kernel_rfl) hρ hs h
-- loop (first region 8): live slots 0:d0 21:t21, of which it writes []
/-! (*gharry.disk.Disk).Crash -/
noncomputable def c29 : Cfg := { P := Try.prog, n := 14, T := TT, body := (Try.f29.body).getD .skip, res := Try.f29.results.toList, li := lk [] [(0, [0, 1]), (1, [0, 1]), (2, [0, 1, 5]), (3, [5]), (4, [0, 1]), (5, [])], lo := lk [] [(0, [0, 1]), (1, [0, 1, 5]), (2, [0, 1, 5, 9]), (3, [4]), (4, []), (5, [4]), (1000000, [4])], ord := lk (false, []) [] }
@[go_sem] theorem c29_i0 : c29.li 0 = [0, 1] := rfl
@[go_sem] theorem c29_i1 : c29.li 1 = [0, 1] := rfl
@[go_sem] theorem c29_i2 : c29.li 2 = [0, 1, 5] := rfl
@[go_sem] theorem c29_i3 : c29.li 3 = [5] := rfl
@[go_sem] theorem c29_i4 : c29.li 4 = [0, 1] := rfl
@[go_sem] theorem c29_i5 : c29.li 5 = [] := rfl
@[go_sem] theorem c29_r0 (d0 : Option Addr) (keep1 : Int) (K : Env → W) : RP c29 0 [(0, .pointer d0), (1, .int .u64 keep1)] K =
    (K [(0, .pointer d0), (1, .int .u64 keep1)]) := by kernel_rfl
@[go_sem] theorem c29_r1 (d0 : Option Addr) (keep1 : Int) (K : Env → W) : RP c29 1 [(0, .pointer d0), (1, .int .u64 keep1)] K =
    (cal eI Try.prog 67 #[.pointer d0, .int .i64 ((0 : Int))] fun (y1_ : Int) => (K [(0, .pointer d0), (1, .int .u64 keep1), (5, .int .i64 y1_)])) := by kernel_rfl
@[go_sem] theorem c29_r2 (d0 : Option Addr) (keep1 : Int) (e5 : Int) (K : Env → W) : RP c29 2 [(0, .pointer d0), (1, .int .u64 keep1), (5, .int .i64 e5)] K =
    (K [(0, .pointer d0), (1, .int .u64 keep1), (5, .int .i64 e5), (9, .bool ((e5 != (0 : Int))))]) := by kernel_rfl
@[go_sem] theorem c29_r3 (e5 : Int) (K : Env → W) : RP c29 3 [(5, .int .i64 e5)] K =
    (K [(4, .int .i64 e5)]) := by kernel_rfl
@[go_sem] theorem c29_r4 (d0 : Option Addr) (keep1 : Int) (K : Env → W) : RP c29 4 [(0, .pointer d0), (1, .int .u64 keep1)] K =
    (cal eN Try.prog 70 #[.pointer d0, .int .u64 keep1] fun (y1_ : Unit) => (K [])) := by kernel_rfl
@[go_sem] theorem c29_r5 (K : Env → W) : RP c29 5 [] K =
    (K [(4, .int .i64 ((0 : Int)))]) := by kernel_rfl
@[go_sem] theorem c29_o : c29.lo 1000000 = [4] := rfl
@[go_sem] theorem c29_e (t4 : Int) (k : Value → W) : RTp c29 [(4, .int .i64 t4)] k = (k (.int .i64 t4)) := by kernel_rfl
theorem c29_ok : (c29.P.follows .mixedOrders && okc c29 c29.body) = true := by kernel_rfl
theorem c29_fn {e : Enc} {args : Array Value} {G : e.α → W} {L : List HP} {ρ : Env} (hρ : envA 0 args.toList = ρ) (hs : Nat.ble args.size 14 = true) (h : E L (D c29 (.seq (.reg 0) (.seq (.seq (.reg 1) (.seq (.reg 2) (.cond (.tmp 9) (.seq (.reg 3) (.ret)) (.skip)))) (.seq (.reg 4) (.seq (.reg 5) (.ret))))) (fnQ c29 e G) ρ)) : E L (cal e Try.prog 29 args G) :=
  d_fn (c := c29) Try.func29 (by kernel_rfl) (by kernel_rfl) (by kernel_rfl) c29_ok (by kernel_rfl) (by kernel_rfl) hρ hs h
/-! (*gharry.disk.Disk).Start -/
noncomputable def c30 : Cfg := { P := Try.prog, n := 14, T := TT, body := (Try.f30.body).getD .skip, res := Try.f30.results.toList, li := lk [] [(0, [0]), (1, [0]), (2, []), (3, [0]), (4, []), (5, [0]), (6, [])], lo := lk [] [(0, [0]), (1, [0, 3]), (2, [2]), (3, [0, 6]), (4, [2]), (5, []), (6, [2]), (1000000, [2])], ord := lk (false, []) [] }
@[go_sem] theorem c30_i0 : c30.li 0 = [0] := rfl
@[go_sem] theorem c30_i1 : c30.li 1 = [0] := rfl
@[go_sem] theorem c30_i2 : c30.li 2 = [] := rfl
@[go_sem] theorem c30_i3 : c30.li 3 = [0] := rfl
@[go_sem] theorem c30_i4 : c30.li 4 = [] := rfl
@[go_sem] theorem c30_i5 : c30.li 5 = [0] := rfl
@[go_sem] theorem c30_i6 : c30.li 6 = [] := rfl
@[go_sem] theorem c30_r0 (d0 : Option Addr) (K : Env → W) : RP c30 0 [(0, .pointer d0)] K =
    (K [(0, .pointer d0)]) := by kernel_rfl
@[go_sem] theorem c30_r1 (d0 : Option Addr) (K : Env → W) : RP c30 1 [(0, .pointer d0)] K =
    (cal eB Try.prog 66 #[.pointer d0] fun (y1_ : Bool) => (K [(0, .pointer d0), (3, .bool y1_)])) := by kernel_rfl
@[go_sem] theorem c30_r2 (K : Env → W) : RP c30 2 [] K =
    (K [(2, .int .i64 ((11 : Int)))]) := by kernel_rfl
@[go_sem] theorem c30_r3 (d0 : Option Addr) (K : Env → W) : RP c30 3 [(0, .pointer d0)] K =
    (nn d0 fun y1_ => (ld eB ((y1_.add 2)) fun (y2_ : Bool) => (K [(0, .pointer d0), (6, .bool y2_)]))) := by kernel_rfl
@[go_sem] theorem c30_r4 (K : Env → W) : RP c30 4 [] K =
    (K [(2, .int .i64 ((19 : Int)))]) := by kernel_rfl
@[go_sem] theorem c30_r5 (d0 : Option Addr) (K : Env → W) : RP c30 5 [(0, .pointer d0)] K =
    (nn d0 fun y1_ => (st ((y1_.add 2)) (.bool true) (K []))) := by kernel_rfl
@[go_sem] theorem c30_r6 (K : Env → W) : RP c30 6 [] K =
    (K [(2, .int .i64 ((0 : Int)))]) := by kernel_rfl
@[go_sem] theorem c30_o : c30.lo 1000000 = [2] := rfl
@[go_sem] theorem c30_e (t2 : Int) (k : Value → W) : RTp c30 [(2, .int .i64 t2)] k = (k (.int .i64 t2)) := by kernel_rfl
theorem c30_ok : (c30.P.follows .mixedOrders && okc c30 c30.body) = true := by kernel_rfl
theorem c30_fn {e : Enc} {args : Array Value} {G : e.α → W} {L : List HP} {ρ : Env} (hρ : envA 0 args.toList = ρ) (hs : Nat.ble args.size 14 = true) (h : E L (D c30 (.seq (.reg 0) (.seq (.block 0 (.seq (.reg 1) (.cond (.tmp 3) (.seq (.reg 2) (.ret)) (.seq (.reg 3) (.cond (.tmp 6) (.seq (.reg 4) (.ret)) (.skip)))))) (.seq (.reg 5) (.seq (.reg 6) (.ret))))) (fnQ c30 e G) ρ)) : E L (cal e Try.prog 30 args G) :=
  d_fn (c := c30) Try.func30 (by kernel_rfl) (by kernel_rfl) (by kernel_rfl) c30_ok (by kernel_rfl) (by kernel_rfl) hρ hs h
/-! (*gharry.disk.Disk).Read -/
noncomputable def c31 : Cfg := { P := Try.prog, n := 34, T := TT, body := (Try.f31.body).getD .skip, res := Try.f31.results.toList, li := lk [] [(0, [0, 1]), (1, [0, 1]), (2, [0, 1, 6]), (3, [6]), (4, [0, 1]), (5, [0, 1, 7, 8]), (6, [7]), (7, [0, 1])], lo := lk [] [(0, [0, 1]), (1, [0, 1, 6]), (2, [0, 1, 6, 13]), (3, [4, 5]), (4, [0, 1, 7, 8]), (5, [0, 1, 7, 24]), (6, [4, 5]), (7, [4, 5]), (1000000, [4, 5])], ord := lk (false, []) [] }
@[go_sem] theorem c31_i0 : c31.li 0 = [0, 1] := rfl
@[go_sem] theorem c31_i1 : c31.li 1 = [0, 1] := rfl
@[go_sem] theorem c31_i2 : c31.li 2 = [0, 1, 6] := rfl
@[go_sem] theorem c31_i3 : c31.li 3 = [6] := rfl
@[go_sem] theorem c31_i4 : c31.li 4 = [0, 1] := rfl
@[go_sem] theorem c31_i5 : c31.li 5 = [0, 1, 7, 8] := rfl
@[go_sem] theorem c31_i6 : c31.li 6 = [7] := rfl
@[go_sem] theorem c31_i7 : c31.li 7 = [0, 1] := rfl
@[go_sem] theorem c31_r0 (d0 : Option Addr) (i1 : Int) (K : Env → W) : RP c31 0 [(0, .pointer d0), (1, .int .i64 i1)] K =
    (K [(0, .pointer d0), (1, .int .i64 i1)]) := by kernel_rfl
@[go_sem] theorem c31_r1 (d0 : Option Addr) (i1 : Int) (K : Env → W) : RP c31 1 [(0, .pointer d0), (1, .int .i64 i1)] K =
    (cal eI Try.prog 67 #[.pointer d0, .int .i64 i1] fun (y1_ : Int) => (K [(0, .pointer d0), (1, .int .i64 i1), (6, .int .i64 y1_)])) := by kernel_rfl
@[go_sem] theorem c31_r2 (d0 : Option Addr) (i1 : Int) (e6 : Int) (K : Env → W) : RP c31 2 [(0, .pointer d0), (1, .int .i64 i1), (6, .int .i64 e6)] K =
    (K [(0, .pointer d0), (1, .int .i64 i1), (6, .int .i64 e6), (13, .bool ((e6 != (0 : Int))))]) := by kernel_rfl
@[go_sem] theorem c31_r3 (e6 : Int) (K : Env → W) : RP c31 3 [(6, .int .i64 e6)] K =
    (K [(4, str (([] : List UInt8))), (5, .int .i64 e6)]) := by kernel_rfl
@[go_sem] theorem c31_r4 (d0 : Option Addr) (i1 : Int) (K : Env → W) : RP c31 4 [(0, .pointer d0), (1, .int .i64 i1)] K =
    (nn d0 fun y1_ => (ld eM ((y1_.add 1)) fun (y2_ : Option Nat) => (val (eT2 eS eB) Try.prog (oLookup 57 (.map y2_) (.int .i64 i1) true) fun (y3_ : ((List UInt8) × Bool)) => (K [(0, .pointer d0), (1, .int .i64 i1), (7, str y3_.1), (8, .bool y3_.2)])))) := by kernel_rfl
@[go_sem] theorem c31_r5 (d0 : Option Addr) (i1 : Int) (s7 : List UInt8) (ok8 : Bool) (K : Env → W) : RP c31 5 [(0, .pointer d0), (1, .int .i64 i1), (7, str s7), (8, .bool ok8)] K =
    (K [(0, .pointer d0), (1, .int .i64 i1), (7, str s7), (24, .bool ok8)]) := by kernel_rfl
@[go_sem] theorem c31_r6 (s7 : List UInt8) (K : Env → W) : RP c31 6 [(7, str s7)] K =
    (K [(4, str s7), (5, .int .i64 ((0 : Int)))]) := by kernel_rfl
@[go_sem] theorem c31_r7 (d0 : Option Addr) (i1 : Int) (K : Env → W) : RP c31 7 [(0, .pointer d0), (1, .int .i64 i1)] K =
    (nn d0 fun y1_ => (ld eSl y1_ fun (y2_ : (Option Addr × Nat × Nat)) => (rq (0 ≤ i1 ∧ i1 < (y2_.2.1 : Int)) (nn y2_.1 fun y3_ => (ld eS ((Addr.add y3_ ((i1).toNat * 1))) fun (y4_ : List UInt8) => (cal eS Try.prog 69 #[str y4_] fun (y5_ : List UInt8) => (K [(4, str y5_), (5, .int .i64 ((0 : Int)))]))))))) := by kernel_rfl
@[go_sem] theorem c31_o : c31.lo 1000000 = [4, 5] := rfl
@[go_sem] theorem c31_e (t4 : List UInt8) (t5 : Int) (k : Value → W) : RTp c31 [(4, str t4), (5, .int .i64 t5)] k = (k (.tuple #[str t4, .int .i64 t5])) := by kernel_rfl
theorem c31_ok : (c31.P.follows .mixedOrders && okc c31 c31.body) = true := by kernel_rfl
theorem c31_fn {e : Enc} {args : Array Value} {G : e.α → W} {L : List HP} {ρ : Env} (hρ : envA 0 args.toList = ρ) (hs : Nat.ble args.size 34 = true) (h : E L (D c31 (.seq (.reg 0) (.seq (.seq (.reg 1) (.seq (.reg 2) (.cond (.tmp 13) (.seq (.reg 3) (.ret)) (.skip)))) (.seq (.seq (.reg 4) (.seq (.reg 5) (.cond (.tmp 24) (.seq (.reg 6) (.ret)) (.skip)))) (.seq (.reg 7) (.ret))))) (fnQ c31 e G) ρ)) : E L (cal e Try.prog 31 args G) :=
  d_fn (c := c31) Try.func31 (by kernel_rfl) (by kernel_rfl) (by kernel_rfl) c31_ok (by kernel_rfl) (by kernel_rfl) hρ hs h
/-! (*gharry.disk.Disk).Up -/
noncomputable def c37 : Cfg := { P := Try.prog, n := 12, T := TT, body := (Try.f37.body).getD .skip, res := Try.f37.results.toList, li := lk [] [(0, [0]), (1, [0])], lo := lk [] [(0, [0]), (1, [2]), (1000000, [2])], ord := lk (false, []) [] }
@[go_sem] theorem c37_i0 : c37.li 0 = [0] := rfl
@[go_sem] theorem c37_i1 : c37.li 1 = [0] := rfl
@[go_sem] theorem c37_r0 (d0 : Option Addr) (K : Env → W) : RP c37 0 [(0, .pointer d0)] K =
    (K [(0, .pointer d0)]) := by kernel_rfl
@[go_sem] theorem c37_r1 (d0 : Option Addr) (K : Env → W) : RP c37 1 [(0, .pointer d0)] K =
    (cal eB Try.prog 66 #[.pointer d0] fun (y1_ : Bool) => (cnd ((!y1_)) (nn d0 fun y2_ => (ld eB ((y2_.add 2)) fun (y3_ : Bool) => (K [(2, .bool y3_)]))) (K [(2, .bool false)]))) := by kernel_rfl
@[go_sem] theorem c37_o : c37.lo 1000000 = [2] := rfl
@[go_sem] theorem c37_e (t2 : Bool) (k : Value → W) : RTp c37 [(2, .bool t2)] k = (k (.bool t2)) := by kernel_rfl
theorem c37_ok : (c37.P.follows .mixedOrders && okc c37 c37.body) = true := by kernel_rfl
theorem c37_fn {e : Enc} {args : Array Value} {G : e.α → W} {L : List HP} {ρ : Env} (hρ : envA 0 args.toList = ρ) (hs : Nat.ble args.size 12 = true) (h : E L (D c37 (.seq (.reg 0) (.seq (.reg 1) (.ret))) (fnQ c37 e G) ρ)) : E L (cal e Try.prog 37 args G) :=
  d_fn (c := c37) Try.func37 (by kernel_rfl) (by kernel_rfl) (by kernel_rfl) c37_ok (by kernel_rfl) (by kernel_rfl) hρ hs h
/-! (*gharry.disk.Disk).Acts -/
noncomputable def c38 : Cfg := { P := Try.prog, n := 9, T := TT, body := (Try.f38.body).getD .skip, res := Try.f38.results.toList, li := lk [] [(0, [0]), (1, [0]), (2, []), (3, [0])], lo := lk [] [(0, [0]), (1, [0, 4]), (2, [2]), (3, [2]), (1000000, [2])], ord := lk (false, []) [] }
@[go_sem] theorem c38_i0 : c38.li 0 = [0] := rfl
@[go_sem] theorem c38_i1 : c38.li 1 = [0] := rfl
@[go_sem] theorem c38_i2 : c38.li 2 = [] := rfl
@[go_sem] theorem c38_i3 : c38.li 3 = [0] := rfl
@[go_sem] theorem c38_r0 (d0 : Option Addr) (K : Env → W) : RP c38 0 [(0, .pointer d0)] K =
    (K [(0, .pointer d0)]) := by kernel_rfl
@[go_sem] theorem c38_r1 (d0 : Option Addr) (K : Env → W) : RP c38 1 [(0, .pointer d0)] K =
    (cal eB Try.prog 66 #[.pointer d0] fun (y1_ : Bool) => (K [(0, .pointer d0), (4, .bool y1_)])) := by kernel_rfl
@[go_sem] theorem c38_r2 (K : Env → W) : RP c38 2 [] K =
    (K [(2, .int .i64 ((0 : Int)))]) := by kernel_rfl
@[go_sem] theorem c38_r3 (d0 : Option Addr) (K : Env → W) : RP c38 3 [(0, .pointer d0)] K =
    (nn d0 fun y1_ => (ld eI ((y1_.add 5)) fun (y2_ : Int) => (K [(2, .int .i64 y2_)]))) := by kernel_rfl
@[go_sem] theorem c38_o : c38.lo 1000000 = [2] := rfl
@[go_sem] theorem c38_e (t2 : Int) (k : Value → W) : RTp c38 [(2, .int .i64 t2)] k = (k (.int .i64 t2)) := by kernel_rfl
theorem c38_ok : (c38.P.follows .mixedOrders && okc c38 c38.body) = true := by kernel_rfl
theorem c38_fn {e : Enc} {args : Array Value} {G : e.α → W} {L : List HP} {ρ : Env} (hρ : envA 0 args.toList = ρ) (hs : Nat.ble args.size 9 = true) (h : E L (D c38 (.seq (.reg 0) (.seq (.seq (.reg 1) (.cond (.tmp 4) (.seq (.reg 2) (.ret)) (.skip))) (.seq (.reg 3) (.ret)))) (fnQ c38 e G) ρ)) : E L (cal e Try.prog 38 args G) :=
  d_fn (c := c38) Try.func38 (by kernel_rfl) (by kernel_rfl) (by kernel_rfl) c38_ok (by kernel_rfl) (by kernel_rfl) hρ hs h
/-! (*gharry.disk.Disk).Downs -/
noncomputable def c39 : Cfg := { P := Try.prog, n := 9, T := TT, body := (Try.f39.body).getD .skip, res := Try.f39.results.toList, li := lk [] [(0, [0]), (1, [0]), (2, []), (3, [0])], lo := lk [] [(0, [0]), (1, [0, 4]), (2, [2]), (3, [2]), (1000000, [2])], ord := lk (false, []) [] }
@[go_sem] theorem c39_i0 : c39.li 0 = [0] := rfl
@[go_sem] theorem c39_i1 : c39.li 1 = [0] := rfl
@[go_sem] theorem c39_i2 : c39.li 2 = [] := rfl
@[go_sem] theorem c39_i3 : c39.li 3 = [0] := rfl
@[go_sem] theorem c39_r0 (d0 : Option Addr) (K : Env → W) : RP c39 0 [(0, .pointer d0)] K =
    (K [(0, .pointer d0)]) := by kernel_rfl
@[go_sem] theorem c39_r1 (d0 : Option Addr) (K : Env → W) : RP c39 1 [(0, .pointer d0)] K =
    (cal eB Try.prog 66 #[.pointer d0] fun (y1_ : Bool) => (K [(0, .pointer d0), (4, .bool y1_)])) := by kernel_rfl
@[go_sem] theorem c39_r2 (K : Env → W) : RP c39 2 [] K =
    (K [(2, .int .i64 ((0 : Int)))]) := by kernel_rfl
@[go_sem] theorem c39_r3 (d0 : Option Addr) (K : Env → W) : RP c39 3 [(0, .pointer d0)] K =
    (nn d0 fun y1_ => (ld eI ((y1_.add 6)) fun (y2_ : Int) => (K [(2, .int .i64 y2_)]))) := by kernel_rfl
@[go_sem] theorem c39_o : c39.lo 1000000 = [2] := rfl
@[go_sem] theorem c39_e (t2 : Int) (k : Value → W) : RTp c39 [(2, .int .i64 t2)] k = (k (.int .i64 t2)) := by kernel_rfl
theorem c39_ok : (c39.P.follows .mixedOrders && okc c39 c39.body) = true := by kernel_rfl
theorem c39_fn {e : Enc} {args : Array Value} {G : e.α → W} {L : List HP} {ρ : Env} (hρ : envA 0 args.toList = ρ) (hs : Nat.ble args.size 9 = true) (h : E L (D c39 (.seq (.reg 0) (.seq (.seq (.reg 1) (.cond (.tmp 4) (.seq (.reg 2) (.ret)) (.skip))) (.seq (.reg 3) (.ret)))) (fnQ c39 e G) ρ)) : E L (cal e Try.prog 39 args G) :=
  d_fn (c := c39) Try.func39 (by kernel_rfl) (by kernel_rfl) (by kernel_rfl) c39_ok (by kernel_rfl) (by kernel_rfl) hρ hs h
/-! (*gharry.disk.Disk).Calm -/
noncomputable def c41 : Cfg := { P := Try.prog, n := 8, T := TT, body := (Try.f41.body).getD .skip, res := Try.f41.results.toList, li := lk [] [(0, [0]), (1, [0])], lo := lk [] [(0, [0, 4]), (1, []), (1000000, [])], ord := lk (false, []) [] }
@[go_sem] theorem c41_i0 : c41.li 0 = [0] := rfl
@[go_sem] theorem c41_i1 : c41.li 1 = [0] := rfl
@[go_sem] theorem c41_r0 (d0 : Option Addr) (K : Env → W) : RP c41 0 [(0, .pointer d0)] K =
    (cal eB Try.prog 66 #[.pointer d0] fun (y1_ : Bool) => (K [(0, .pointer d0), (4, .bool ((!y1_)))])) := by kernel_rfl
@[go_sem] theorem c41_r1 (d0 : Option Addr) (K : Env → W) : RP c41 1 [(0, .pointer d0)] K =
    (nn d0 fun y1_ => (st ((y1_.add 3)) (.int .i64 ((-1 : Int))) (K []))) := by kernel_rfl
@[go_sem] theorem c41_o : c41.lo 1000000 = [] := rfl
@[go_sem] theorem c41_e (k : Value → W) : RTp c41 [] k = (k (.tuple #[])) := by kernel_rfl
theorem c41_ok : (c41.P.follows .mixedOrders && okc c41 c41.body) = true := by kernel_rfl
theorem c41_fn {e : Enc} {args : Array Value} {G : e.α → W} {L : List HP} {ρ : Env} (hρ : envA 0 args.toList = ρ) (hs : Nat.ble args.size 8 = true) (h : E L (D c41 (.seq (.reg 0) (.cond (.tmp 4) (.reg 1) (.skip))) (fnQ c41 e G) ρ)) : E L (cal e Try.prog 41 args G) :=
  d_fn (c := c41) Try.func41 (by kernel_rfl) (by kernel_rfl) (by kernel_rfl) c41_ok (by kernel_rfl) (by kernel_rfl) hρ hs h
/-! (*gharry.disk.Disk).Arm -/
noncomputable def c42 : Cfg := { P := Try.prog, n := 23, T := TT, body := (Try.f42.body).getD .skip, res := Try.f42.results.toList, li := lk [] [(0, [0, 1, 2]), (1, [0, 1, 2]), (2, [0, 1, 2, 7]), (3, [7]), (4, [0, 1, 2]), (5, []), (6, [0, 1, 2]), (7, [])], lo := lk [] [(0, [0, 1, 2]), (1, [0, 1, 2, 7]), (2, [0, 1, 2, 7, 11]), (3, [6]), (4, [0, 1, 2, 14]), (5, [6]), (6, []), (7, [6]), (1000000, [6])], ord := lk (false, []) [] }
@[go_sem] theorem c42_i0 : c42.li 0 = [0, 1, 2] := rfl
@[go_sem] theorem c42_i1 : c42.li 1 = [0, 1, 2] := rfl
@[go_sem] theorem c42_i2 : c42.li 2 = [0, 1, 2, 7] := rfl
@[go_sem] theorem c42_i3 : c42.li 3 = [7] := rfl
@[go_sem] theorem c42_i4 : c42.li 4 = [0, 1, 2] := rfl
@[go_sem] theorem c42_i5 : c42.li 5 = [] := rfl
@[go_sem] theorem c42_i6 : c42.li 6 = [0, 1, 2] := rfl
@[go_sem] theorem c42_i7 : c42.li 7 = [] := rfl
@[go_sem] theorem c42_r0 (d0 : Option Addr) (acts1 : Int) (keep2 : Int) (K : Env → W) : RP c42 0 [(0, .pointer d0), (1, .int .i64 acts1), (2, .int .u64 keep2)] K =
    (K [(0, .pointer d0), (1, .int .i64 acts1), (2, .int .u64 keep2)]) := by kernel_rfl
@[go_sem] theorem c42_r1 (d0 : Option Addr) (acts1 : Int) (keep2 : Int) (K : Env → W) : RP c42 1 [(0, .pointer d0), (1, .int .i64 acts1), (2, .int .u64 keep2)] K =
    (cal eI Try.prog 67 #[.pointer d0, .int .i64 ((0 : Int))] fun (y1_ : Int) => (K [(0, .pointer d0), (1, .int .i64 acts1), (2, .int .u64 keep2), (7, .int .i64 y1_)])) := by kernel_rfl
@[go_sem] theorem c42_r2 (d0 : Option Addr) (acts1 : Int) (keep2 : Int) (e7 : Int) (K : Env → W) : RP c42 2 [(0, .pointer d0), (1, .int .i64 acts1), (2, .int .u64 keep2), (7, .int .i64 e7)] K =
    (K [(0, .pointer d0), (1, .int .i64 acts1), (2, .int .u64 keep2), (7, .int .i64 e7), (11, .bool ((e7 != (0 : Int))))]) := by kernel_rfl
@[go_sem] theorem c42_r3 (e7 : Int) (K : Env → W) : RP c42 3 [(7, .int .i64 e7)] K =
    (K [(6, .int .i64 e7)]) := by kernel_rfl
@[go_sem] theorem c42_r4 (d0 : Option Addr) (acts1 : Int) (keep2 : Int) (K : Env → W) : RP c42 4 [(0, .pointer d0), (1, .int .i64 acts1), (2, .int .u64 keep2)] K =
    (K [(0, .pointer d0), (1, .int .i64 acts1), (2, .int .u64 keep2), (14, .bool ((decide (acts1 < (0 : Int)))))]) := by kernel_rfl
@[go_sem] theorem c42_r5 (K : Env → W) : RP c42 5 [] K =
    (K [(6, .int .i64 ((1 : Int)))]) := by kernel_rfl
@[go_sem] theorem c42_r6 (d0 : Option Addr) (acts1 : Int) (keep2 : Int) (K : Env → W) : RP c42 6 [(0, .pointer d0), (1, .int .i64 acts1), (2, .int .u64 keep2)] K =
    (nn d0 fun y1_ => (st ((y1_.add 3)) (.int .i64 acts1) (nn d0 fun y2_ => (st ((y2_.add 4)) (.int .u64 keep2) (K []))))) := by kernel_rfl
@[go_sem] theorem c42_r7 (K : Env → W) : RP c42 7 [] K =
    (K [(6, .int .i64 ((0 : Int)))]) := by kernel_rfl
@[go_sem] theorem c42_o : c42.lo 1000000 = [6] := rfl
@[go_sem] theorem c42_e (t6 : Int) (k : Value → W) : RTp c42 [(6, .int .i64 t6)] k = (k (.int .i64 t6)) := by kernel_rfl
theorem c42_ok : (c42.P.follows .mixedOrders && okc c42 c42.body) = true := by kernel_rfl
theorem c42_fn {e : Enc} {args : Array Value} {G : e.α → W} {L : List HP} {ρ : Env} (hρ : envA 0 args.toList = ρ) (hs : Nat.ble args.size 23 = true) (h : E L (D c42 (.seq (.reg 0) (.seq (.seq (.reg 1) (.seq (.reg 2) (.cond (.tmp 11) (.seq (.reg 3) (.ret)) (.skip)))) (.seq (.seq (.reg 4) (.cond (.tmp 14) (.seq (.reg 5) (.ret)) (.skip))) (.seq (.reg 6) (.seq (.reg 7) (.ret)))))) (fnQ c42 e G) ρ)) : E L (cal e Try.prog 42 args G) :=
  d_fn (c := c42) Try.func42 (by kernel_rfl) (by kernel_rfl) (by kernel_rfl) c42_ok (by kernel_rfl) (by kernel_rfl) hρ hs h
/-! (*gharry.disk.Disk).Waiting -/
noncomputable def c43 : Cfg := { P := Try.prog, n := 23, T := TT, body := (Try.f43.body).getD .skip, res := Try.f43.results.toList, li := lk [] [(0, [0]), (1, [0]), (2, []), (3, [0]), (4, [0, 3]), (5, [3, 11]), (6, [3, 11]), (7, [3, 4, 11]), (8, [3]), (9, [3])], lo := lk [] [(0, [0]), (1, [0, 6]), (2, [2]), (3, [0, 3]), (4, [3, 11]), (5, [3, 11, 13]), (6, [3, 4, 11]), (7, [3, 11]), (8, [3]), (9, [2]), (1000000, [2])], ord := lk (false, []) [], de := [(11, eP), (12, (eT3 eB eI eS)), (14, (eT2 eI eS))] }
@[go_sem] theorem c43_i0 : c43.li 0 = [0] := rfl
@[go_sem] theorem c43_i1 : c43.li 1 = [0] := rfl
@[go_sem] theorem c43_i2 : c43.li 2 = [] := rfl
@[go_sem] theorem c43_i3 : c43.li 3 = [0] := rfl
@[go_sem] theorem c43_i4 : c43.li 4 = [0, 3] := rfl
@[go_sem] theorem c43_i5 : c43.li 5 = [3, 11] := rfl
@[go_sem] theorem c43_i6 : c43.li 6 = [3, 11] := rfl
@[go_sem] theorem c43_i7 : c43.li 7 = [3, 4, 11] := rfl
@[go_sem] theorem c43_i8 : c43.li 8 = [3] := rfl
@[go_sem] theorem c43_i9 : c43.li 9 = [3] := rfl
@[go_sem] theorem c43_r0 (d0 : Option Addr) (K : Env → W) : RP c43 0 [(0, .pointer d0)] K =
    (K [(0, .pointer d0)]) := by kernel_rfl
@[go_sem] theorem c43_r1 (d0 : Option Addr) (K : Env → W) : RP c43 1 [(0, .pointer d0)] K =
    (cal eB Try.prog 66 #[.pointer d0] fun (y1_ : Bool) => (K [(0, .pointer d0), (6, .bool y1_)])) := by kernel_rfl
@[go_sem] theorem c43_r2 (K : Env → W) : RP c43 2 [] K =
    (K [(2, .slice none 0 0)]) := by kernel_rfl
@[go_sem] theorem c43_r3 (d0 : Option Addr) (K : Env → W) : RP c43 3 [(0, .pointer d0)] K =
    (K [(0, .pointer d0), (3, .slice none 0 0)]) := by kernel_rfl
@[go_sem] theorem c43_r4 (d0 : Option Addr) (out3p : Option Addr) (out3n out3c : Nat) (K : Env → W) : RP c43 4 [(0, .pointer d0), (3, .slice out3p out3n out3c)] K =
    (nn d0 fun y1_ => (ld eM ((y1_.add 1)) fun (y2_ : Option Nat) => (val eP Try.prog (oRange 57 (.map y2_)) fun (y3_ : Option Addr) => (K [(3, .slice out3p out3n out3c), (11, .pointer y3_)])))) := by kernel_rfl
@[go_sem] theorem c43_r5 (out3p : Option Addr) (out3n out3c : Nat) (t11 : Option Addr) (K : Env → W) : RP c43 5 [(3, .slice out3p out3n out3c), (11, .pointer t11)] K =
    (nxt (eT3 eB eI eS) Try.prog (oNext (.pointer t11) false 0) (K [(3, .slice out3p out3n out3c), (11, .pointer t11), (13, .bool false)]) fun (y1_ : (Bool × Int × (List UInt8))) => (K [(3, .slice out3p out3n out3c), (11, .pointer t11), (13, .bool y1_.1)])) := by kernel_rfl
@[go_sem] theorem c43_r6 (out3p : Option Addr) (out3n out3c : Nat) (t11 : Option Addr) (K : Env → W) : RP c43 6 [(3, .slice out3p out3n out3c), (11, .pointer t11)] K =
    (val (eT2 eI eS) Try.prog (oEntry (.pointer t11)) fun (y1_ : (Int × (List UInt8))) => (K [(3, .slice out3p out3n out3c), (4, .int .i64 y1_.1), (11, .pointer t11)])) := by kernel_rfl
@[go_sem] theorem c43_r7 (out3p : Option Addr) (out3n out3c : Nat) (i4 : Int) (t11 : Option Addr) (K : Env → W) : RP c43 7 [(3, .slice out3p out3n out3c), (4, .int .i64 i4), (11, .pointer t11)] K =
    (nwc #[.int .i64 i4] 3 fun y1_ => (val eSl Try.prog (oB_append #[61, 61] 61 #[.slice out3p out3n out3c, .slice ((some y1_)) 1 1]) fun (y2_ : (Option Addr × Nat × Nat)) => (K [(3, .slice y2_.1 y2_.2.1 y2_.2.2), (11, .pointer t11)]))) := by kernel_rfl
@[go_sem] theorem c43_r8 (out3p : Option Addr) (out3n out3c : Nat) (K : Env → W) : RP c43 8 [(3, .slice out3p out3n out3c)] K =
    (cal eN Try.prog 80 #[.slice out3p out3n out3c] fun (y1_ : Unit) => (K [(3, .slice out3p out3n out3c)])) := by kernel_rfl
@[go_sem] theorem c43_r9 (out3p : Option Addr) (out3n out3c : Nat) (K : Env → W) : RP c43 9 [(3, .slice out3p out3n out3c)] K =
    (K [(2, .slice out3p out3n out3c)]) := by kernel_rfl
@[go_sem] theorem c43_o : c43.lo 1000000 = [2] := rfl
@[go_sem] theorem c43_e (t2p : Option Addr) (t2n t2c : Nat) (k : Value → W) : RTp c43 [(2, .slice t2p t2n t2c)] k = (k (.slice t2p t2n t2c)) := by kernel_rfl
theorem c43_ok : (c43.P.follows .mixedOrders && okc c43 c43.body) = true := by kernel_rfl
theorem c43_fn {e : Enc} {args : Array Value} {G : e.α → W} {L : List HP} {ρ : Env} (hρ : envA 0 args.toList = ρ) (hs : Nat.ble args.size 23 = true) (h : E L (D c43 (.seq (.reg 0) (.seq (.seq (.reg 1) (.cond (.tmp 6) (.seq (.reg 2) (.ret)) (.skip))) (.seq (.reg 3) (.seq (.seq (.reg 4) (.block 0 (.loop (.seq (.reg 5) (.seq (.cond (.tmp 13) (.skip) (.exit 0)) (.block 1 (.seq (.reg 6) (.reg 7)))))))) (.seq (.reg 8) (.seq (.reg 9) (.ret))))))) (fnQ c43 e G) ρ)) : E L (cal e Try.prog 43 args G) :=
  d_fn (c := c43) Try.func43 (by kernel_rfl) (by kernel_rfl) (by kernel_rfl) c43_ok (by kernel_rfl) (by kernel_rfl) hρ hs h
-- loop (first region 5): live slots 3:out3 11:t11, of which it writes [3]
/-! (*gharry.disk.Disk).none -/
noncomputable def c66 : Cfg := { P := Try.prog, n := 13, T := TT, body := (Try.f66.body).getD .skip, res := Try.f66.results.toList, li := lk [] [(0, [0]), (1, [0])], lo := lk [] [(0, [0]), (1, [2]), (1000000, [2])], ord := lk (false, []) [] }
@[go_sem] theorem c66_i0 : c66.li 0 = [0] := rfl
@[go_sem] theorem c66_i1 : c66.li 1 = [0] := rfl
@[go_sem] theorem c66_r0 (d0 : Option Addr) (K : Env → W) : RP c66 0 [(0, .pointer d0)] K =
    (K [(0, .pointer d0)]) := by kernel_rfl
@[go_sem] theorem c66_r1 (d0 : Option Addr) (K : Env → W) : RP c66 1 [(0, .pointer d0)] K =
    (cnd ((d0).isNone) (K [(2, .bool true)]) (nn d0 fun y1_ => (ld eSl y1_ fun (y2_ : (Option Addr × Nat × Nat)) => (K [(2, .bool (((y2_.2.1 : Int) == (0 : Int))))])))) := by kernel_rfl
@[go_sem] theorem c66_o : c66.lo 1000000 = [2] := rfl
@[go_sem] theorem c66_e (t2 : Bool) (k : Value → W) : RTp c66 [(2, .bool t2)] k = (k (.bool t2)) := by kernel_rfl
theorem c66_ok : (c66.P.follows .mixedOrders && okc c66 c66.body) = true := by kernel_rfl
theorem c66_fn {e : Enc} {args : Array Value} {G : e.α → W} {L : List HP} {ρ : Env} (hρ : envA 0 args.toList = ρ) (hs : Nat.ble args.size 13 = true) (h : E L (D c66 (.seq (.reg 0) (.seq (.reg 1) (.ret))) (fnQ c66 e G) ρ)) : E L (cal e Try.prog 66 args G) :=
  d_fn (c := c66) Try.func66 (by kernel_rfl) (by kernel_rfl) (by kernel_rfl) c66_ok (by kernel_rfl) (by kernel_rfl) hρ hs h
/-! (*gharry.disk.Disk).check -/
noncomputable def c67 : Cfg := { P := Try.prog, n := 26, T := TT, body := (Try.f67.body).getD .skip, res := Try.f67.results.toList, li := lk [] [(0, [0, 1]), (1, [0, 1]), (2, []), (3, [0, 1]), (4, []), (5, [0, 1]), (6, []), (7, [])], lo := lk [] [(0, [0, 1]), (1, [0, 1, 5]), (2, [4]), (3, [0, 1, 8]), (4, [4]), (5, [14]), (6, [4]), (7, [4]), (1000000, [4])], ord := lk (false, []) [] }
@[go_sem] theorem c67_i0 : c67.li 0 = [0, 1] := rfl
@[go_sem] theorem c67_i1 : c67.li 1 = [0, 1] := rfl
@[go_sem] theorem c67_i2 : c67.li 2 = [] := rfl
@[go_sem] theorem c67_i3 : c67.li 3 = [0, 1] := rfl
@[go_sem] theorem c67_i4 : c67.li 4 = [] := rfl
@[go_sem] theorem c67_i5 : c67.li 5 = [0, 1] := rfl
@[go_sem] theorem c67_i6 : c67.li 6 = [] := rfl
@[go_sem] theorem c67_i7 : c67.li 7 = [] := rfl
@[go_sem] theorem c67_r0 (d0 : Option Addr) (i1 : Int) (K : Env → W) : RP c67 0 [(0, .pointer d0), (1, .int .i64 i1)] K =
    (K [(0, .pointer d0), (1, .int .i64 i1)]) := by kernel_rfl
@[go_sem] theorem c67_r1 (d0 : Option Addr) (i1 : Int) (K : Env → W) : RP c67 1 [(0, .pointer d0), (1, .int .i64 i1)] K =
    (cal eB Try.prog 66 #[.pointer d0] fun (y1_ : Bool) => (K [(0, .pointer d0), (1, .int .i64 i1), (5, .bool y1_)])) := by kernel_rfl
@[go_sem] theorem c67_r2 (K : Env → W) : RP c67 2 [] K =
    (K [(4, .int .i64 ((11 : Int)))]) := by kernel_rfl
@[go_sem] theorem c67_r3 (d0 : Option Addr) (i1 : Int) (K : Env → W) : RP c67 3 [(0, .pointer d0), (1, .int .i64 i1)] K =
    (nn d0 fun y1_ => (ld eB ((y1_.add 2)) fun (y2_ : Bool) => (K [(0, .pointer d0), (1, .int .i64 i1), (8, .bool ((!y2_)))]))) := by kernel_rfl
@[go_sem] theorem c67_r4 (K : Env → W) : RP c67 4 [] K =
    (K [(4, .int .i64 ((9 : Int)))]) := by kernel_rfl
@[go_sem] theorem c67_r5 (d0 : Option Addr) (i1 : Int) (K : Env → W) : RP c67 5 [(0, .pointer d0), (1, .int .i64 i1)] K =
    (cnd ((decide (i1 < (0 : Int)))) (K [(14, .bool true)]) (nn d0 fun y1_ => (ld eSl y1_ fun (y2_ : (Option Addr × Nat × Nat)) => (K [(14, .bool ((decide ((y2_.2.1 : Int) ≤ i1))))])))) := by kernel_rfl
@[go_sem] theorem c67_r6 (K : Env → W) : RP c67 6 [] K =
    (K [(4, .int .i64 ((6 : Int)))]) := by kernel_rfl
@[go_sem] theorem c67_r7 (K : Env → W) : RP c67 7 [] K =
    (K [(4, .int .i64 ((0 : Int)))]) := by kernel_rfl
@[go_sem] theorem c67_o : c67.lo 1000000 = [4] := rfl
@[go_sem] theorem c67_e (t4 : Int) (k : Value → W) : RTp c67 [(4, .int .i64 t4)] k = (k (.int .i64 t4)) := by kernel_rfl
theorem c67_ok : (c67.P.follows .mixedOrders && okc c67 c67.body) = true := by kernel_rfl
theorem c67_fn {e : Enc} {args : Array Value} {G : e.α → W} {L : List HP} {ρ : Env} (hρ : envA 0 args.toList = ρ) (hs : Nat.ble args.size 26 = true) (h : E L (D c67 (.seq (.reg 0) (.seq (.block 0 (.seq (.reg 1) (.cond (.tmp 5) (.seq (.reg 2) (.ret)) (.seq (.reg 3) (.cond (.tmp 8) (.seq (.reg 4) (.ret)) (.seq (.reg 5) (.cond (.tmp 14) (.seq (.reg 6) (.ret)) (.skip)))))))) (.seq (.reg 7) (.ret)))) (fnQ c67 e G) ρ)) : E L (cal e Try.prog 67 args G) :=
  d_fn (c := c67) Try.func67 (by kernel_rfl) (by kernel_rfl) (by kernel_rfl) c67_ok (by kernel_rfl) (by kernel_rfl) hρ hs h
/-! (*gharry.disk.Disk).act -/
noncomputable def c68 : Cfg := { P := Try.prog, n := 33, T := TT, body := (Try.f68.body).getD .skip, res := Try.f68.results.toList, li := lk [] [(0, [0]), (1, [0]), (2, [0]), (3, []), (4, [0]), (5, [0]), (6, [0]), (7, [])], lo := lk [] [(0, [0]), (1, [0, 7]), (2, []), (3, [2]), (4, [0, 18]), (5, [0]), (6, []), (7, [2]), (1000000, [2])], ord := lk (false, []) [] }
@[go_sem] theorem c68_i0 : c68.li 0 = [0] := rfl
@[go_sem] theorem c68_i1 : c68.li 1 = [0] := rfl
@[go_sem] theorem c68_i2 : c68.li 2 = [0] := rfl
@[go_sem] theorem c68_i3 : c68.li 3 = [] := rfl
@[go_sem] theorem c68_i4 : c68.li 4 = [0] := rfl
@[go_sem] theorem c68_i5 : c68.li 5 = [0] := rfl
@[go_sem] theorem c68_i6 : c68.li 6 = [0] := rfl
@[go_sem] theorem c68_i7 : c68.li 7 = [] := rfl
@[go_sem] theorem c68_r0 (d0 : Option Addr) (K : Env → W) : RP c68 0 [(0, .pointer d0)] K =
    (K [(0, .pointer d0)]) := by kernel_rfl
@[go_sem] theorem c68_r1 (d0 : Option Addr) (K : Env → W) : RP c68 1 [(0, .pointer d0)] K =
    (nn d0 fun y1_ => (ld eI ((y1_.add 3)) fun (y2_ : Int) => (K [(0, .pointer d0), (7, .bool ((y2_ == (0 : Int))))]))) := by kernel_rfl
@[go_sem] theorem c68_r2 (d0 : Option Addr) (K : Env → W) : RP c68 2 [(0, .pointer d0)] K =
    (nn d0 fun y1_ => (ld eU64 ((y1_.add 4)) fun (y2_ : Int) => (cal eN Try.prog 70 #[.pointer d0, .int .u64 y2_] fun (y3_ : Unit) => (K [])))) := by kernel_rfl
@[go_sem] theorem c68_r3 (K : Env → W) : RP c68 3 [] K =
    (K [(2, .int .i64 ((9 : Int)))]) := by kernel_rfl
@[go_sem] theorem c68_r4 (d0 : Option Addr) (K : Env → W) : RP c68 4 [(0, .pointer d0)] K =
    (nn d0 fun y1_ => (ld eI ((y1_.add 3)) fun (y2_ : Int) => (K [(0, .pointer d0), (18, .bool ((decide ((0 : Int) < y2_))))]))) := by kernel_rfl
@[go_sem] theorem c68_r5 (d0 : Option Addr) (K : Env → W) : RP c68 5 [(0, .pointer d0)] K =
    (nn d0 fun y1_ => (ld eI ((y1_.add 3)) fun (y2_ : Int) => (nn d0 fun y3_ => (st ((y3_.add 3)) (.int .i64 ((IntKind.wrap .i64 (y2_ - (1 : Int))))) (K [(0, .pointer d0)]))))) := by kernel_rfl
@[go_sem] theorem c68_r6 (d0 : Option Addr) (K : Env → W) : RP c68 6 [(0, .pointer d0)] K =
    (nn d0 fun y1_ => (ld eI ((y1_.add 5)) fun (y2_ : Int) => (nn d0 fun y3_ => (st ((y3_.add 5)) (.int .i64 ((IntKind.wrap .i64 (y2_ + (1 : Int))))) (K []))))) := by kernel_rfl
@[go_sem] theorem c68_r7 (K : Env → W) : RP c68 7 [] K =
    (K [(2, .int .i64 ((0 : Int)))]) := by kernel_rfl
@[go_sem] theorem c68_o : c68.lo 1000000 = [2] := rfl
@[go_sem] theorem c68_e (t2 : Int) (k : Value → W) : RTp c68 [(2, .int .i64 t2)] k = (k (.int .i64 t2)) := by kernel_rfl
theorem c68_ok : (c68.P.follows .mixedOrders && okc c68 c68.body) = true := by kernel_rfl
theorem c68_fn {e : Enc} {args : Array Value} {G : e.α → W} {L : List HP} {ρ : Env} (hρ : envA 0 args.toList = ρ) (hs : Nat.ble args.size 33 = true) (h : E L (D c68 (.seq (.reg 0) (.seq (.seq (.reg 1) (.cond (.tmp 7) (.seq (.reg 2) (.seq (.reg 3) (.ret))) (.skip))) (.seq (.seq (.reg 4) (.cond (.tmp 18) (.reg 5) (.skip))) (.seq (.reg 6) (.seq (.reg 7) (.ret)))))) (fnQ c68 e G) ρ)) : E L (cal e Try.prog 68 args G) :=
  d_fn (c := c68) Try.func68 (by kernel_rfl) (by kernel_rfl) (by kernel_rfl) c68_ok (by kernel_rfl) (by kernel_rfl) hρ hs h
/-! gharry.disk.whole -/
noncomputable def c69 : Cfg := { P := Try.prog, n := 9, T := TT, body := (Try.f69.body).getD .skip, res := Try.f69.results.toList, li := lk [] [(0, [0]), (1, [0])], lo := lk [] [(0, [0]), (1, [2]), (1000000, [2])], ord := lk (false, []) [] }
@[go_sem] theorem c69_i0 : c69.li 0 = [0] := rfl
@[go_sem] theorem c69_i1 : c69.li 1 = [0] := rfl
@[go_sem] theorem c69_r0 (s0 : List UInt8) (K : Env → W) : RP c69 0 [(0, str s0)] K =
    (K [(0, str s0)]) := by kernel_rfl
@[go_sem] theorem c69_r1 (s0 : List UInt8) (K : Env → W) : RP c69 1 [(0, str s0)] K =
    (cal eS Try.prog 87 #[str (([0] : List UInt8)), .int .i64 ((IntKind.wrap .i64 ((64 : Int) - ((s0).length : Int))))] fun (y1_ : List UInt8) => (rq (((s0).length : Int) + ((y1_).length : Int) ≤ 9223372036854775807) (K [(2, str ((s0 ++ y1_)))]))) := by kernel_rfl
@[go_sem] theorem c69_o : c69.lo 1000000 = [2] := rfl
@[go_sem] theorem c69_e (t2 : List UInt8) (k : Value → W) : RTp c69 [(2, str t2)] k = (k (str t2)) := by kernel_rfl
theorem c69_ok : (c69.P.follows .mixedOrders && okc c69 c69.body) = true := by kernel_rfl
theorem c69_fn {e : Enc} {args : Array Value} {G : e.α → W} {L : List HP} {ρ : Env} (hρ : envA 0 args.toList = ρ) (hs : Nat.ble args.size 9 = true) (h : E L (D c69 (.seq (.reg 0) (.seq (.reg 1) (.ret))) (fnQ c69 e G) ρ)) : E L (cal e Try.prog 69 args G) :=
  d_fn (c := c69) Try.func69 (by kernel_rfl) (by kernel_rfl) (by kernel_rfl) c69_ok (by kernel_rfl) (by kernel_rfl) hρ hs h
/-! (*gharry.disk.Disk).cut -/
noncomputable def c70 : Cfg := { P := Try.prog, n := 50, T := TT, body := (Try.f70.body).getD .skip, res := Try.f70.results.toList, li := lk [] [(0, [0, 1]), (1, [0, 1, 7, 8, 9]), (2, [0, 1, 7, 8, 9]), (3, [0, 1, 4, 5, 7, 8, 9]), (4, [0, 1, 5, 7, 8, 9]), (5, [0, 1, 7, 8, 9]), (6, [0]), (7, [0]), (8, [0])], lo := lk [] [(0, [0, 1, 7, 8, 9]), (1, [0, 1, 7, 8, 9, 10]), (2, [0, 1, 4, 5, 7, 8, 9]), (3, [0, 1, 5, 7, 8, 9, 19]), (4, [0, 1, 7, 8, 9]), (5, [0, 1, 7, 8, 9]), (6, [0]), (7, [0]), (8, []), (1000000, [])], ord := lk (false, []) [(4, (true, [(0, 1), (1, 1), (2, 1), (3, 0), (4, 1), (5, 1), (6, 1), (7, 1), (8, 0), (9, 1), (10, 0), (11, 1), (12, 4)]))] }
@[go_sem] theorem c70_i0 : c70.li 0 = [0, 1] := rfl
@[go_sem] theorem c70_i1 : c70.li 1 = [0, 1, 7, 8, 9] := rfl
@[go_sem] theorem c70_i2 : c70.li 2 = [0, 1, 7, 8, 9] := rfl
@[go_sem] theorem c70_i3 : c70.li 3 = [0, 1, 4, 5, 7, 8, 9] := rfl
@[go_sem] theorem c70_i4 : c70.li 4 = [0, 1, 5, 7, 8, 9] := rfl
@[go_sem] theorem c70_i5 : c70.li 5 = [0, 1, 7, 8, 9] := rfl
@[go_sem] theorem c70_i6 : c70.li 6 = [0] := rfl
@[go_sem] theorem c70_i7 : c70.li 7 = [0] := rfl
@[go_sem] theorem c70_i8 : c70.li 8 = [0] := rfl
@[go_sem] theorem c70_r0 (d0 : Option Addr) (keep1 : Int) (K : Env → W) : RP c70 0 [(0, .pointer d0), (1, .int .u64 keep1)] K =
    (cal eSl Try.prog 43 #[.pointer d0] fun (y1_ : (Option Addr × Nat × Nat)) => (K [(0, .pointer d0), (1, .int .u64 keep1), (7, .slice y1_.1 y1_.2.1 y1_.2.2), (8, .int .i64 ((y1_.2.1 : Int))), (9, .int .i64 ((0 : Int)))])) := by kernel_rfl
@[go_sem] theorem c70_r1 (d0 : Option Addr) (keep1 : Int) (t7p : Option Addr) (t7n t7c : Nat) (t8 : Int) (t9 : Int) (K : Env → W) : RP c70 1 [(0, .pointer d0), (1, .int .u64 keep1), (7, .slice t7p t7n t7c), (8, .int .i64 t8), (9, .int .i64 t9)] K =
    (K [(0, .pointer d0), (1, .int .u64 keep1), (7, .slice t7p t7n t7c), (8, .int .i64 t8), (9, .int .i64 t9), (10, .bool ((decide (t9 < t8))))]) := by kernel_rfl
@[go_sem] theorem c70_r2 (d0 : Option Addr) (keep1 : Int) (t7p : Option Addr) (t7n t7c : Nat) (t8 : Int) (t9 : Int) (K : Env → W) : RP c70 2 [(0, .pointer d0), (1, .int .u64 keep1), (7, .slice t7p t7n t7c), (8, .int .i64 t8), (9, .int .i64 t9)] K =
    (rq (0 ≤ t9 ∧ t9 < (t7n : Int)) (nn t7p fun y1_ => (ld eI ((Addr.add y1_ ((t9).toNat * 1))) fun (y2_ : Int) => (K [(0, .pointer d0), (1, .int .u64 keep1), (4, .int .i64 t9), (5, .int .i64 y2_), (7, .slice t7p t7n t7c), (8, .int .i64 t8), (9, .int .i64 t9)])))) := by kernel_rfl
@[go_sem] theorem c70_r3 (d0 : Option Addr) (keep1 : Int) (k4 : Int) (i5 : Int) (t7p : Option Addr) (t7n t7c : Nat) (t8 : Int) (t9 : Int) (K : Env → W) : RP c70 3 [(0, .pointer d0), (1, .int .u64 keep1), (4, .int .i64 k4), (5, .int .i64 i5), (7, .slice t7p t7n t7c), (8, .int .i64 t8), (9, .int .i64 t9)] K =
    (rq ((64 : Int) ≠ 0) (rq (0 ≤ ((k4).tmod ((64 : Int)))) (K [(0, .pointer d0), (1, .int .u64 keep1), (5, .int .i64 i5), (7, .slice t7p t7n t7c), (8, .int .i64 t8), (9, .int .i64 t9), (19, .bool (((bits .and .u64 (((keep1).fdiv (2 ^ (min (((k4).tmod ((64 : Int)))).toNat 64)))) ((1 : Int))) == (1 : Int))))]))) := by kernel_rfl
@[go_sem] theorem c70_r4 (d0 : Option Addr) (keep1 : Int) (i5 : Int) (t7p : Option Addr) (t7n t7c : Nat) (t8 : Int) (t9 : Int) (K : Env → W) : RP c70 4 [(0, .pointer d0), (1, .int .u64 keep1), (5, .int .i64 i5), (7, .slice t7p t7n t7c), (8, .int .i64 t8), (9, .int .i64 t9)] K =
    (ph fun S0 => (nn d0 fun y1_ => (ldq S0 eSl y1_ fun (y2_ : (Option Addr × Nat × Nat)) => (nn d0 fun y3_ => (ldq S0 eM ((y3_.add 1)) fun (y4_ : Option Nat) => (valq S0 eS Try.prog (oLookup 57 (.map y4_) (.int .i64 i5) false) fun (y5_ : List UInt8) => (rq (0 ≤ i5 ∧ i5 < (y2_.2.1 : Int)) (nn y2_.1 fun y6_ => (st ((Addr.add y6_ ((i5).toNat * 1))) (str y5_) (K [(0, .pointer d0), (1, .int .u64 keep1), (7, .slice t7p t7n t7c), (8, .int .i64 t8), (9, .int .i64 t9)])))))))))) := by kernel_rfl
@[go_sem] theorem c70_r5 (d0 : Option Addr) (keep1 : Int) (t7p : Option Addr) (t7n t7c : Nat) (t8 : Int) (t9 : Int) (K : Env → W) : RP c70 5 [(0, .pointer d0), (1, .int .u64 keep1), (7, .slice t7p t7n t7c), (8, .int .i64 t8), (9, .int .i64 t9)] K =
    (K [(0, .pointer d0), (1, .int .u64 keep1), (7, .slice t7p t7n t7c), (8, .int .i64 t8), (9, .int .i64 ((IntKind.wrap .i64 (t9 + (1 : Int)))))]) := by kernel_rfl
@[go_sem] theorem c70_r6 (d0 : Option Addr) (K : Env → W) : RP c70 6 [(0, .pointer d0)] K =
    (nn d0 fun y1_ => (ld eM ((y1_.add 1)) fun (y2_ : Option Nat) => (val eN Try.prog (oB_clear #[57] 0 #[.map y2_]) fun (y3_ : Unit) => (K [(0, .pointer d0)])))) := by kernel_rfl
@[go_sem] theorem c70_r7 (d0 : Option Addr) (K : Env → W) : RP c70 7 [(0, .pointer d0)] K =
    (nn d0 fun y1_ => (st ((y1_.add 2)) (.bool false) (nn d0 fun y2_ => (st ((y2_.add 3)) (.int .i64 ((-1 : Int))) (K [(0, .pointer d0)]))))) := by kernel_rfl
@[go_sem] theorem c70_r8 (d0 : Option Addr) (K : Env → W) : RP c70 8 [(0, .pointer d0)] K =
    (nn d0 fun y1_ => (ld eI ((y1_.add 6)) fun (y2_ : Int) => (nn d0 fun y3_ => (st ((y3_.add 6)) (.int .i64 ((IntKind.wrap .i64 (y2_ + (1 : Int))))) (K []))))) := by kernel_rfl
@[go_sem] theorem c70_o : c70.lo 1000000 = [] := rfl
@[go_sem] theorem c70_e (k : Value → W) : RTp c70 [] k = (k (.tuple #[])) := by kernel_rfl
theorem c70_ok : (c70.P.follows .mixedOrders && okc c70 c70.body) = true := by kernel_rfl
theorem c70_fn {e : Enc} {args : Array Value} {G : e.α → W} {L : List HP} {ρ : Env} (hρ : envA 0 args.toList = ρ) (hs : Nat.ble args.size 50 = true) (h : E L (D c70 (.seq (.seq (.reg 0) (.block 0 (.loop (.seq (.reg 1) (.seq (.cond (.tmp 10) (.skip) (.exit 0)) (.seq (.block 1 (.seq (.reg 2) (.seq (.reg 3) (.cond (.tmp 19) (.reg 4) (.skip))))) (.reg 5))))))) (.seq (.reg 6) (.seq (.reg 7) (.reg 8)))) (fnQ c70 e G) ρ)) : E L (cal e Try.prog 70 args G) :=
  d_fn (c := c70) Try.func70 (by kernel_rfl) (by kernel_rfl) (by kernel_rfl) c70_ok (by kernel_rfl) (by kernel_rfl) hρ hs h
-- loop (first region 1): live slots 0:d0 1:keep1 7:t7 8:t8 9:t9, of which it writes [9]
end Go.Sp
