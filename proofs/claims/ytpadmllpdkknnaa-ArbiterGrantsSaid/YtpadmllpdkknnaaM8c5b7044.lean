/- Texts of a proof, one behind the other: T Gk0 E1 E2 N2 N1 Gj0 N3 Sh Gd0 D1. No condition. -/
import Derived.Test.YtpadmllpdkknnaaM012676a8
import Derived.Test.YtpadmllpdkknnaaProg
import Derived.Shelf.Sort.Plain
import Derived.Shelf.Slices.In.SortNone
import Derived.Shelf.Strings.Repeat
/- The Go types of the program as Lean structures. Written by my own generator. -/
namespace Go.Sp
open Go
set_option maxRecDepth 100000
set_option linter.unusedVariables false
structure runtime_boundsError where
  x : Int
  y : Int
  signed : Bool
  code : Int
  deriving DecidableEq
def v_runtime_boundsError (x : runtime_boundsError) : Value := .agg #[.int .i64 x.x, .int .i64 x.y, .bool x.signed, .int .u8 x.code]
abbrev e_runtime_boundsError : Enc := ⟨runtime_boundsError, v_runtime_boundsError⟩
structure runtime_errorAddressString where
  msg : List UInt8
  addr : Int
  deriving DecidableEq
def v_runtime_errorAddressString (x : runtime_errorAddressString) : Value := .agg #[str x.msg, .int .u64 x.addr]
abbrev e_runtime_errorAddressString : Enc := ⟨runtime_errorAddressString, v_runtime_errorAddressString⟩
structure maps_unhashableTypeError where
  typ : Option Addr
  deriving DecidableEq
def v_maps_unhashableTypeError (x : maps_unhashableTypeError) : Value := .agg #[.pointer x.typ]
abbrev e_maps_unhashableTypeError : Enc := ⟨maps_unhashableTypeError, v_maps_unhashableTypeError⟩
structure base_Base where
  Node : Int
  Boot : Int
  Gen : Int
  Check : Int
  Redo : Int
  Seen : Int
  Joined : Int
  deriving DecidableEq
def v_base_Base (x : base_Base) : Value := .agg #[.int .i64 x.Node, .int .i64 x.Boot, .int .i64 x.Gen, .int .i64 x.Check, .int .i64 x.Redo, .int .i64 x.Seen, .int .i64 x.Joined]
abbrev e_base_Base : Enc := ⟨base_Base, v_base_Base⟩
structure gharrylaw03_plain where
  l : (Option Addr × Nat × Nat)
  down : Bool
  armed : Bool
  left : Int
  keep : Int
  acts : Int
  downs : Int
  deriving DecidableEq
def v_gharrylaw03_plain (x : gharrylaw03_plain) : Value := .agg #[.slice x.l.1 x.l.2.1 x.l.2.2, .bool x.down, .bool x.armed, .int .i64 x.left, .int .u64 x.keep, .int .i64 x.acts, .int .i64 x.downs]
abbrev e_gharrylaw03_plain : Enc := ⟨gharrylaw03_plain, v_gharrylaw03_plain⟩
structure gharrylaw03_sector where
  sure : List UInt8
  now : List UInt8
  waits : Bool
  deriving DecidableEq
def v_gharrylaw03_sector (x : gharrylaw03_sector) : Value := .agg #[str x.sure, str x.now, .bool x.waits]
abbrev e_gharrylaw03_sector : Enc := ⟨gharrylaw03_sector, v_gharrylaw03_sector⟩
structure gharrylaw03_Op where
  Kind : Int
  I : Int
  S : List UInt8
  Keep : Int
  deriving DecidableEq
def v_gharrylaw03_Op (x : gharrylaw03_Op) : Value := .agg #[.int .i64 x.Kind, .int .i64 x.I, str x.S, .int .u64 x.Keep]
abbrev e_gharrylaw03_Op : Enc := ⟨gharrylaw03_Op, v_gharrylaw03_Op⟩
structure disk_Disk where
  sure : (Option Addr × Nat × Nat)
  wait : Option Nat
  up : Bool
  fuse : Int
  keep : Int
  acts : Int
  downs : Int
  deriving DecidableEq
def v_disk_Disk (x : disk_Disk) : Value := .agg #[.slice x.sure.1 x.sure.2.1 x.sure.2.2, .map x.wait, .bool x.up, .int .i64 x.fuse, .int .u64 x.keep, .int .i64 x.acts, .int .i64 x.downs]
abbrev e_disk_Disk : Enc := ⟨disk_Disk, v_disk_Disk⟩
structure gharrylaw06_Op where
  Id : Int
  C : Int
  Sync : Bool
  deriving DecidableEq
def v_gharrylaw06_Op (x : gharrylaw06_Op) : Value := .agg #[.int .i64 x.Id, .int .u8 x.C, .bool x.Sync]
abbrev e_gharrylaw06_Op : Enc := ⟨gharrylaw06_Op, v_gharrylaw06_Op⟩
structure arbiter_grant where
  epoch : Int
  holder : Int
  deriving DecidableEq
def v_arbiter_grant (x : arbiter_grant) : Value := .agg #[.int .i64 x.epoch, .int .i64 x.holder]
abbrev e_arbiter_grant : Enc := ⟨arbiter_grant, v_arbiter_grant⟩
structure arbiter_Arbiter where
  disk : Option Addr
  last : arbiter_grant
  dead : Bool
  deriving DecidableEq
def v_arbiter_Arbiter (x : arbiter_Arbiter) : Value := .agg #[.pointer x.disk, .int .i64 x.last.epoch, .int .i64 x.last.holder, .bool x.dead]
abbrev e_arbiter_Arbiter : Enc := ⟨arbiter_Arbiter, v_arbiter_Arbiter⟩
structure gharrylaw18_Op where
  Node : Int
  Epoch : Int
  Acts : Int
  Keep : Int
  deriving DecidableEq
def v_gharrylaw18_Op (x : gharrylaw18_Op) : Value := .agg #[.int .i64 x.Node, .int .i64 x.Epoch, .int .i64 x.Acts, .int .u64 x.Keep]
abbrev e_gharrylaw18_Op : Enc := ⟨gharrylaw18_Op, v_gharrylaw18_Op⟩
structure store_Store where
  disk : Option Addr
  base : Int
  pages : Int
  gen : Int
  deriving DecidableEq
def v_store_Store (x : store_Store) : Value := .agg #[.pointer x.disk, .int .i64 x.base, .int .i64 x.pages, .int .i64 x.gen]
abbrev e_store_Store : Enc := ⟨store_Store, v_store_Store⟩
structure pack_Reader where
  s : List UInt8
  f_at : Int
  e : Int
  deriving DecidableEq
def v_pack_Reader (x : pack_Reader) : Value := .agg #[str x.s, .int .i64 x.f_at, .int .i64 x.e]
abbrev e_pack_Reader : Enc := ⟨pack_Reader, v_pack_Reader⟩
structure pack_Writer where
  s : List UInt8
  e : Int
  deriving DecidableEq
def v_pack_Writer (x : pack_Writer) : Value := .agg #[str x.s, .int .i64 x.e]
abbrev e_pack_Writer : Enc := ⟨pack_Writer, v_pack_Writer⟩
structure strings_Builder where
  addr : Option Addr
  buf : (Option Addr × Nat × Nat)
  deriving DecidableEq
def v_strings_Builder (x : strings_Builder) : Value := .agg #[.pointer x.addr, .slice x.buf.1 x.buf.2.1 x.buf.2.2]
abbrev e_strings_Builder : Enc := ⟨strings_Builder, v_strings_Builder⟩
structure runtime_TypeAssertionError where
  _interface : Option Addr
  concrete : Option Addr
  asserted : Option Addr
  missingMethod : List UInt8
  deriving DecidableEq
def v_runtime_TypeAssertionError (x : runtime_TypeAssertionError) : Value := .agg #[.pointer x._interface, .pointer x.concrete, .pointer x.asserted, str x.missingMethod]
abbrev e_runtime_TypeAssertionError : Enc := ⟨runtime_TypeAssertionError, v_runtime_TypeAssertionError⟩
def TT : Nat → Enc := lk eV [(0, eN), (2, eI), (3, eI), (4, eB), (5, eU8), (6, eU8), (8, e_runtime_boundsError), (9, eS), (10, eS), (11, eS), (12, eU64), (14, e_runtime_errorAddressString), (15, eP), (16, eP), (17, eP), (19, e_maps_unhashableTypeError), (23, eP), (24, eI), (25, (eT2 eP eI)), (30, eSl), (31, eU64), (34, (eT2 eS eI)), (39, e_base_Base), (40, (eT2 e_base_Base eI)), (42, (eT2 eS eB)), (45, eSl), (46, eP), (47, eSl), (49, e_gharrylaw03_plain), (51, e_gharrylaw03_sector), (54, e_gharrylaw03_Op), (57, eM), (59, e_disk_Disk), (61, eSl), (66, eSl), (67, eP), (68, (eT2 eP eP)), (73, e_gharrylaw06_Op), (74, (eT3 eS eI eI)), (77, (eT2 eP eI)), (83, (eA eS)), (86, eSl), (87, eP), (88, (eT2 eP eP)), (90, (eT3 eI eI eI)), (97, (eT2 eP eI)), (99, (eT2 eI eI)), (103, e_arbiter_grant), (105, e_arbiter_Arbiter), (106, eSl), (108, e_gharrylaw18_Op), (113, (eT3 eI eI eI)), (115, eP), (124, e_store_Store), (125, eSl), (130, e_pack_Reader), (132, eU64), (135, eP), (137, e_pack_Writer), (141, (eT2 eU64 eU64)), (144, eP), (146, e_strings_Builder), (150, (eT2 eI eV)), (154, eI), (155, (eT2 eI eI)), (159, (eT2 eI eB)), (162, eU32), (167, (eT2 eU32 eU32)), (169, (eT2 eU64 eU64)), (171, eP), (172, eU64), (176, eP), (181, eP), (184, e_runtime_TypeAssertionError), (185, (eA eP)), (188, eU8), (189, eU8)]
end Go.Sp
/- What each region of the Go functions does. Written by my own generator. -/
namespace Go.Sp
open Go
set_option maxRecDepth 100000
set_option linter.unusedVariables false
open Go.Proofs
/-! gharry.pack.Read -/
noncomputable def c72 : Cfg := { P := Try.prog, n := 6, T := TT, body := (Try.f72.body).getD .skip, res := Try.f72.results.toList, li := lk [] [(0, [0]), (1, [0])], lo := lk [] [(0, [0]), (1, [2]), (1000000, [2])], ord := lk (false, []) [] }
@[go_sem] theorem c72_i0 : c72.li 0 = [0] := rfl
@[go_sem] theorem c72_i1 : c72.li 1 = [0] := rfl
@[go_sem] theorem c72_r0 (s0 : List UInt8) (K : Env → W) : RP c72 0 [(0, str s0)] K =
    (K [(0, str s0)]) := by kernel_rfl
@[go_sem] theorem c72_r1 (s0 : List UInt8) (K : Env → W) : RP c72 1 [(0, str s0)] K =
    (nwc #[str (((⟨s0, (0 : Int), (0 : Int)⟩ : pack_Reader)).s), .int .i64 (((⟨s0, (0 : Int), (0 : Int)⟩ : pack_Reader)).f_at), .int .i64 (((⟨s0, (0 : Int), (0 : Int)⟩ : pack_Reader)).e)] 130 fun y1_ => (K [(2, .pointer (some y1_))])) := by kernel_rfl
@[go_sem] theorem c72_o : c72.lo 1000000 = [2] := rfl
@[go_sem] theorem c72_e (t2 : Option Addr) (k : Value → W) : RTp c72 [(2, .pointer t2)] k = (k (.pointer t2)) := by kernel_rfl
theorem c72_ok : (c72.P.follows .mixedOrders && okc c72 c72.body) = true := by kernel_rfl
theorem c72_fn {e : Enc} {args : Array Value} {G : e.α → W} {L : List HP} {ρ : Env} (hρ : envA 0 args.toList = ρ) (hs : Nat.ble args.size 6 = true) (h : E L (D c72 (.seq (.reg 0) (.seq (.reg 1) (.ret))) (fnQ c72 e G) ρ)) : E L (cal e Try.prog 72 args G) :=
  d_fn (c := c72) Try.func72 (by kernel_rfl) (by kernel_rfl) (by kernel_rfl) c72_ok (by kernel_rfl) (by kernel_rfl) hρ hs h
/-! (*gharry.pack.Reader).Text -/
noncomputable def c73 : Cfg := { P := Try.prog, n := 21, T := TT, body := (Try.f73.body).getD .skip, res := Try.f73.results.toList, li := lk [] [(0, [0, 1]), (1, [0, 1]), (2, [0, 1, 5]), (3, [0, 5]), (4, [0, 5])], lo := lk [] [(0, [0, 1]), (1, [0, 1, 5]), (2, [0, 5, 15]), (3, [0, 5]), (4, [4]), (1000000, [4])], ord := lk (false, []) [] }
@[go_sem] theorem c73_i0 : c73.li 0 = [0, 1] := rfl
@[go_sem] theorem c73_i1 : c73.li 1 = [0, 1] := rfl
@[go_sem] theorem c73_i2 : c73.li 2 = [0, 1, 5] := rfl
@[go_sem] theorem c73_i3 : c73.li 3 = [0, 5] := rfl
@[go_sem] theorem c73_i4 : c73.li 4 = [0, 5] := rfl
@[go_sem] theorem c73_r0 (r0 : Option Addr) (most1 : Int) (K : Env → W) : RP c73 0 [(0, .pointer r0), (1, .int .i64 most1)] K =
    (K [(0, .pointer r0), (1, .int .i64 most1)]) := by kernel_rfl
@[go_sem] theorem c73_r1 (r0 : Option Addr) (most1 : Int) (K : Env → W) : RP c73 1 [(0, .pointer r0), (1, .int .i64 most1)] K =
    (cal eI Try.prog 75 #[.pointer r0, .int .i64 ((2 : Int))] fun (y1_ : Int) => (K [(0, .pointer r0), (1, .int .i64 most1), (5, .int .i64 y1_)])) := by kernel_rfl
@[go_sem] theorem c73_r2 (r0 : Option Addr) (most1 : Int) (n5 : Int) (K : Env → W) : RP c73 2 [(0, .pointer r0), (1, .int .i64 most1), (5, .int .i64 n5)] K =
    (cal eB Try.prog 88 #[.pointer r0] fun (y1_ : Bool) => (cnd ((!y1_)) (K [(0, .pointer r0), (5, .int .i64 n5), (15, .bool ((decide (most1 < n5))))]) (K [(0, .pointer r0), (5, .int .i64 n5), (15, .bool false)]))) := by kernel_rfl
@[go_sem] theorem c73_r3 (r0 : Option Addr) (n5 : Int) (K : Env → W) : RP c73 3 [(0, .pointer r0), (5, .int .i64 n5)] K =
    (cal eN Try.prog 89 #[.pointer r0, .int .i64 ((3 : Int))] fun (y1_ : Unit) => (K [(0, .pointer r0), (5, .int .i64 n5)])) := by kernel_rfl
@[go_sem] theorem c73_r4 (r0 : Option Addr) (n5 : Int) (K : Env → W) : RP c73 4 [(0, .pointer r0), (5, .int .i64 n5)] K =
    (cal eS Try.prog 90 #[.pointer r0, .int .i64 n5] fun (y1_ : List UInt8) => (K [(4, str y1_)])) := by kernel_rfl
@[go_sem] theorem c73_o : c73.lo 1000000 = [4] := rfl
@[go_sem] theorem c73_e (t4 : List UInt8) (k : Value → W) : RTp c73 [(4, str t4)] k = (k (str t4)) := by kernel_rfl
theorem c73_ok : (c73.P.follows .mixedOrders && okc c73 c73.body) = true := by kernel_rfl
theorem c73_fn {e : Enc} {args : Array Value} {G : e.α → W} {L : List HP} {ρ : Env} (hρ : envA 0 args.toList = ρ) (hs : Nat.ble args.size 21 = true) (h : E L (D c73 (.seq (.reg 0) (.seq (.reg 1) (.seq (.seq (.reg 2) (.cond (.tmp 15) (.reg 3) (.skip))) (.seq (.reg 4) (.ret))))) (fnQ c73 e G) ρ)) : E L (cal e Try.prog 73 args G) :=
  d_fn (c := c73) Try.func73 (by kernel_rfl) (by kernel_rfl) (by kernel_rfl) c73_ok (by kernel_rfl) (by kernel_rfl) hρ hs h
/-! (*gharry.pack.Reader).Err -/
noncomputable def c74 : Cfg := { P := Try.prog, n := 9, T := TT, body := (Try.f74.body).getD .skip, res := Try.f74.results.toList, li := lk [] [(0, [0]), (1, [0]), (2, []), (3, [0])], lo := lk [] [(0, [0]), (1, [0, 4]), (2, [2]), (3, [2]), (1000000, [2])], ord := lk (false, []) [] }
@[go_sem] theorem c74_i0 : c74.li 0 = [0] := rfl
@[go_sem] theorem c74_i1 : c74.li 1 = [0] := rfl
@[go_sem] theorem c74_i2 : c74.li 2 = [] := rfl
@[go_sem] theorem c74_i3 : c74.li 3 = [0] := rfl
@[go_sem] theorem c74_r0 (r0 : Option Addr) (K : Env → W) : RP c74 0 [(0, .pointer r0)] K =
    (K [(0, .pointer r0)]) := by kernel_rfl
@[go_sem] theorem c74_r1 (r0 : Option Addr) (K : Env → W) : RP c74 1 [(0, .pointer r0)] K =
    (K [(0, .pointer r0), (4, .bool ((r0).isNone))]) := by kernel_rfl
@[go_sem] theorem c74_r2 (K : Env → W) : RP c74 2 [] K =
    (K [(2, .int .i64 ((11 : Int)))]) := by kernel_rfl
@[go_sem] theorem c74_r3 (r0 : Option Addr) (K : Env → W) : RP c74 3 [(0, .pointer r0)] K =
    (nn r0 fun y1_ => (ld eI ((y1_.add 2)) fun (y2_ : Int) => (K [(2, .int .i64 y2_)]))) := by kernel_rfl
@[go_sem] theorem c74_o : c74.lo 1000000 = [2] := rfl
@[go_sem] theorem c74_e (t2 : Int) (k : Value → W) : RTp c74 [(2, .int .i64 t2)] k = (k (.int .i64 t2)) := by kernel_rfl
theorem c74_ok : (c74.P.follows .mixedOrders && okc c74 c74.body) = true := by kernel_rfl
theorem c74_fn {e : Enc} {args : Array Value} {G : e.α → W} {L : List HP} {ρ : Env} (hρ : envA 0 args.toList = ρ) (hs : Nat.ble args.size 9 = true) (h : E L (D c74 (.seq (.reg 0) (.seq (.seq (.reg 1) (.cond (.tmp 4) (.seq (.reg 2) (.ret)) (.skip))) (.seq (.reg 3) (.ret)))) (fnQ c74 e G) ρ)) : E L (cal e Try.prog 74 args G) :=
  d_fn (c := c74) Try.func74 (by kernel_rfl) (by kernel_rfl) (by kernel_rfl) c74_ok (by kernel_rfl) (by kernel_rfl) hρ hs h
/-! (*gharry.pack.Reader).Num -/
noncomputable def c75 : Cfg := { P := Try.prog, n := 37, T := TT, body := (Try.f75.body).getD .skip, res := Try.f75.results.toList, li := lk [] [(0, [0, 1]), (1, [0, 1]), (2, [0, 1]), (3, [0, 1]), (4, [0, 1, 5]), (5, [5, 24, 25, 26]), (6, [5, 24, 25, 26]), (7, [5, 7, 24, 25, 26]), (8, [5, 24, 25, 26]), (9, [5])], lo := lk [] [(0, [0, 1]), (1, [0, 1, 18]), (2, [0, 1]), (3, [0, 1, 5]), (4, [5, 24, 25, 26]), (5, [5, 24, 25, 26, 27]), (6, [5, 7, 24, 25, 26]), (7, [5, 24, 25, 26]), (8, [5, 24, 25, 26]), (9, [4]), (1000000, [4])], ord := lk (false, []) [] }
@[go_sem] theorem c75_i0 : c75.li 0 = [0, 1] := rfl
@[go_sem] theorem c75_i1 : c75.li 1 = [0, 1] := rfl
@[go_sem] theorem c75_i2 : c75.li 2 = [0, 1] := rfl
@[go_sem] theorem c75_i3 : c75.li 3 = [0, 1] := rfl
@[go_sem] theorem c75_i4 : c75.li 4 = [0, 1, 5] := rfl
@[go_sem] theorem c75_i5 : c75.li 5 = [5, 24, 25, 26] := rfl
@[go_sem] theorem c75_i6 : c75.li 6 = [5, 24, 25, 26] := rfl
@[go_sem] theorem c75_i7 : c75.li 7 = [5, 7, 24, 25, 26] := rfl
@[go_sem] theorem c75_i8 : c75.li 8 = [5, 24, 25, 26] := rfl
@[go_sem] theorem c75_i9 : c75.li 9 = [5] := rfl
@[go_sem] theorem c75_r0 (r0 : Option Addr) (width1 : Int) (K : Env → W) : RP c75 0 [(0, .pointer r0), (1, .int .i64 width1)] K =
    (K [(0, .pointer r0), (1, .int .i64 width1)]) := by kernel_rfl
@[go_sem] theorem c75_r1 (r0 : Option Addr) (width1 : Int) (K : Env → W) : RP c75 1 [(0, .pointer r0), (1, .int .i64 width1)] K =
    (cal eB Try.prog 88 #[.pointer r0] fun (y1_ : Bool) => (cnd ((!y1_)) (cnd ((decide (width1 < (1 : Int)))) (K [(0, .pointer r0), (1, .int .i64 width1), (18, .bool true)]) (K [(0, .pointer r0), (1, .int .i64 width1), (18, .bool ((decide ((6 : Int) < width1))))])) (K [(0, .pointer r0), (1, .int .i64 width1), (18, .bool false)]))) := by kernel_rfl
@[go_sem] theorem c75_r2 (r0 : Option Addr) (width1 : Int) (K : Env → W) : RP c75 2 [(0, .pointer r0), (1, .int .i64 width1)] K =
    (cal eN Try.prog 89 #[.pointer r0, .int .i64 ((1 : Int))] fun (y1_ : Unit) => (K [(0, .pointer r0), (1, .int .i64 width1)])) := by kernel_rfl
@[go_sem] theorem c75_r3 (r0 : Option Addr) (width1 : Int) (K : Env → W) : RP c75 3 [(0, .pointer r0), (1, .int .i64 width1)] K =
    (K [(0, .pointer r0), (1, .int .i64 width1), (5, .int .i64 ((0 : Int)))]) := by kernel_rfl
@[go_sem] theorem c75_r4 (r0 : Option Addr) (width1 : Int) (n5 : Int) (K : Env → W) : RP c75 4 [(0, .pointer r0), (1, .int .i64 width1), (5, .int .i64 n5)] K =
    (cal eS Try.prog 90 #[.pointer r0, .int .i64 width1] fun (y1_ : List UInt8) => (val eSl Try.prog (oConv 9 125 (str y1_)) fun (y2_ : (Option Addr × Nat × Nat)) => (K [(5, .int .i64 n5), (24, .slice y2_.1 y2_.2.1 y2_.2.2), (25, .int .i64 ((y2_.2.1 : Int))), (26, .int .i64 ((0 : Int)))]))) := by kernel_rfl
@[go_sem] theorem c75_r5 (n5 : Int) (t24p : Option Addr) (t24n t24c : Nat) (t25 : Int) (t26 : Int) (K : Env → W) : RP c75 5 [(5, .int .i64 n5), (24, .slice t24p t24n t24c), (25, .int .i64 t25), (26, .int .i64 t26)] K =
    (K [(5, .int .i64 n5), (24, .slice t24p t24n t24c), (25, .int .i64 t25), (26, .int .i64 t26), (27, .bool ((decide (t26 < t25))))]) := by kernel_rfl
@[go_sem] theorem c75_r6 (n5 : Int) (t24p : Option Addr) (t24n t24c : Nat) (t25 : Int) (t26 : Int) (K : Env → W) : RP c75 6 [(5, .int .i64 n5), (24, .slice t24p t24n t24c), (25, .int .i64 t25), (26, .int .i64 t26)] K =
    (rq (0 ≤ t26 ∧ t26 < (t24n : Int)) (nn t24p fun y1_ => (ld eU8 ((Addr.add y1_ ((t26).toNat * 1))) fun (y2_ : Int) => (K [(5, .int .i64 n5), (7, .int .u8 y2_), (24, .slice t24p t24n t24c), (25, .int .i64 t25), (26, .int .i64 t26)])))) := by kernel_rfl
@[go_sem] theorem c75_r7 (n5 : Int) (c7 : Int) (t24p : Option Addr) (t24n t24c : Nat) (t25 : Int) (t26 : Int) (K : Env → W) : RP c75 7 [(5, .int .i64 n5), (7, .int .u8 c7), (24, .slice t24p t24n t24c), (25, .int .i64 t25), (26, .int .i64 t26)] K =
    (rq (0 ≤ (8 : Int)) (K [(5, .int .i64 ((bits .or .i64 ((IntKind.wrap .i64 (n5 * 2 ^ (min ((8 : Int)).toNat 64)))) ((IntKind.wrap .i64 c7))))), (24, .slice t24p t24n t24c), (25, .int .i64 t25), (26, .int .i64 t26)])) := by kernel_rfl
@[go_sem] theorem c75_r8 (n5 : Int) (t24p : Option Addr) (t24n t24c : Nat) (t25 : Int) (t26 : Int) (K : Env → W) : RP c75 8 [(5, .int .i64 n5), (24, .slice t24p t24n t24c), (25, .int .i64 t25), (26, .int .i64 t26)] K =
    (K [(5, .int .i64 n5), (24, .slice t24p t24n t24c), (25, .int .i64 t25), (26, .int .i64 ((IntKind.wrap .i64 (t26 + (1 : Int)))))]) := by kernel_rfl
@[go_sem] theorem c75_r9 (n5 : Int) (K : Env → W) : RP c75 9 [(5, .int .i64 n5)] K =
    (K [(4, .int .i64 n5)]) := by kernel_rfl
@[go_sem] theorem c75_o : c75.lo 1000000 = [4] := rfl
@[go_sem] theorem c75_e (t4 : Int) (k : Value → W) : RTp c75 [(4, .int .i64 t4)] k = (k (.int .i64 t4)) := by kernel_rfl
theorem c75_ok : (c75.P.follows .mixedOrders && okc c75 c75.body) = true := by kernel_rfl
theorem c75_fn {e : Enc} {args : Array Value} {G : e.α → W} {L : List HP} {ρ : Env} (hρ : envA 0 args.toList = ρ) (hs : Nat.ble args.size 37 = true) (h : E L (D c75 (.seq (.reg 0) (.seq (.seq (.reg 1) (.cond (.tmp 18) (.reg 2) (.skip))) (.seq (.reg 3) (.seq (.seq (.reg 4) (.block 0 (.loop (.seq (.reg 5) (.seq (.cond (.tmp 27) (.skip) (.exit 0)) (.seq (.block 1 (.seq (.reg 6) (.reg 7))) (.reg 8))))))) (.seq (.reg 9) (.ret)))))) (fnQ c75 e G) ρ)) : E L (cal e Try.prog 75 args G) :=
  d_fn (c := c75) Try.func75 (by kernel_rfl) (by kernel_rfl) (by kernel_rfl) c75_ok (by kernel_rfl) (by kernel_rfl) hρ hs h
-- loop (first region 5): live slots 5:n5 24:t24 25:t25 26:t26, of which it writes [5, 26]
/-! (*gharry.pack.Reader).off -/
noncomputable def c88 : Cfg := { P := Try.prog, n := 12, T := TT, body := (Try.f88.body).getD .skip, res := Try.f88.results.toList, li := lk [] [(0, [0]), (1, [0])], lo := lk [] [(0, [0]), (1, [2]), (1000000, [2])], ord := lk (false, []) [] }
@[go_sem] theorem c88_i0 : c88.li 0 = [0] := rfl
@[go_sem] theorem c88_i1 : c88.li 1 = [0] := rfl
@[go_sem] theorem c88_r0 (r0 : Option Addr) (K : Env → W) : RP c88 0 [(0, .pointer r0)] K =
    (K [(0, .pointer r0)]) := by kernel_rfl
@[go_sem] theorem c88_r1 (r0 : Option Addr) (K : Env → W) : RP c88 1 [(0, .pointer r0)] K =
    (cnd ((r0).isNone) (K [(2, .bool true)]) (nn r0 fun y1_ => (ld eI ((y1_.add 2)) fun (y2_ : Int) => (K [(2, .bool ((y2_ != (0 : Int))))])))) := by kernel_rfl
@[go_sem] theorem c88_o : c88.lo 1000000 = [2] := rfl
@[go_sem] theorem c88_e (t2 : Bool) (k : Value → W) : RTp c88 [(2, .bool t2)] k = (k (.bool t2)) := by kernel_rfl
theorem c88_ok : (c88.P.follows .mixedOrders && okc c88 c88.body) = true := by kernel_rfl
theorem c88_fn {e : Enc} {args : Array Value} {G : e.α → W} {L : List HP} {ρ : Env} (hρ : envA 0 args.toList = ρ) (hs : Nat.ble args.size 12 = true) (h : E L (D c88 (.seq (.reg 0) (.seq (.reg 1) (.ret))) (fnQ c88 e G) ρ)) : E L (cal e Try.prog 88 args G) :=
  d_fn (c := c88) Try.func88 (by kernel_rfl) (by kernel_rfl) (by kernel_rfl) c88_ok (by kernel_rfl) (by kernel_rfl) hρ hs h
/-! (*gharry.pack.Reader).fail -/
noncomputable def c89 : Cfg := { P := Try.prog, n := 13, T := TT, body := (Try.f89.body).getD .skip, res := Try.f89.results.toList, li := lk [] [(0, [0, 1]), (1, [0, 1])], lo := lk [] [(0, [0, 1, 8]), (1, []), (1000000, [])], ord := lk (false, []) [] }
@[go_sem] theorem c89_i0 : c89.li 0 = [0, 1] := rfl
@[go_sem] theorem c89_i1 : c89.li 1 = [0, 1] := rfl
@[go_sem] theorem c89_r0 (r0 : Option Addr) (e1 : Int) (K : Env → W) : RP c89 0 [(0, .pointer r0), (1, .int .i64 e1)] K =
    (nn r0 fun y1_ => (ld eI ((y1_.add 2)) fun (y2_ : Int) => (K [(0, .pointer r0), (1, .int .i64 e1), (8, .bool ((y2_ == (0 : Int))))]))) := by kernel_rfl
@[go_sem] theorem c89_r1 (r0 : Option Addr) (e1 : Int) (K : Env → W) : RP c89 1 [(0, .pointer r0), (1, .int .i64 e1)] K =
    (nn r0 fun y1_ => (st ((y1_.add 2)) (.int .i64 e1) (K []))) := by kernel_rfl
@[go_sem] theorem c89_o : c89.lo 1000000 = [] := rfl
@[go_sem] theorem c89_e (k : Value → W) : RTp c89 [] k = (k (.tuple #[])) := by kernel_rfl
theorem c89_ok : (c89.P.follows .mixedOrders && okc c89 c89.body) = true := by kernel_rfl
theorem c89_fn {e : Enc} {args : Array Value} {G : e.α → W} {L : List HP} {ρ : Env} (hρ : envA 0 args.toList = ρ) (hs : Nat.ble args.size 13 = true) (h : E L (D c89 (.seq (.reg 0) (.cond (.tmp 8) (.reg 1) (.skip))) (fnQ c89 e G) ρ)) : E L (cal e Try.prog 89 args G) :=
  d_fn (c := c89) Try.func89 (by kernel_rfl) (by kernel_rfl) (by kernel_rfl) c89_ok (by kernel_rfl) (by kernel_rfl) hρ hs h
/-! (*gharry.pack.Reader).Raw -/
noncomputable def c90 : Cfg := { P := Try.prog, n := 51, T := TT, body := (Try.f90.body).getD .skip, res := Try.f90.results.toList, li := lk [] [(0, [0, 1]), (1, [0, 1]), (2, []), (3, [0, 1]), (4, [0]), (5, []), (6, [0, 1]), (7, [0]), (8, []), (9, [0, 1]), (10, [0, 1])], lo := lk [] [(0, [0, 1]), (1, [0, 1, 5]), (2, [4]), (3, [0, 1, 8]), (4, []), (5, [4]), (6, [0, 1, 13]), (7, []), (8, [4]), (9, [0, 1]), (10, [4]), (1000000, [4])], ord := lk (false, []) [(6, (true, [(0, 1), (1, 1), (2, 1), (3, 1), (4, 0), (5, 1), (6, 1), (7, 1), (8, 1), (9, 0), (10, 1), (11, 1), (12, 1)])), (10, (true, [(0, 1), (1, 1), (2, 1), (3, 0), (4, 1), (5, 1), (6, 1), (7, 0), (8, 1), (9, 1), (10, 1), (11, 1), (12, 1), (13, 0), (14, 1), (15, 1)]))] }
@[go_sem] theorem c90_i0 : c90.li 0 = [0, 1] := rfl
@[go_sem] theorem c90_i1 : c90.li 1 = [0, 1] := rfl
@[go_sem] theorem c90_i2 : c90.li 2 = [] := rfl
@[go_sem] theorem c90_i3 : c90.li 3 = [0, 1] := rfl
@[go_sem] theorem c90_i4 : c90.li 4 = [0] := rfl
@[go_sem] theorem c90_i5 : c90.li 5 = [] := rfl
@[go_sem] theorem c90_i6 : c90.li 6 = [0, 1] := rfl
@[go_sem] theorem c90_i7 : c90.li 7 = [0] := rfl
@[go_sem] theorem c90_i8 : c90.li 8 = [] := rfl
@[go_sem] theorem c90_i9 : c90.li 9 = [0, 1] := rfl
@[go_sem] theorem c90_i10 : c90.li 10 = [0, 1] := rfl
@[go_sem] theorem c90_r0 (r0 : Option Addr) (n1 : Int) (K : Env → W) : RP c90 0 [(0, .pointer r0), (1, .int .i64 n1)] K =
    (K [(0, .pointer r0), (1, .int .i64 n1)]) := by kernel_rfl
@[go_sem] theorem c90_r1 (r0 : Option Addr) (n1 : Int) (K : Env → W) : RP c90 1 [(0, .pointer r0), (1, .int .i64 n1)] K =
    (cal eB Try.prog 88 #[.pointer r0] fun (y1_ : Bool) => (K [(0, .pointer r0), (1, .int .i64 n1), (5, .bool y1_)])) := by kernel_rfl
@[go_sem] theorem c90_r2 (K : Env → W) : RP c90 2 [] K =
    (K [(4, str (([] : List UInt8)))]) := by kernel_rfl
@[go_sem] theorem c90_r3 (r0 : Option Addr) (n1 : Int) (K : Env → W) : RP c90 3 [(0, .pointer r0), (1, .int .i64 n1)] K =
    (K [(0, .pointer r0), (1, .int .i64 n1), (8, .bool ((decide (n1 < (0 : Int)))))]) := by kernel_rfl
@[go_sem] theorem c90_r4 (r0 : Option Addr) (K : Env → W) : RP c90 4 [(0, .pointer r0)] K =
    (cal eN Try.prog 89 #[.pointer r0, .int .i64 ((1 : Int))] fun (y1_ : Unit) => (K [])) := by kernel_rfl
@[go_sem] theorem c90_r5 (K : Env → W) : RP c90 5 [] K =
    (K [(4, str (([] : List UInt8)))]) := by kernel_rfl
@[go_sem] theorem c90_r6 (r0 : Option Addr) (n1 : Int) (K : Env → W) : RP c90 6 [(0, .pointer r0), (1, .int .i64 n1)] K =
    (ph fun S0 => (nn r0 fun y1_ => (ldq S0 eS y1_ fun (y2_ : List UInt8) => (nn r0 fun y3_ => (ldq S0 eI ((y3_.add 1)) fun (y4_ : Int) => (K [(0, .pointer r0), (1, .int .i64 n1), (13, .bool ((decide ((IntKind.wrap .i64 (((y2_).length : Int) - y4_)) < n1))))])))))) := by kernel_rfl
@[go_sem] theorem c90_r7 (r0 : Option Addr) (K : Env → W) : RP c90 7 [(0, .pointer r0)] K =
    (cal eN Try.prog 89 #[.pointer r0, .int .i64 ((2 : Int))] fun (y1_ : Unit) => (K [])) := by kernel_rfl
@[go_sem] theorem c90_r8 (K : Env → W) : RP c90 8 [] K =
    (K [(4, str (([] : List UInt8)))]) := by kernel_rfl
@[go_sem] theorem c90_r9 (r0 : Option Addr) (n1 : Int) (K : Env → W) : RP c90 9 [(0, .pointer r0), (1, .int .i64 n1)] K =
    (nn r0 fun y1_ => (ld eI ((y1_.add 1)) fun (y2_ : Int) => (nn r0 fun y3_ => (st ((y3_.add 1)) (.int .i64 ((IntKind.wrap .i64 (y2_ + n1)))) (K [(0, .pointer r0), (1, .int .i64 n1)]))))) := by kernel_rfl
@[go_sem] theorem c90_r10 (r0 : Option Addr) (n1 : Int) (K : Env → W) : RP c90 10 [(0, .pointer r0), (1, .int .i64 n1)] K =
    (ph fun S0 => (nn r0 fun y1_ => (ldq S0 eS y1_ fun (y2_ : List UInt8) => (nn r0 fun y3_ => (ldq S0 eI ((y3_.add 1)) fun (y4_ : Int) => (nn r0 fun y5_ => (ldq S0 eI ((y5_.add 1)) fun (y6_ : Int) => (rq (0 ≤ ((IntKind.wrap .i64 (y4_ - n1)) : Int) ∧ (IntKind.wrap .i64 (y4_ - n1)) ≤ y6_ ∧ y6_ ≤ ((y2_).length : Int)) (K [(4, str ((ss y2_ ((IntKind.wrap .i64 (y4_ - n1))) y6_)))]))))))))) := by kernel_rfl
@[go_sem] theorem c90_o : c90.lo 1000000 = [4] := rfl
@[go_sem] theorem c90_e (t4 : List UInt8) (k : Value → W) : RTp c90 [(4, str t4)] k = (k (str t4)) := by kernel_rfl
theorem c90_ok : (c90.P.follows .mixedOrders && okc c90 c90.body) = true := by kernel_rfl
theorem c90_fn {e : Enc} {args : Array Value} {G : e.α → W} {L : List HP} {ρ : Env} (hρ : envA 0 args.toList = ρ) (hs : Nat.ble args.size 51 = true) (h : E L (D c90 (.seq (.reg 0) (.seq (.block 0 (.seq (.reg 1) (.cond (.tmp 5) (.seq (.reg 2) (.ret)) (.seq (.reg 3) (.cond (.tmp 8) (.seq (.reg 4) (.seq (.reg 5) (.ret))) (.seq (.reg 6) (.cond (.tmp 13) (.seq (.reg 7) (.seq (.reg 8) (.ret))) (.skip)))))))) (.seq (.reg 9) (.seq (.reg 10) (.ret))))) (fnQ c90 e G) ρ)) : E L (cal e Try.prog 90 args G) :=
  d_fn (c := c90) Try.func90 (by kernel_rfl) (by kernel_rfl) (by kernel_rfl) c90_ok (by kernel_rfl) (by kernel_rfl) hρ hs h
end Go.Sp
/- The reader of packed numbers and texts. -/
namespace Go.Sp
open Go Go.Proofs
set_option linter.unusedSimpArgs false
set_option linter.unusedVariables false
set_option maxRecDepth 10000
structure Rd where
  b : Nat
  s : List UInt8
  a : Nat
  e : Int
abbrev rdl (R : Rd) : List HP := [ar R.b 130 [str R.s, .int .i64 (R.a : Int), .int .i64 R.e]]
def Rd.fail (R : Rd) (x : Int) : Rd := if R.e = 0 then { R with e := x } else R
def Rd.raw (R : Rd) (n : Int) : List UInt8 × Rd :=
  if R.e = 0 then (if n < 0 then ([], { R with e := 1 }) else if (R.s.length : Int) - R.a < n then ([], { R with e := 2 }) else ((R.s.drop R.a).take n.toNat, { R with a := R.a + n.toNat })) else ([], R)
theorem f72 (s : List UInt8) : Fn eP Try.prog 72 #[str s] [] fun y X => ∃ b, y = some ⟨b, 0, none⟩ ∧ X = rdl ⟨b, s, 0, 0⟩ := fun L => by
  refine c72_fn rfl rfl ?_
  repeat' (first | ((with_reducible refine d_seq ?_); intro K hK) | ((with_reducible refine d_reg ?_); simp only [go_sem, Nat.reduceAdd, Nat.reduceEqDiff, Int.reduceToNat, Nat.reduceMul, Nat.reduceSub]) | ((first | ((with_reducible refine d_cnd ?_); refine And.intro ?_ ?_) | (with_reducible refine r_cnd ?_ ?_)); all_goals (intro hc; (try simp only [push_cast, Int.reduceEq, Int.reduceLT, Int.reduceLE, Int.reduceNe] at hc))) | ((with_reducible refine hK _ _ ?_); clear hK; clear K) | ((with_reducible first | refine d_blk ?_ | refine d_rt0 ?_ | refine d_sk0 ?_ | refine d_ex0 ?_); (try simp only [go_sem, Nat.reduceAdd, Nat.reduceEqDiff, Int.reduceToNat, Nat.reduceMul, Nat.reduceSub])) | (with_reducible refine r_rq (by first | decide | omega) ?_) | ((with_reducible refine r_nwc ?_); intro b) | ((with_reducible first | apply i_lds | apply i_ldsq | apply i_ld | apply i_ldq); exact rfl) | ((with_reducible first | apply i_ldn | apply i_ldnq); exact rfl; exact rfl; exact rfl) | (with_reducible first | refine r_ph0 ?_ | apply i_kp0) | ((with_reducible first | apply i_st | apply i_stl); (focus simp); exact rfl) | simp only [go_sem, Nat.reduceAdd, Nat.reduceEqDiff, Int.reduceToNat, Nat.reduceMul, Nat.reduceSub] | (clear hK; clear K))
  exact i_done (some ⟨b, 0, none⟩) (rdl ⟨b, s, 0, 0⟩) rfl ⟨b, rfl, rfl⟩
theorem f88 (R : Rd) : Fp eB Try.prog 88 #[.pointer (some ⟨R.b, 0, none⟩)] (rdl R) (R.e != 0) := fun L => by
  refine c88_fn rfl rfl ?_
  repeat' (first | ((with_reducible refine d_seq ?_); intro K hK) | ((with_reducible refine d_reg ?_); simp only [go_sem, Nat.reduceAdd, Nat.reduceEqDiff, Int.reduceToNat, Nat.reduceMul, Nat.reduceSub]) | ((first | ((with_reducible refine d_cnd ?_); refine And.intro ?_ ?_) | (with_reducible refine r_cnd ?_ ?_)); all_goals (intro hc; (try simp only [push_cast, Int.reduceEq, Int.reduceLT, Int.reduceLE, Int.reduceNe] at hc))) | ((with_reducible refine hK _ _ ?_); clear hK; clear K) | ((with_reducible first | refine d_blk ?_ | refine d_rt0 ?_ | refine d_sk0 ?_ | refine d_ex0 ?_); (try simp only [go_sem, Nat.reduceAdd, Nat.reduceEqDiff, Int.reduceToNat, Nat.reduceMul, Nat.reduceSub])) | (with_reducible refine r_rq (by first | decide | omega) ?_) | ((with_reducible refine r_nwc ?_); intro b) | ((with_reducible first | apply i_lds | apply i_ldsq | apply i_ld | apply i_ldq); exact rfl) | ((with_reducible first | apply i_ldn | apply i_ldnq); exact rfl; exact rfl; exact rfl) | (with_reducible first | refine r_ph0 ?_ | apply i_kp0) | ((with_reducible first | apply i_st | apply i_stl); (focus simp); exact rfl) | simp only [go_sem, Nat.reduceAdd, Nat.reduceEqDiff, Int.reduceToNat, Nat.reduceMul, Nat.reduceSub] | (clear hK; clear K))
  (with_reducible first | apply i_ret0 | apply i_ret2 | apply i_ret3 | apply i_ret); exact rfl
  rfl
theorem f74 (R : Rd) : Fp eI Try.prog 74 #[.pointer (some ⟨R.b, 0, none⟩)] (rdl R) R.e := fun L => by
  refine c74_fn rfl rfl ?_
  repeat' (first | ((with_reducible refine d_seq ?_); intro K hK) | ((with_reducible refine d_reg ?_); simp only [go_sem, Nat.reduceAdd, Nat.reduceEqDiff, Int.reduceToNat, Nat.reduceMul, Nat.reduceSub]) | ((first | ((with_reducible refine d_cnd ?_); refine And.intro ?_ ?_) | (with_reducible refine r_cnd ?_ ?_)); all_goals (intro hc; (try simp only [push_cast, Int.reduceEq, Int.reduceLT, Int.reduceLE, Int.reduceNe] at hc))) | ((with_reducible refine hK _ _ ?_); clear hK; clear K) | ((with_reducible first | refine d_blk ?_ | refine d_rt0 ?_ | refine d_sk0 ?_ | refine d_ex0 ?_); (try simp only [go_sem, Nat.reduceAdd, Nat.reduceEqDiff, Int.reduceToNat, Nat.reduceMul, Nat.reduceSub])) | (with_reducible refine r_rq (by first | decide | omega) ?_) | ((with_reducible refine r_nwc ?_); intro b) | ((with_reducible first | apply i_lds | apply i_ldsq | apply i_ld | apply i_ldq); exact rfl) | ((with_reducible first | apply i_ldn | apply i_ldnq); exact rfl; exact rfl; exact rfl) | (with_reducible first | refine r_ph0 ?_ | apply i_kp0) | ((with_reducible first | apply i_st | apply i_stl); (focus simp); exact rfl) | simp only [go_sem, Nat.reduceAdd, Nat.reduceEqDiff, Int.reduceToNat, Nat.reduceMul, Nat.reduceSub] | (clear hK; clear K))
  (with_reducible first | apply i_ret0 | apply i_ret2 | apply i_ret3 | apply i_ret); exact rfl
  rfl
theorem f89 (R : Rd) (x : Int) : Fq eN Try.prog 89 #[.pointer (some ⟨R.b, 0, none⟩), .int .i64 x] (rdl R) (rdl (R.fail x)) () := by
  by_cases h : R.e = 0
  all_goals
    unfold Rd.fail
    simp only [h, if_true, if_false]
    intro L
    refine c89_fn rfl rfl ?_
    repeat' (first | ((with_reducible refine d_seq ?_); intro K hK) | ((with_reducible refine d_reg ?_); simp only [go_sem, Nat.reduceAdd, Nat.reduceEqDiff, Int.reduceToNat, Nat.reduceMul, Nat.reduceSub]) | ((first | ((with_reducible refine d_cnd ?_); refine And.intro ?_ ?_) | (with_reducible refine r_cnd ?_ ?_)); all_goals (intro hc; (try simp only [push_cast, Int.reduceEq, Int.reduceLT, Int.reduceLE, Int.reduceNe] at hc))) | ((with_reducible refine hK _ _ ?_); clear hK; clear K) | ((with_reducible first | refine d_blk ?_ | refine d_rt0 ?_ | refine d_sk0 ?_ | refine d_ex0 ?_); (try simp only [go_sem, Nat.reduceAdd, Nat.reduceEqDiff, Int.reduceToNat, Nat.reduceMul, Nat.reduceSub])) | (with_reducible refine r_rq (by first | decide | omega) ?_) | ((with_reducible refine r_nwc ?_); intro b) | ((with_reducible first | apply i_lds | apply i_ldsq | apply i_ld | apply i_ldq); exact rfl) | ((with_reducible first | apply i_ldn | apply i_ldnq); exact rfl; exact rfl; exact rfl) | (with_reducible first | refine r_ph0 ?_ | apply i_kp0) | ((with_reducible first | apply i_st | apply i_stl); (focus simp); exact rfl) | simp only [go_sem, Nat.reduceAdd, Nat.reduceEqDiff, Int.reduceToNat, Nat.reduceMul, Nat.reduceSub] | (clear hK; clear K))
    all_goals first | contradiction | ((with_reducible first | apply i_ret0 | apply i_ret2 | apply i_ret3 | apply i_ret); exact rfl; rfl) | (with_reducible first | apply i_ret0 | apply i_ret2 | apply i_ret3 | apply i_ret); exact rfl
theorem ss_n (s : List UInt8) (a m : Nat) : ss s (a : Int) ((a + m : Nat) : Int) = (s.drop a).take m := by
  unfold ss
  simp only [Int.toNat_natCast]
  rw [List.drop_take]
  congr 1; omega
theorem f90 (R : Rd) (n : Int) (hl : R.s.length ≤ 4611686018427387904) (ha : R.a ≤ R.s.length) : Fq eS Try.prog 90 #[.pointer (some ⟨R.b, 0, none⟩), .int .i64 n] (rdl R) (rdl (R.raw n).2) (R.raw n).1 := by
  obtain ⟨b, s, a, e⟩ := R
  dsimp only at hl ha
  unfold Rd.raw
  by_cases h : e = 0
  · subst h
    by_cases h1 : n < 0
    · simp only [h1, if_true]
      intro L
      refine c90_fn rfl rfl ?_
      repeat' ((fail_if_success with_reducible refine (id : E _ (ph _) → E _ (ph _)) ?_); first | ((with_reducible refine d_seq ?_); intro K hK) | ((with_reducible refine d_reg ?_); simp only [go_sem, Nat.reduceAdd, Nat.reduceEqDiff, Int.reduceToNat, Nat.reduceMul, Nat.reduceSub]) | ((first | ((with_reducible refine d_cnd ?_); refine And.intro ?_ ?_) | (with_reducible refine r_cnd ?_ ?_)); all_goals (intro hc; (try simp only [push_cast, Int.reduceEq, Int.reduceLT, Int.reduceLE, Int.reduceNe] at hc))) | ((with_reducible refine hK _ _ ?_); clear hK; clear K) | ((with_reducible first | refine d_blk ?_ | refine d_rt0 ?_ | refine d_sk0 ?_ | refine d_ex0 ?_); (try simp only [go_sem, Nat.reduceAdd, Nat.reduceEqDiff, Int.reduceToNat, Nat.reduceMul, Nat.reduceSub])) | (with_reducible refine r_rq (by first | decide | omega) ?_) | ((with_reducible refine r_nwc ?_); intro b) | ((with_reducible first | apply i_lds | apply i_ldsq | apply i_ld | apply i_ldq); exact rfl) | ((with_reducible first | apply i_ldn | apply i_ldnq); exact rfl; exact rfl; exact rfl) | (with_reducible first | refine r_ph0 ?_ | apply i_kp0) | ((with_reducible first | apply i_st | apply i_stl); (focus simp); exact rfl) | simp only [go_sem, Nat.reduceAdd, Nat.reduceEqDiff, Int.reduceToNat, Nat.reduceMul, Nat.reduceSub] | (clear hK; clear K))
      refine i_clp (f88 ⟨b, s, a, 0⟩) ?_
      repeat' ((fail_if_success with_reducible refine (id : E _ (ph _) → E _ (ph _)) ?_); first | ((with_reducible refine d_seq ?_); intro K hK) | ((with_reducible refine d_reg ?_); simp only [go_sem, Nat.reduceAdd, Nat.reduceEqDiff, Int.reduceToNat, Nat.reduceMul, Nat.reduceSub]) | ((first | ((with_reducible refine d_cnd ?_); refine And.intro ?_ ?_) | (with_reducible refine r_cnd ?_ ?_)); all_goals (intro hc; (try simp only [push_cast, Int.reduceEq, Int.reduceLT, Int.reduceLE, Int.reduceNe] at hc))) | ((with_reducible refine hK _ _ ?_); clear hK; clear K) | ((with_reducible first | refine d_blk ?_ | refine d_rt0 ?_ | refine d_sk0 ?_ | refine d_ex0 ?_); (try simp only [go_sem, Nat.reduceAdd, Nat.reduceEqDiff, Int.reduceToNat, Nat.reduceMul, Nat.reduceSub])) | (with_reducible refine r_rq (by first | decide | omega) ?_) | ((with_reducible refine r_nwc ?_); intro b) | ((with_reducible first | apply i_lds | apply i_ldsq | apply i_ld | apply i_ldq); exact rfl) | ((with_reducible first | apply i_ldn | apply i_ldnq); exact rfl; exact rfl; exact rfl) | (with_reducible first | refine r_ph0 ?_ | apply i_kp0) | ((with_reducible first | apply i_st | apply i_stl); (focus simp); exact rfl) | simp only [go_sem, Nat.reduceAdd, Nat.reduceEqDiff, Int.reduceToNat, Nat.reduceMul, Nat.reduceSub] | (clear hK; clear K))
      all_goals try (first | contradiction | (exfalso; omega))
      refine i_clq (f89 ⟨b, s, a, 0⟩ 1) ?_
      unfold Rd.fail
      simp only [if_true]
      repeat' (first | ((with_reducible refine d_seq ?_); intro K hK) | ((with_reducible refine d_reg ?_); simp only [go_sem, Nat.reduceAdd, Nat.reduceEqDiff, Int.reduceToNat, Nat.reduceMul, Nat.reduceSub]) | ((first | ((with_reducible refine d_cnd ?_); refine And.intro ?_ ?_) | (with_reducible refine r_cnd ?_ ?_)); all_goals (intro hc; (try simp only [push_cast, Int.reduceEq, Int.reduceLT, Int.reduceLE, Int.reduceNe] at hc))) | ((with_reducible refine hK _ _ ?_); clear hK; clear K) | ((with_reducible first | refine d_blk ?_ | refine d_rt0 ?_ | refine d_sk0 ?_ | refine d_ex0 ?_); (try simp only [go_sem, Nat.reduceAdd, Nat.reduceEqDiff, Int.reduceToNat, Nat.reduceMul, Nat.reduceSub])) | (with_reducible refine r_rq (by first | decide | omega) ?_) | ((with_reducible refine r_nwc ?_); intro b) | ((with_reducible first | apply i_lds | apply i_ldsq | apply i_ld | apply i_ldq); exact rfl) | ((with_reducible first | apply i_ldn | apply i_ldnq); exact rfl; exact rfl; exact rfl) | (with_reducible first | refine r_ph0 ?_ | apply i_kp0) | ((with_reducible first | apply i_st | apply i_stl); (focus simp); exact rfl) | simp only [go_sem, Nat.reduceAdd, Nat.reduceEqDiff, Int.reduceToNat, Nat.reduceMul, Nat.reduceSub] | (clear hK; clear K))
      (with_reducible first | apply i_ret0 | apply i_ret2 | apply i_ret3 | apply i_ret); exact rfl
      rfl
    · by_cases h2 : (s.length : Int) - a < n
      all_goals
        simp only [h1, h2, if_true, if_false]
        intro L
        refine c90_fn rfl rfl ?_
        repeat' ((fail_if_success with_reducible refine (id : E _ (ph _) → E _ (ph _)) ?_); first | ((with_reducible refine d_seq ?_); intro K hK) | ((with_reducible refine d_reg ?_); simp only [go_sem, Nat.reduceAdd, Nat.reduceEqDiff, Int.reduceToNat, Nat.reduceMul, Nat.reduceSub]) | ((first | ((with_reducible refine d_cnd ?_); refine And.intro ?_ ?_) | (with_reducible refine r_cnd ?_ ?_)); all_goals (intro hc; (try simp only [push_cast, Int.reduceEq, Int.reduceLT, Int.reduceLE, Int.reduceNe] at hc))) | ((with_reducible refine hK _ _ ?_); clear hK; clear K) | ((with_reducible first | refine d_blk ?_ | refine d_rt0 ?_ | refine d_sk0 ?_ | refine d_ex0 ?_); (try simp only [go_sem, Nat.reduceAdd, Nat.reduceEqDiff, Int.reduceToNat, Nat.reduceMul, Nat.reduceSub])) | (with_reducible refine r_rq (by first | decide | omega) ?_) | ((with_reducible refine r_nwc ?_); intro b) | ((with_reducible first | apply i_lds | apply i_ldsq | apply i_ld | apply i_ldq); exact rfl) | ((with_reducible first | apply i_ldn | apply i_ldnq); exact rfl; exact rfl; exact rfl) | (with_reducible first | refine r_ph0 ?_ | apply i_kp0) | ((with_reducible first | apply i_st | apply i_stl); (focus simp); exact rfl) | simp only [go_sem, Nat.reduceAdd, Nat.reduceEqDiff, Int.reduceToNat, Nat.reduceMul, Nat.reduceSub] | (clear hK; clear K))
        refine i_clp (f88 ⟨b, s, a, 0⟩) ?_
        repeat' ((fail_if_success with_reducible refine (id : E _ (ph _) → E _ (ph _)) ?_); first | ((with_reducible refine d_seq ?_); intro K hK) | ((with_reducible refine d_reg ?_); simp only [go_sem, Nat.reduceAdd, Nat.reduceEqDiff, Int.reduceToNat, Nat.reduceMul, Nat.reduceSub]) | ((first | ((with_reducible refine d_cnd ?_); refine And.intro ?_ ?_) | (with_reducible refine r_cnd ?_ ?_)); all_goals (intro hc; (try simp only [push_cast, Int.reduceEq, Int.reduceLT, Int.reduceLE, Int.reduceNe] at hc))) | ((with_reducible refine hK _ _ ?_); clear hK; clear K) | ((with_reducible first | refine d_blk ?_ | refine d_rt0 ?_ | refine d_sk0 ?_ | refine d_ex0 ?_); (try simp only [go_sem, Nat.reduceAdd, Nat.reduceEqDiff, Int.reduceToNat, Nat.reduceMul, Nat.reduceSub])) | (with_reducible refine r_rq (by first | decide | omega) ?_) | ((with_reducible refine r_nwc ?_); intro b) | ((with_reducible first | apply i_lds | apply i_ldsq | apply i_ld | apply i_ldq); exact rfl) | ((with_reducible first | apply i_ldn | apply i_ldnq); exact rfl; exact rfl; exact rfl) | (with_reducible first | refine r_ph0 ?_ | apply i_kp0) | ((with_reducible first | apply i_st | apply i_stl); (focus simp); exact rfl) | simp only [go_sem, Nat.reduceAdd, Nat.reduceEqDiff, Int.reduceToNat, Nat.reduceMul, Nat.reduceSub] | (clear hK; clear K))
        all_goals try (first | contradiction | (exfalso; omega))
        repeat' ((fail_if_success with_reducible refine (id : E _ (D _ (.seq (.seq _ _) _) _ _) → E _ (D _ (.seq (.seq _ _) _) _ _)) ?_); first | ((with_reducible refine d_seq ?_); intro K hK) | ((with_reducible refine d_reg ?_); simp only [go_sem, Nat.reduceAdd, Nat.reduceEqDiff, Int.reduceToNat, Nat.reduceMul, Nat.reduceSub]) | ((first | ((with_reducible refine d_cnd ?_); refine And.intro ?_ ?_) | (with_reducible refine r_cnd ?_ ?_)); all_goals (intro hc; (try simp only [push_cast, Int.reduceEq, Int.reduceLT, Int.reduceLE, Int.reduceNe] at hc))) | ((with_reducible refine hK _ _ ?_); clear hK; clear K) | ((with_reducible first | refine d_blk ?_ | refine d_rt0 ?_ | refine d_sk0 ?_ | refine d_ex0 ?_); (try simp only [go_sem, Nat.reduceAdd, Nat.reduceEqDiff, Int.reduceToNat, Nat.reduceMul, Nat.reduceSub])) | (with_reducible refine r_rq (by first | decide | omega) ?_) | ((with_reducible refine r_nwc ?_); intro b) | ((with_reducible first | apply i_lds | apply i_ldsq | apply i_ld | apply i_ldq); exact rfl) | ((with_reducible first | apply i_ldn | apply i_ldnq); exact rfl; exact rfl; exact rfl) | (with_reducible first | refine r_ph0 ?_ | apply i_kp0) | ((with_reducible first | apply i_st | apply i_stl); (focus simp); exact rfl) | simp only [go_sem, Nat.reduceAdd, Nat.reduceEqDiff, Int.reduceToNat, Nat.reduceMul, Nat.reduceSub] | (clear hK; clear K))
        all_goals try (rw [w64 (by omega) (by omega)] at hc; exfalso; omega)
      · refine i_clq (f89 ⟨b, s, a, 0⟩ 2) ?_
        unfold Rd.fail
        simp only [if_true]
        repeat' (first | ((with_reducible refine d_seq ?_); intro K hK) | ((with_reducible refine d_reg ?_); simp only [go_sem, Nat.reduceAdd, Nat.reduceEqDiff, Int.reduceToNat, Nat.reduceMul, Nat.reduceSub]) | ((first | ((with_reducible refine d_cnd ?_); refine And.intro ?_ ?_) | (with_reducible refine r_cnd ?_ ?_)); all_goals (intro hc; (try simp only [push_cast, Int.reduceEq, Int.reduceLT, Int.reduceLE, Int.reduceNe] at hc))) | ((with_reducible refine hK _ _ ?_); clear hK; clear K) | ((with_reducible first | refine d_blk ?_ | refine d_rt0 ?_ | refine d_sk0 ?_ | refine d_ex0 ?_); (try simp only [go_sem, Nat.reduceAdd, Nat.reduceEqDiff, Int.reduceToNat, Nat.reduceMul, Nat.reduceSub])) | (with_reducible refine r_rq (by first | decide | omega) ?_) | ((with_reducible refine r_nwc ?_); intro b) | ((with_reducible first | apply i_lds | apply i_ldsq | apply i_ld | apply i_ldq); exact rfl) | ((with_reducible first | apply i_ldn | apply i_ldnq); exact rfl; exact rfl; exact rfl) | (with_reducible first | refine r_ph0 ?_ | apply i_kp0) | ((with_reducible first | apply i_st | apply i_stl); (focus simp); exact rfl) | simp only [go_sem, Nat.reduceAdd, Nat.reduceEqDiff, Int.reduceToNat, Nat.reduceMul, Nat.reduceSub] | (clear hK; clear K))
        (with_reducible first | apply i_ret0 | apply i_ret2 | apply i_ret3 | apply i_ret); exact rfl
        rfl
      · have e1 : IntKind.wrap .i64 ((a : Int) + n) = ((a + n.toNat : Nat) : Int) := by rw [w64 (by omega) (by omega)]; omega
        have e2 : IntKind.wrap .i64 (((a + n.toNat : Nat) : Int) - n) = (a : Int) := by rw [w64 (by omega) (by omega)]; omega
        repeat' (first | (simp only [e1, e2]) | first | ((with_reducible refine d_seq ?_); intro K hK) | ((with_reducible refine d_reg ?_); simp only [go_sem, Nat.reduceAdd, Nat.reduceEqDiff, Int.reduceToNat, Nat.reduceMul, Nat.reduceSub]) | ((first | ((with_reducible refine d_cnd ?_); refine And.intro ?_ ?_) | (with_reducible refine r_cnd ?_ ?_)); all_goals (intro hc; (try simp only [push_cast, Int.reduceEq, Int.reduceLT, Int.reduceLE, Int.reduceNe] at hc))) | ((with_reducible refine hK _ _ ?_); clear hK; clear K) | ((with_reducible first | refine d_blk ?_ | refine d_rt0 ?_ | refine d_sk0 ?_ | refine d_ex0 ?_); (try simp only [go_sem, Nat.reduceAdd, Nat.reduceEqDiff, Int.reduceToNat, Nat.reduceMul, Nat.reduceSub])) | (with_reducible refine r_rq (by first | decide | omega) ?_) | ((with_reducible refine r_nwc ?_); intro b) | ((with_reducible first | apply i_lds | apply i_ldsq | apply i_ld | apply i_ldq); exact rfl) | ((with_reducible first | apply i_ldn | apply i_ldnq); exact rfl; exact rfl; exact rfl) | (with_reducible first | refine r_ph0 ?_ | apply i_kp0) | ((with_reducible first | apply i_st | apply i_stl); (focus simp); exact rfl) | simp only [go_sem, Nat.reduceAdd, Nat.reduceEqDiff, Int.reduceToNat, Nat.reduceMul, Nat.reduceSub] | (clear hK; clear K))
        (with_reducible first | apply i_ret0 | apply i_ret2 | apply i_ret3 | apply i_ret); exact rfl
        exact ss_n _ _ _
  · simp only [h, if_false]
    intro L
    refine c90_fn rfl rfl ?_
    repeat' ((fail_if_success with_reducible refine (id : E _ (ph _) → E _ (ph _)) ?_); first | ((with_reducible refine d_seq ?_); intro K hK) | ((with_reducible refine d_reg ?_); simp only [go_sem, Nat.reduceAdd, Nat.reduceEqDiff, Int.reduceToNat, Nat.reduceMul, Nat.reduceSub]) | ((first | ((with_reducible refine d_cnd ?_); refine And.intro ?_ ?_) | (with_reducible refine r_cnd ?_ ?_)); all_goals (intro hc; (try simp only [push_cast, Int.reduceEq, Int.reduceLT, Int.reduceLE, Int.reduceNe] at hc))) | ((with_reducible refine hK _ _ ?_); clear hK; clear K) | ((with_reducible first | refine d_blk ?_ | refine d_rt0 ?_ | refine d_sk0 ?_ | refine d_ex0 ?_); (try simp only [go_sem, Nat.reduceAdd, Nat.reduceEqDiff, Int.reduceToNat, Nat.reduceMul, Nat.reduceSub])) | (with_reducible refine r_rq (by first | decide | omega) ?_) | ((with_reducible refine r_nwc ?_); intro b) | ((with_reducible first | apply i_lds | apply i_ldsq | apply i_ld | apply i_ldq); exact rfl) | ((with_reducible first | apply i_ldn | apply i_ldnq); exact rfl; exact rfl; exact rfl) | (with_reducible first | refine r_ph0 ?_ | apply i_kp0) | ((with_reducible first | apply i_st | apply i_stl); (focus simp); exact rfl) | simp only [go_sem, Nat.reduceAdd, Nat.reduceEqDiff, Int.reduceToNat, Nat.reduceMul, Nat.reduceSub] | (clear hK; clear K))
    refine i_clp (f88 ⟨b, s, a, e⟩) ?_
    repeat' ((fail_if_success with_reducible refine (id : E _ (ph _) → E _ (ph _)) ?_); first | ((with_reducible refine d_seq ?_); intro K hK) | ((with_reducible refine d_reg ?_); simp only [go_sem, Nat.reduceAdd, Nat.reduceEqDiff, Int.reduceToNat, Nat.reduceMul, Nat.reduceSub]) | ((first | ((with_reducible refine d_cnd ?_); refine And.intro ?_ ?_) | (with_reducible refine r_cnd ?_ ?_)); all_goals (intro hc; (try simp only [push_cast, Int.reduceEq, Int.reduceLT, Int.reduceLE, Int.reduceNe] at hc))) | ((with_reducible refine hK _ _ ?_); clear hK; clear K) | ((with_reducible first | refine d_blk ?_ | refine d_rt0 ?_ | refine d_sk0 ?_ | refine d_ex0 ?_); (try simp only [go_sem, Nat.reduceAdd, Nat.reduceEqDiff, Int.reduceToNat, Nat.reduceMul, Nat.reduceSub])) | (with_reducible refine r_rq (by first | decide | omega) ?_) | ((with_reducible refine r_nwc ?_); intro b) | ((with_reducible first | apply i_lds | apply i_ldsq | apply i_ld | apply i_ldq); exact rfl) | ((with_reducible first | apply i_ldn | apply i_ldnq); exact rfl; exact rfl; exact rfl) | (with_reducible first | refine r_ph0 ?_ | apply i_kp0) | ((with_reducible first | apply i_st | apply i_stl); (focus simp); exact rfl) | simp only [go_sem, Nat.reduceAdd, Nat.reduceEqDiff, Int.reduceToNat, Nat.reduceMul, Nat.reduceSub] | (clear hK; clear K))
    all_goals first | contradiction | ((with_reducible first | apply i_ret0 | apply i_ret2 | apply i_ret3 | apply i_ret); exact rfl; rfl)
end Go.Sp
/- The reader: numbers and texts. -/
namespace Go.Sp
open Go Go.Proofs
set_option linter.unusedSimpArgs false
set_option linter.unusedVariables false
set_option maxRecDepth 10000
theorem Rd.raw_len (R : Rd) (n : Int) : ((R.raw n).1.length : Int) ≤ max n 0 := by
  unfold Rd.raw
  split
  · split
    · simp; omega
    · split
      · simp; omega
      · simp only [List.length_take, List.length_drop]; omega
  · simp; omega
theorem be_take {t : List UInt8} {i : Nat} (h : i < t.length) : be (t.take (i + 1)) = be (t.take i) * 256 + bt t i := by
  rw [List.take_succ_eq_append_getElem h, be_snoc]
  simp [bt, h]
theorem num_bits {t : List UInt8} {i : Nat} (h : i < t.length) (h6 : t.length ≤ 6) : bits .or .i64 (IntKind.wrap .i64 ((be (t.take i) : Int) * 2 ^ min 8 64)) (bt t i : Int) = (be (t.take (i + 1)) : Int) := by
  have h1 := be_lt (t.take i)
  have h2 : 256 ^ (t.take i).length ≤ 256 ^ 5 := Nat.pow_le_pow_right (by decide) (by simp; omega)
  have h3 : (256 : Nat) ^ 5 = 1099511627776 := by decide
  have h4 := bt_lt t i
  rw [show (2 : Int) ^ min 8 64 = 256 from rfl, w64 (by omega) (by omega), or_b (by omega) (by omega) (by omega) (by omega), be_take h]
  omega
theorem f75 (R : Rd) (w : Int) (h1 : 1 ≤ w) (h6 : w ≤ 6) (hl : R.s.length ≤ 4611686018427387904) (ha : R.a ≤ R.s.length) : Fq eI Try.prog 75 #[.pointer (some ⟨R.b, 0, none⟩), .int .i64 w] (rdl R) (rdl (R.raw w).2) (be (R.raw w).1 : Int) := fun L => by
  have hlen := R.raw_len w
  refine c75_fn rfl rfl ?_
  repeat' ((fail_if_success with_reducible refine (id : E _ (ph _) → E _ (ph _)) ?_); first | ((with_reducible refine d_seq ?_); intro K hK) | ((with_reducible refine d_reg ?_); simp only [go_sem, Nat.reduceAdd, Nat.reduceEqDiff, Int.reduceToNat, Nat.reduceMul, Nat.reduceSub]) | ((first | ((with_reducible refine d_cnd ?_); refine And.intro ?_ ?_) | (with_reducible refine r_cnd ?_ ?_)); all_goals (intro hc; (try simp only [push_cast, Int.reduceEq, Int.reduceLT, Int.reduceLE, Int.reduceNe] at hc))) | ((with_reducible refine hK _ _ ?_); clear hK; clear K) | ((with_reducible first | refine d_blk ?_ | refine d_rt0 ?_ | refine d_sk0 ?_ | refine d_ex0 ?_); (try simp only [go_sem, Nat.reduceAdd, Nat.reduceEqDiff, Int.reduceToNat, Nat.reduceMul, Nat.reduceSub])) | (with_reducible refine r_rq (by first | decide | omega) ?_) | ((with_reducible refine r_nwc ?_); intro b) | ((with_reducible first | apply i_lds | apply i_ldsq | apply i_ld | apply i_ldq); exact rfl) | ((with_reducible first | apply i_ldn | apply i_ldnq); exact rfl; exact rfl; exact rfl) | (with_reducible first | refine r_ph0 ?_ | apply i_kp0) | ((with_reducible first | apply i_st | apply i_stl); (focus simp); exact rfl) | simp only [go_sem, Nat.reduceAdd, Nat.reduceEqDiff, Int.reduceToNat, Nat.reduceMul, Nat.reduceSub] | (clear hK; clear K))
  refine i_clp (f88 R) ?_
  repeat' ((fail_if_success with_reducible refine (id : E _ (ph _) → E _ (ph _)) ?_); first | ((with_reducible refine d_seq ?_); intro K hK) | ((with_reducible refine d_reg ?_); simp only [go_sem, Nat.reduceAdd, Nat.reduceEqDiff, Int.reduceToNat, Nat.reduceMul, Nat.reduceSub]) | ((first | ((with_reducible refine d_cnd ?_); refine And.intro ?_ ?_) | (with_reducible refine r_cnd ?_ ?_)); all_goals (intro hc; (try simp only [push_cast, Int.reduceEq, Int.reduceLT, Int.reduceLE, Int.reduceNe] at hc))) | ((with_reducible refine hK _ _ ?_); clear hK; clear K) | ((with_reducible first | refine d_blk ?_ | refine d_rt0 ?_ | refine d_sk0 ?_ | refine d_ex0 ?_); (try simp only [go_sem, Nat.reduceAdd, Nat.reduceEqDiff, Int.reduceToNat, Nat.reduceMul, Nat.reduceSub])) | (with_reducible refine r_rq (by first | decide | omega) ?_) | ((with_reducible refine r_nwc ?_); intro b) | ((with_reducible first | apply i_lds | apply i_ldsq | apply i_ld | apply i_ldq); exact rfl) | ((with_reducible first | apply i_ldn | apply i_ldnq); exact rfl; exact rfl; exact rfl) | (with_reducible first | refine r_ph0 ?_ | apply i_kp0) | ((with_reducible first | apply i_st | apply i_stl); (focus simp); exact rfl) | simp only [go_sem, Nat.reduceAdd, Nat.reduceEqDiff, Int.reduceToNat, Nat.reduceMul, Nat.reduceSub] | (clear hK; clear K))
  all_goals try (first | contradiction | (exfalso; omega))
  all_goals
    refine i_clq (f90 R w hl ha) ?_
    generalize R.raw w = T at *
    obtain ⟨t, R'⟩ := T
    dsimp only at hlen ⊢
    refine r_cvs (by kernel_rfl) fun tb tc => ?_
    repeat' ((fail_if_success with_reducible refine (id : E _ (ph _) → E _ (ph _)) ?_); first | ((with_reducible refine d_seq ?_); intro K hK) | ((with_reducible refine d_reg ?_); simp only [go_sem, Nat.reduceAdd, Nat.reduceEqDiff, Int.reduceToNat, Nat.reduceMul, Nat.reduceSub]) | ((first | ((with_reducible refine d_cnd ?_); refine And.intro ?_ ?_) | (with_reducible refine r_cnd ?_ ?_)); all_goals (intro hc; (try simp only [push_cast, Int.reduceEq, Int.reduceLT, Int.reduceLE, Int.reduceNe] at hc))) | ((with_reducible refine hK _ _ ?_); clear hK; clear K) | ((with_reducible first | refine d_blk ?_ | refine d_rt0 ?_ | refine d_sk0 ?_ | refine d_ex0 ?_); (try simp only [go_sem, Nat.reduceAdd, Nat.reduceEqDiff, Int.reduceToNat, Nat.reduceMul, Nat.reduceSub])) | (with_reducible refine r_rq (by first | decide | omega) ?_) | ((with_reducible refine r_nwc ?_); intro b) | ((with_reducible first | apply i_lds | apply i_ldsq | apply i_ld | apply i_ldq); exact rfl) | ((with_reducible first | apply i_ldn | apply i_ldnq); exact rfl; exact rfl; exact rfl) | (with_reducible first | refine r_ph0 ?_ | apply i_kp0) | ((with_reducible first | apply i_st | apply i_stl); (focus simp); exact rfl) | simp only [go_sem, Nat.reduceAdd, Nat.reduceEqDiff, Int.reduceToNat, Nat.reduceMul, Nat.reduceSub] | (clear hK; clear K))
    refine d_lp [5, 24, 25, 26] (fun i : Nat => [(5, .int .i64 (be (t.take i) : Int)), (24, .slice (some ⟨tb, 0, none⟩) t.length tc), (25, .int .i64 (t.length : Int)), (26, .int .i64 (i : Int))])
      (fun _ => sb tb t :: (rdl R' ++ L)) (fun i => i ≤ t.length) (fun i => t.length - i) 0 rfl SX.p (by omega) ?_
    intro i hi
    repeat' ((fail_if_success with_reducible refine (id : E _ (ph _) → E _ (ph _)) ?_); first | ((with_reducible refine d_seq ?_); intro K hK) | ((with_reducible refine d_reg ?_); simp only [go_sem, Nat.reduceAdd, Nat.reduceEqDiff, Int.reduceToNat, Nat.reduceMul, Nat.reduceSub]) | ((first | ((with_reducible refine d_cnd ?_); refine And.intro ?_ ?_) | (with_reducible refine r_cnd ?_ ?_)); all_goals (intro hc; (try simp only [push_cast, Int.reduceEq, Int.reduceLT, Int.reduceLE, Int.reduceNe] at hc))) | ((with_reducible refine hK _ _ ?_); clear hK; clear K) | ((with_reducible first | refine d_blk ?_ | refine d_rt0 ?_ | refine d_sk0 ?_ | refine d_ex0 ?_); (try simp only [go_sem, Nat.reduceAdd, Nat.reduceEqDiff, Int.reduceToNat, Nat.reduceMul, Nat.reduceSub])) | (with_reducible refine r_rq (by first | decide | omega) ?_) | ((with_reducible refine r_nwc ?_); intro b) | ((with_reducible first | apply i_lds | apply i_ldsq | apply i_ld | apply i_ldq); exact rfl) | ((with_reducible first | apply i_ldn | apply i_ldnq); exact rfl; exact rfl; exact rfl) | (with_reducible first | refine r_ph0 ?_ | apply i_kp0) | ((with_reducible first | apply i_st | apply i_stl); (focus simp); exact rfl) | simp only [go_sem, Nat.reduceAdd, Nat.reduceEqDiff, Int.reduceToNat, Nat.reduceMul, Nat.reduceSub] | (clear hK; clear K))
    · refine i_sb (by omega) ?_
      repeat' ((fail_if_success with_reducible refine (id : E _ (ph _) → E _ (ph _)) ?_); first | ((with_reducible refine d_seq ?_); intro K hK) | ((with_reducible refine d_reg ?_); simp only [go_sem, Nat.reduceAdd, Nat.reduceEqDiff, Int.reduceToNat, Nat.reduceMul, Nat.reduceSub]) | ((first | ((with_reducible refine d_cnd ?_); refine And.intro ?_ ?_) | (with_reducible refine r_cnd ?_ ?_)); all_goals (intro hc; (try simp only [push_cast, Int.reduceEq, Int.reduceLT, Int.reduceLE, Int.reduceNe] at hc))) | ((with_reducible refine hK _ _ ?_); clear hK; clear K) | ((with_reducible first | refine d_blk ?_ | refine d_rt0 ?_ | refine d_sk0 ?_ | refine d_ex0 ?_); (try simp only [go_sem, Nat.reduceAdd, Nat.reduceEqDiff, Int.reduceToNat, Nat.reduceMul, Nat.reduceSub])) | (with_reducible refine r_rq (by first | decide | omega) ?_) | ((with_reducible refine r_nwc ?_); intro b) | ((with_reducible first | apply i_lds | apply i_ldsq | apply i_ld | apply i_ldq); exact rfl) | ((with_reducible first | apply i_ldn | apply i_ldnq); exact rfl; exact rfl; exact rfl) | (with_reducible first | refine r_ph0 ?_ | apply i_kp0) | ((with_reducible first | apply i_st | apply i_stl); (focus simp); exact rfl) | simp only [go_sem, Nat.reduceAdd, Nat.reduceEqDiff, Int.reduceToNat, Nat.reduceMul, Nat.reduceSub] | (clear hK; clear K))
      rw [num_bits (by omega) (by omega), w64 (n := (i : Int) + 1) (by omega) (by omega)]
      exact i_bk (i + 1) rfl (by omega) (by omega)
    · obtain rfl : i = t.length := by omega
      rw [List.take_length]
      (with_reducible first | apply i_ret0 | apply i_ret2 | apply i_ret3 | apply i_ret); exact rfl
      rfl
/-- A text of at most so many bytes: how long it is, in two bytes, and it. -/
def Rd.text (R : Rd) (most : Int) : List UInt8 × Rd :=
  (if (R.raw 2).2.e = 0 ∧ most < (be (R.raw 2).1 : Int) then (R.raw 2).2.fail 3 else (R.raw 2).2).raw (be (R.raw 2).1 : Int)
theorem Rd.raw_a {R : Rd} (n : Int) (h : R.a ≤ R.s.length) : (R.raw n).2.a ≤ (R.raw n).2.s.length ∧ (R.raw n).2.s = R.s ∧ (R.raw n).2.b = R.b := by
  unfold Rd.raw
  split
  · split
    · exact ⟨h, rfl, rfl⟩
    · split
      · exact ⟨h, rfl, rfl⟩
      · simp only [and_true]; omega
  · exact ⟨h, rfl, rfl⟩
theorem f73 (R : Rd) (most : Int) (hl : R.s.length ≤ 4611686018427387904) (ha : R.a ≤ R.s.length) : Fq eS Try.prog 73 #[.pointer (some ⟨R.b, 0, none⟩), .int .i64 most] (rdl R) (rdl (R.text most).2) (R.text most).1 := by
  have h0 := f75 R 2 (by omega) (by omega) hl ha
  have h1 := Rd.raw_a 2 ha
  unfold Rd.text
  generalize R.raw 2 = T at *
  obtain ⟨t, R1⟩ := T
  dsimp only at h0 h1 ⊢
  obtain ⟨h1, h2, h3⟩ := h1
  by_cases he : R1.e = 0
  · by_cases hm : most < (be t : Int)
    · simp only [he, hm, and_self, if_true]
      intro L
      refine c73_fn rfl rfl ?_
      repeat' ((fail_if_success with_reducible refine (id : E _ (ph _) → E _ (ph _)) ?_); first | ((with_reducible refine d_seq ?_); intro K hK) | ((with_reducible refine d_reg ?_); simp only [go_sem, Nat.reduceAdd, Nat.reduceEqDiff, Int.reduceToNat, Nat.reduceMul, Nat.reduceSub]) | ((first | ((with_reducible refine d_cnd ?_); refine And.intro ?_ ?_) | (with_reducible refine r_cnd ?_ ?_)); all_goals (intro hc; (try simp only [push_cast, Int.reduceEq, Int.reduceLT, Int.reduceLE, Int.reduceNe] at hc))) | ((with_reducible refine hK _ _ ?_); clear hK; clear K) | ((with_reducible first | refine d_blk ?_ | refine d_rt0 ?_ | refine d_sk0 ?_ | refine d_ex0 ?_); (try simp only [go_sem, Nat.reduceAdd, Nat.reduceEqDiff, Int.reduceToNat, Nat.reduceMul, Nat.reduceSub])) | (with_reducible refine r_rq (by first | decide | omega) ?_) | ((with_reducible refine r_nwc ?_); intro b) | ((with_reducible first | apply i_lds | apply i_ldsq | apply i_ld | apply i_ldq); exact rfl) | ((with_reducible first | apply i_ldn | apply i_ldnq); exact rfl; exact rfl; exact rfl) | (with_reducible first | refine r_ph0 ?_ | apply i_kp0) | ((with_reducible first | apply i_st | apply i_stl); (focus simp); exact rfl) | simp only [go_sem, Nat.reduceAdd, Nat.reduceEqDiff, Int.reduceToNat, Nat.reduceMul, Nat.reduceSub] | (clear hK; clear K))
      refine i_clq h0 ?_
      repeat' ((fail_if_success with_reducible refine (id : E _ (ph _) → E _ (ph _)) ?_); first | ((with_reducible refine d_seq ?_); intro K hK) | ((with_reducible refine d_reg ?_); simp only [go_sem, Nat.reduceAdd, Nat.reduceEqDiff, Int.reduceToNat, Nat.reduceMul, Nat.reduceSub]) | ((first | ((with_reducible refine d_cnd ?_); refine And.intro ?_ ?_) | (with_reducible refine r_cnd ?_ ?_)); all_goals (intro hc; (try simp only [push_cast, Int.reduceEq, Int.reduceLT, Int.reduceLE, Int.reduceNe] at hc))) | ((with_reducible refine hK _ _ ?_); clear hK; clear K) | ((with_reducible first | refine d_blk ?_ | refine d_rt0 ?_ | refine d_sk0 ?_ | refine d_ex0 ?_); (try simp only [go_sem, Nat.reduceAdd, Nat.reduceEqDiff, Int.reduceToNat, Nat.reduceMul, Nat.reduceSub])) | (with_reducible refine r_rq (by first | decide | omega) ?_) | ((with_reducible refine r_nwc ?_); intro b) | ((with_reducible first | apply i_lds | apply i_ldsq | apply i_ld | apply i_ldq); exact rfl) | ((with_reducible first | apply i_ldn | apply i_ldnq); exact rfl; exact rfl; exact rfl) | (with_reducible first | refine r_ph0 ?_ | apply i_kp0) | ((with_reducible first | apply i_st | apply i_stl); (focus simp); exact rfl) | simp only [go_sem, Nat.reduceAdd, Nat.reduceEqDiff, Int.reduceToNat, Nat.reduceMul, Nat.reduceSub] | (clear hK; clear K))
      rw [← h3]
      refine i_clp (f88 R1) ?_
      repeat' ((fail_if_success with_reducible refine (id : E _ (ph _) → E _ (ph _)) ?_); first | ((with_reducible refine d_seq ?_); intro K hK) | ((with_reducible refine d_reg ?_); simp only [go_sem, Nat.reduceAdd, Nat.reduceEqDiff, Int.reduceToNat, Nat.reduceMul, Nat.reduceSub]) | ((first | ((with_reducible refine d_cnd ?_); refine And.intro ?_ ?_) | (with_reducible refine r_cnd ?_ ?_)); all_goals (intro hc; (try simp only [push_cast, Int.reduceEq, Int.reduceLT, Int.reduceLE, Int.reduceNe] at hc))) | ((with_reducible refine hK _ _ ?_); clear hK; clear K) | ((with_reducible first | refine d_blk ?_ | refine d_rt0 ?_ | refine d_sk0 ?_ | refine d_ex0 ?_); (try simp only [go_sem, Nat.reduceAdd, Nat.reduceEqDiff, Int.reduceToNat, Nat.reduceMul, Nat.reduceSub])) | (with_reducible refine r_rq (by first | decide | omega) ?_) | ((with_reducible refine r_nwc ?_); intro b) | ((with_reducible first | apply i_lds | apply i_ldsq | apply i_ld | apply i_ldq); exact rfl) | ((with_reducible first | apply i_ldn | apply i_ldnq); exact rfl; exact rfl; exact rfl) | (with_reducible first | refine r_ph0 ?_ | apply i_kp0) | ((with_reducible first | apply i_st | apply i_stl); (focus simp); exact rfl) | simp only [go_sem, Nat.reduceAdd, Nat.reduceEqDiff, Int.reduceToNat, Nat.reduceMul, Nat.reduceSub] | (clear hK; clear K))
      all_goals try (first | contradiction | (exfalso; omega))
      refine i_clq (f89 R1 3) ?_
      repeat' ((fail_if_success with_reducible refine (id : E _ (ph _) → E _ (ph _)) ?_); first | ((with_reducible refine d_seq ?_); intro K hK) | ((with_reducible refine d_reg ?_); simp only [go_sem, Nat.reduceAdd, Nat.reduceEqDiff, Int.reduceToNat, Nat.reduceMul, Nat.reduceSub]) | ((first | ((with_reducible refine d_cnd ?_); refine And.intro ?_ ?_) | (with_reducible refine r_cnd ?_ ?_)); all_goals (intro hc; (try simp only [push_cast, Int.reduceEq, Int.reduceLT, Int.reduceLE, Int.reduceNe] at hc))) | ((with_reducible refine hK _ _ ?_); clear hK; clear K) | ((with_reducible first | refine d_blk ?_ | refine d_rt0 ?_ | refine d_sk0 ?_ | refine d_ex0 ?_); (try simp only [go_sem, Nat.reduceAdd, Nat.reduceEqDiff, Int.reduceToNat, Nat.reduceMul, Nat.reduceSub])) | (with_reducible refine r_rq (by first | decide | omega) ?_) | ((with_reducible refine r_nwc ?_); intro b) | ((with_reducible first | apply i_lds | apply i_ldsq | apply i_ld | apply i_ldq); exact rfl) | ((with_reducible first | apply i_ldn | apply i_ldnq); exact rfl; exact rfl; exact rfl) | (with_reducible first | refine r_ph0 ?_ | apply i_kp0) | ((with_reducible first | apply i_st | apply i_stl); (focus simp); exact rfl) | simp only [go_sem, Nat.reduceAdd, Nat.reduceEqDiff, Int.reduceToNat, Nat.reduceMul, Nat.reduceSub] | (clear hK; clear K))
      have hb : (R1.fail 3).b = R1.b ∧ (R1.fail 3).s = R1.s ∧ (R1.fail 3).a = R1.a := by unfold Rd.fail; split <;> exact ⟨rfl, rfl, rfl⟩
      rw [← hb.1]
      refine i_clq (f90 (R1.fail 3) _ (by rw [hb.2.1, h2]; exact hl) (by rw [hb.2.1, hb.2.2]; exact h1)) ?_
      repeat' ((fail_if_success with_reducible refine (id : E _ (ph _) → E _ (ph _)) ?_); first | ((with_reducible refine d_seq ?_); intro K hK) | ((with_reducible refine d_reg ?_); simp only [go_sem, Nat.reduceAdd, Nat.reduceEqDiff, Int.reduceToNat, Nat.reduceMul, Nat.reduceSub]) | ((first | ((with_reducible refine d_cnd ?_); refine And.intro ?_ ?_) | (with_reducible refine r_cnd ?_ ?_)); all_goals (intro hc; (try simp only [push_cast, Int.reduceEq, Int.reduceLT, Int.reduceLE, Int.reduceNe] at hc))) | ((with_reducible refine hK _ _ ?_); clear hK; clear K) | ((with_reducible first | refine d_blk ?_ | refine d_rt0 ?_ | refine d_sk0 ?_ | refine d_ex0 ?_); (try simp only [go_sem, Nat.reduceAdd, Nat.reduceEqDiff, Int.reduceToNat, Nat.reduceMul, Nat.reduceSub])) | (with_reducible refine r_rq (by first | decide | omega) ?_) | ((with_reducible refine r_nwc ?_); intro b) | ((with_reducible first | apply i_lds | apply i_ldsq | apply i_ld | apply i_ldq); exact rfl) | ((with_reducible first | apply i_ldn | apply i_ldnq); exact rfl; exact rfl; exact rfl) | (with_reducible first | refine r_ph0 ?_ | apply i_kp0) | ((with_reducible first | apply i_st | apply i_stl); (focus simp); exact rfl) | simp only [go_sem, Nat.reduceAdd, Nat.reduceEqDiff, Int.reduceToNat, Nat.reduceMul, Nat.reduceSub] | (clear hK; clear K))
      (with_reducible first | apply i_ret0 | apply i_ret2 | apply i_ret3 | apply i_ret); exact rfl
      rfl
    · simp only [he, hm, and_false, if_false]
      intro L
      refine c73_fn rfl rfl ?_
      repeat' ((fail_if_success with_reducible refine (id : E _ (ph _) → E _ (ph _)) ?_); first | ((with_reducible refine d_seq ?_); intro K hK) | ((with_reducible refine d_reg ?_); simp only [go_sem, Nat.reduceAdd, Nat.reduceEqDiff, Int.reduceToNat, Nat.reduceMul, Nat.reduceSub]) | ((first | ((with_reducible refine d_cnd ?_); refine And.intro ?_ ?_) | (with_reducible refine r_cnd ?_ ?_)); all_goals (intro hc; (try simp only [push_cast, Int.reduceEq, Int.reduceLT, Int.reduceLE, Int.reduceNe] at hc))) | ((with_reducible refine hK _ _ ?_); clear hK; clear K) | ((with_reducible first | refine d_blk ?_ | refine d_rt0 ?_ | refine d_sk0 ?_ | refine d_ex0 ?_); (try simp only [go_sem, Nat.reduceAdd, Nat.reduceEqDiff, Int.reduceToNat, Nat.reduceMul, Nat.reduceSub])) | (with_reducible refine r_rq (by first | decide | omega) ?_) | ((with_reducible refine r_nwc ?_); intro b) | ((with_reducible first | apply i_lds | apply i_ldsq | apply i_ld | apply i_ldq); exact rfl) | ((with_reducible first | apply i_ldn | apply i_ldnq); exact rfl; exact rfl; exact rfl) | (with_reducible first | refine r_ph0 ?_ | apply i_kp0) | ((with_reducible first | apply i_st | apply i_stl); (focus simp); exact rfl) | simp only [go_sem, Nat.reduceAdd, Nat.reduceEqDiff, Int.reduceToNat, Nat.reduceMul, Nat.reduceSub] | (clear hK; clear K))
      refine i_clq h0 ?_
      repeat' ((fail_if_success with_reducible refine (id : E _ (ph _) → E _ (ph _)) ?_); first | ((with_reducible refine d_seq ?_); intro K hK) | ((with_reducible refine d_reg ?_); simp only [go_sem, Nat.reduceAdd, Nat.reduceEqDiff, Int.reduceToNat, Nat.reduceMul, Nat.reduceSub]) | ((first | ((with_reducible refine d_cnd ?_); refine And.intro ?_ ?_) | (with_reducible refine r_cnd ?_ ?_)); all_goals (intro hc; (try simp only [push_cast, Int.reduceEq, Int.reduceLT, Int.reduceLE, Int.reduceNe] at hc))) | ((with_reducible refine hK _ _ ?_); clear hK; clear K) | ((with_reducible first | refine d_blk ?_ | refine d_rt0 ?_ | refine d_sk0 ?_ | refine d_ex0 ?_); (try simp only [go_sem, Nat.reduceAdd, Nat.reduceEqDiff, Int.reduceToNat, Nat.reduceMul, Nat.reduceSub])) | (with_reducible refine r_rq (by first | decide | omega) ?_) | ((with_reducible refine r_nwc ?_); intro b) | ((with_reducible first | apply i_lds | apply i_ldsq | apply i_ld | apply i_ldq); exact rfl) | ((with_reducible first | apply i_ldn | apply i_ldnq); exact rfl; exact rfl; exact rfl) | (with_reducible first | refine r_ph0 ?_ | apply i_kp0) | ((with_reducible first | apply i_st | apply i_stl); (focus simp); exact rfl) | simp only [go_sem, Nat.reduceAdd, Nat.reduceEqDiff, Int.reduceToNat, Nat.reduceMul, Nat.reduceSub] | (clear hK; clear K))
      rw [← h3]
      refine i_clp (f88 R1) ?_
      repeat' ((fail_if_success with_reducible refine (id : E _ (ph _) → E _ (ph _)) ?_); first | ((with_reducible refine d_seq ?_); intro K hK) | ((with_reducible refine d_reg ?_); simp only [go_sem, Nat.reduceAdd, Nat.reduceEqDiff, Int.reduceToNat, Nat.reduceMul, Nat.reduceSub]) | ((first | ((with_reducible refine d_cnd ?_); refine And.intro ?_ ?_) | (with_reducible refine r_cnd ?_ ?_)); all_goals (intro hc; (try simp only [push_cast, Int.reduceEq, Int.reduceLT, Int.reduceLE, Int.reduceNe] at hc))) | ((with_reducible refine hK _ _ ?_); clear hK; clear K) | ((with_reducible first | refine d_blk ?_ | refine d_rt0 ?_ | refine d_sk0 ?_ | refine d_ex0 ?_); (try simp only [go_sem, Nat.reduceAdd, Nat.reduceEqDiff, Int.reduceToNat, Nat.reduceMul, Nat.reduceSub])) | (with_reducible refine r_rq (by first | decide | omega) ?_) | ((with_reducible refine r_nwc ?_); intro b) | ((with_reducible first | apply i_lds | apply i_ldsq | apply i_ld | apply i_ldq); exact rfl) | ((with_reducible first | apply i_ldn | apply i_ldnq); exact rfl; exact rfl; exact rfl) | (with_reducible first | refine r_ph0 ?_ | apply i_kp0) | ((with_reducible first | apply i_st | apply i_stl); (focus simp); exact rfl) | simp only [go_sem, Nat.reduceAdd, Nat.reduceEqDiff, Int.reduceToNat, Nat.reduceMul, Nat.reduceSub] | (clear hK; clear K))
      all_goals try (first | contradiction | (exfalso; omega))
      refine i_clq (f90 R1 _ (by rw [h2]; exact hl) h1) ?_
      repeat' ((fail_if_success with_reducible refine (id : E _ (ph _) → E _ (ph _)) ?_); first | ((with_reducible refine d_seq ?_); intro K hK) | ((with_reducible refine d_reg ?_); simp only [go_sem, Nat.reduceAdd, Nat.reduceEqDiff, Int.reduceToNat, Nat.reduceMul, Nat.reduceSub]) | ((first | ((with_reducible refine d_cnd ?_); refine And.intro ?_ ?_) | (with_reducible refine r_cnd ?_ ?_)); all_goals (intro hc; (try simp only [push_cast, Int.reduceEq, Int.reduceLT, Int.reduceLE, Int.reduceNe] at hc))) | ((with_reducible refine hK _ _ ?_); clear hK; clear K) | ((with_reducible first | refine d_blk ?_ | refine d_rt0 ?_ | refine d_sk0 ?_ | refine d_ex0 ?_); (try simp only [go_sem, Nat.reduceAdd, Nat.reduceEqDiff, Int.reduceToNat, Nat.reduceMul, Nat.reduceSub])) | (with_reducible refine r_rq (by first | decide | omega) ?_) | ((with_reducible refine r_nwc ?_); intro b) | ((with_reducible first | apply i_lds | apply i_ldsq | apply i_ld | apply i_ldq); exact rfl) | ((with_reducible first | apply i_ldn | apply i_ldnq); exact rfl; exact rfl; exact rfl) | (with_reducible first | refine r_ph0 ?_ | apply i_kp0) | ((with_reducible first | apply i_st | apply i_stl); (focus simp); exact rfl) | simp only [go_sem, Nat.reduceAdd, Nat.reduceEqDiff, Int.reduceToNat, Nat.reduceMul, Nat.reduceSub] | (clear hK; clear K))
      (with_reducible first | apply i_ret0 | apply i_ret2 | apply i_ret3 | apply i_ret); exact rfl
      rfl
  · simp only [he, false_and, if_false]
    intro L
    refine c73_fn rfl rfl ?_
    repeat' ((fail_if_success with_reducible refine (id : E _ (ph _) → E _ (ph _)) ?_); first | ((with_reducible refine d_seq ?_); intro K hK) | ((with_reducible refine d_reg ?_); simp only [go_sem, Nat.reduceAdd, Nat.reduceEqDiff, Int.reduceToNat, Nat.reduceMul, Nat.reduceSub]) | ((first | ((with_reducible refine d_cnd ?_); refine And.intro ?_ ?_) | (with_reducible refine r_cnd ?_ ?_)); all_goals (intro hc; (try simp only [push_cast, Int.reduceEq, Int.reduceLT, Int.reduceLE, Int.reduceNe] at hc))) | ((with_reducible refine hK _ _ ?_); clear hK; clear K) | ((with_reducible first | refine d_blk ?_ | refine d_rt0 ?_ | refine d_sk0 ?_ | refine d_ex0 ?_); (try simp only [go_sem, Nat.reduceAdd, Nat.reduceEqDiff, Int.reduceToNat, Nat.reduceMul, Nat.reduceSub])) | (with_reducible refine r_rq (by first | decide | omega) ?_) | ((with_reducible refine r_nwc ?_); intro b) | ((with_reducible first | apply i_lds | apply i_ldsq | apply i_ld | apply i_ldq); exact rfl) | ((with_reducible first | apply i_ldn | apply i_ldnq); exact rfl; exact rfl; exact rfl) | (with_reducible first | refine r_ph0 ?_ | apply i_kp0) | ((with_reducible first | apply i_st | apply i_stl); (focus simp); exact rfl) | simp only [go_sem, Nat.reduceAdd, Nat.reduceEqDiff, Int.reduceToNat, Nat.reduceMul, Nat.reduceSub] | (clear hK; clear K))
    refine i_clq h0 ?_
    repeat' ((fail_if_success with_reducible refine (id : E _ (ph _) → E _ (ph _)) ?_); first | ((with_reducible refine d_seq ?_); intro K hK) | ((with_reducible refine d_reg ?_); simp only [go_sem, Nat.reduceAdd, Nat.reduceEqDiff, Int.reduceToNat, Nat.reduceMul, Nat.reduceSub]) | ((first | ((with_reducible refine d_cnd ?_); refine And.intro ?_ ?_) | (with_reducible refine r_cnd ?_ ?_)); all_goals (intro hc; (try simp only [push_cast, Int.reduceEq, Int.reduceLT, Int.reduceLE, Int.reduceNe] at hc))) | ((with_reducible refine hK _ _ ?_); clear hK; clear K) | ((with_reducible first | refine d_blk ?_ | refine d_rt0 ?_ | refine d_sk0 ?_ | refine d_ex0 ?_); (try simp only [go_sem, Nat.reduceAdd, Nat.reduceEqDiff, Int.reduceToNat, Nat.reduceMul, Nat.reduceSub])) | (with_reducible refine r_rq (by first | decide | omega) ?_) | ((with_reducible refine r_nwc ?_); intro b) | ((with_reducible first | apply i_lds | apply i_ldsq | apply i_ld | apply i_ldq); exact rfl) | ((with_reducible first | apply i_ldn | apply i_ldnq); exact rfl; exact rfl; exact rfl) | (with_reducible first | refine r_ph0 ?_ | apply i_kp0) | ((with_reducible first | apply i_st | apply i_stl); (focus simp); exact rfl) | simp only [go_sem, Nat.reduceAdd, Nat.reduceEqDiff, Int.reduceToNat, Nat.reduceMul, Nat.reduceSub] | (clear hK; clear K))
    rw [← h3]
    refine i_clp (f88 R1) ?_
    repeat' ((fail_if_success with_reducible refine (id : E _ (ph _) → E _ (ph _)) ?_); first | ((with_reducible refine d_seq ?_); intro K hK) | ((with_reducible refine d_reg ?_); simp only [go_sem, Nat.reduceAdd, Nat.reduceEqDiff, Int.reduceToNat, Nat.reduceMul, Nat.reduceSub]) | ((first | ((with_reducible refine d_cnd ?_); refine And.intro ?_ ?_) | (with_reducible refine r_cnd ?_ ?_)); all_goals (intro hc; (try simp only [push_cast, Int.reduceEq, Int.reduceLT, Int.reduceLE, Int.reduceNe] at hc))) | ((with_reducible refine hK _ _ ?_); clear hK; clear K) | ((with_reducible first | refine d_blk ?_ | refine d_rt0 ?_ | refine d_sk0 ?_ | refine d_ex0 ?_); (try simp only [go_sem, Nat.reduceAdd, Nat.reduceEqDiff, Int.reduceToNat, Nat.reduceMul, Nat.reduceSub])) | (with_reducible refine r_rq (by first | decide | omega) ?_) | ((with_reducible refine r_nwc ?_); intro b) | ((with_reducible first | apply i_lds | apply i_ldsq | apply i_ld | apply i_ldq); exact rfl) | ((with_reducible first | apply i_ldn | apply i_ldnq); exact rfl; exact rfl; exact rfl) | (with_reducible first | refine r_ph0 ?_ | apply i_kp0) | ((with_reducible first | apply i_st | apply i_stl); (focus simp); exact rfl) | simp only [go_sem, Nat.reduceAdd, Nat.reduceEqDiff, Int.reduceToNat, Nat.reduceMul, Nat.reduceSub] | (clear hK; clear K))
    all_goals try (first | contradiction | (exfalso; omega))
    refine i_clq (f90 R1 _ (by rw [h2]; exact hl) h1) ?_
    repeat' ((fail_if_success with_reducible refine (id : E _ (ph _) → E _ (ph _)) ?_); first | ((with_reducible refine d_seq ?_); intro K hK) | ((with_reducible refine d_reg ?_); simp only [go_sem, Nat.reduceAdd, Nat.reduceEqDiff, Int.reduceToNat, Nat.reduceMul, Nat.reduceSub]) | ((first | ((with_reducible refine d_cnd ?_); refine And.intro ?_ ?_) | (with_reducible refine r_cnd ?_ ?_)); all_goals (intro hc; (try simp only [push_cast, Int.reduceEq, Int.reduceLT, Int.reduceLE, Int.reduceNe] at hc))) | ((with_reducible refine hK _ _ ?_); clear hK; clear K) | ((with_reducible first | refine d_blk ?_ | refine d_rt0 ?_ | refine d_sk0 ?_ | refine d_ex0 ?_); (try simp only [go_sem, Nat.reduceAdd, Nat.reduceEqDiff, Int.reduceToNat, Nat.reduceMul, Nat.reduceSub])) | (with_reducible refine r_rq (by first | decide | omega) ?_) | ((with_reducible refine r_nwc ?_); intro b) | ((with_reducible first | apply i_lds | apply i_ldsq | apply i_ld | apply i_ldq); exact rfl) | ((with_reducible first | apply i_ldn | apply i_ldnq); exact rfl; exact rfl; exact rfl) | (with_reducible first | refine r_ph0 ?_ | apply i_kp0) | ((with_reducible first | apply i_st | apply i_stl); (focus simp); exact rfl) | simp only [go_sem, Nat.reduceAdd, Nat.reduceEqDiff, Int.reduceToNat, Nat.reduceMul, Nat.reduceSub] | (clear hK; clear K))
    (with_reducible first | apply i_ret0 | apply i_ret2 | apply i_ret3 | apply i_ret); exact rfl
    rfl
end Go.Sp
/- The reader, where it goes well; a sign ahead. -/
namespace Go.Sp
open Go Go.Proofs
set_option linter.unusedSimpArgs false
set_option linter.unusedVariables false
set_option maxRecDepth 10000
theorem raw_go (b : Nat) (s : List UInt8) (a w : Nat) (h : a + w ≤ s.length) : (⟨b, s, a, 0⟩ : Rd).raw (w : Int) = ((s.drop a).take w, ⟨b, s, a + w, 0⟩) := by
  unfold Rd.raw
  simp only [if_true]
  rw [if_neg (by omega), if_neg (by omega)]
  simp
theorem num_go (b : Nat) (s : List UInt8) (a w : Nat) (h : a + w ≤ s.length) (h1 : 1 ≤ w) (h6 : w ≤ 6) (hl : s.length ≤ 4611686018427387904) :
    Fq eI Try.prog 75 #[.pointer (some ⟨b, 0, none⟩), .int .i64 (w : Int)] (rdl ⟨b, s, a, 0⟩) (rdl ⟨b, s, a + w, 0⟩) (be ((s.drop a).take w) : Int) := by
  have := f75 ⟨b, s, a, 0⟩ (w : Int) (by omega) (by omega) hl (by simp only; omega)
  rw [raw_go b s a w h] at this
  exact this
theorem text_go (b : Nat) (s : List UInt8) (most : Nat) (h : 2 + most ≤ s.length) : (⟨b, s, 0, 0⟩ : Rd).text (most : Int) =
    if be (s.take 2) ≤ most then ((s.drop 2).take (be (s.take 2)), ⟨b, s, 2 + be (s.take 2), 0⟩) else ([], ⟨b, s, 2, 3⟩) := by
  unfold Rd.text
  have e := raw_go b s 0 2 (by omega)
  simp only [List.drop_zero, Nat.zero_add] at e
  rw [show ((2 : Nat) : Int) = 2 from rfl] at e
  rw [e]
  by_cases hm : be (s.take 2) ≤ most
  · rw [if_pos hm]
    simp only [true_and]
    rw [if_neg (by omega), raw_go b s 2 _ (by omega)]
  · rw [if_neg hm]
    simp only [true_and]
    rw [if_pos (by omega)]
    simp [Rd.fail, Rd.raw]
theorem sign_iff (s g : List UInt8) (hs : 9 ≤ s.length) (hg : g.length = 7) : (be (s.take 2) ≤ 7 ∧ (s.drop 2).take (be (s.take 2)) = g) ↔ s.take 9 = 0 :: 7 :: g := by
  match s, hs with
  | x :: y :: r, hs =>
    have e : be ((x :: y :: r).take 2) = x.toNat * 256 + y.toNat := by simp [be]
    rw [e]
    simp only [List.drop_succ_cons, List.drop_zero, List.take_succ_cons, List.cons.injEq]
    have hx := x.toNat_lt
    have hy := y.toNat_lt
    simp only [List.length_cons] at hs
    constructor
    · rintro ⟨h1, h2⟩
      have h3 := congrArg List.length h2
      rw [List.length_take, hg] at h3
      have h7 : x.toNat * 256 + y.toNat = 7 := by omega
      refine ⟨UInt8.toNat_inj.1 (by simp; omega), UInt8.toNat_inj.1 (by simp; omega), ?_⟩
      rw [h7] at h2
      exact h2
    · rintro ⟨rfl, rfl, h⟩
      exact ⟨by decide, h⟩
end Go.Sp
/- Numbers as bytes, and back. -/
namespace Go.Sp
open Go
set_option linter.unusedSimpArgs false
set_option linter.unusedVariables false
set_option maxRecDepth 10000
/-- The low bytes of a number, the highest first. -/
def lowb (n : Int) : Nat → List UInt8
  | 0 => []
  | i + 1 => UInt8.ofNat ((n / 256 ^ i) % 256).toNat :: lowb n i
theorem lowb_len (n : Int) (i : Nat) : (lowb n i).length = i := by
  induction i with
  | zero => rfl
  | succ i ih => simp [lowb, ih]
theorem and255 {n : Int} (h0 : 0 ≤ n) (h1 : n < 4611686018427387904) : bits .and .i64 n 255 = n % 256 := bits_mask .i64 62 (by decide) wr62 8 (by decide) n h0 (by omega)
theorem fold_eq : ∀ (l : List UInt8) (n : Nat), l.foldl (fun n c => n * 256 + c.toNat) n = n * 256 ^ l.length + be l
  | [], n => by simp [be]
  | c :: l, n => by
    have h1 := fold_eq l (n * 256 + c.toNat)
    have h2 : be (c :: l) = c.toNat * 256 ^ l.length + be l := by
      have := fold_eq l c.toNat
      simpa [be] using this
    rw [h2, List.foldl_cons, h1, List.length_cons, Nat.pow_succ, Nat.add_mul, Nat.mul_assoc, Nat.mul_comm 256 (256 ^ l.length), Nat.add_assoc]
theorem lowb_fold : ∀ (l : List UInt8) (n : Nat), lowb ((l.foldl (fun n c => n * 256 + c.toNat) n : Nat) : Int) l.length = l
  | [], n => rfl
  | c :: l, n => by
    have h := lowb_fold l (n * 256 + c.toNat)
    simp only [List.foldl_cons, List.length_cons, lowb]
    rw [h]
    have e := fold_eq l (n * 256 + c.toNat)
    have hb := be_lt l
    have hd : (l.foldl (fun n c => n * 256 + c.toNat) (n * 256 + c.toNat)) / 256 ^ l.length = n * 256 + c.toNat := by
      rw [e, Nat.mul_comm, Nat.mul_add_div (Nat.pow_pos (by decide)), Nat.div_eq_of_lt hb]; omega
    have hc := c.toNat_lt
    have h3 : ((((l.foldl (fun n c => n * 256 + c.toNat) (n * 256 + c.toNat) : Nat) : Int) / 256 ^ l.length) % 256).toNat = c.toNat := by
      generalize l.foldl (fun n c => n * 256 + c.toNat) (n * 256 + c.toNat) = X at *
      have h4 : ((X : Int) / 256 ^ l.length) = ((X / 256 ^ l.length : Nat) : Int) := by simp
      rw [h4, hd]; omega
    rw [h3]
    simp
theorem lowb_be {l : List UInt8} {w : Nat} (h : l.length = w) : lowb (be l : Int) w = l := by subst h; exact lowb_fold l 0
theorem be_fit {l : List UInt8} {w : Nat} (h : l.length = w) : ((be l : Int) / 256 ^ w == 0) = true := by
  subst h
  have hb := be_lt l
  have : be l / 256 ^ l.length = 0 := Nat.div_eq_of_lt hb
  have h4 : ((be l : Int) / 256 ^ l.length) = ((be l / 256 ^ l.length : Nat) : Int) := by simp
  rw [h4, this]; rfl
theorem be_cons (c : UInt8) (l : List UInt8) : be (c :: l) = c.toNat * 256 ^ l.length + be l := by
  have := fold_eq l c.toNat
  simpa [be] using this
theorem be_lowb {n : Int} (h : 0 ≤ n) : ∀ w : Nat, (be (lowb n w) : Int) = n % 256 ^ w
  | 0 => by simp [lowb, be, Int.emod_one]
  | w + 1 => by
    have ih := be_lowb h w
    have hp : (0 : Int) < 256 ^ w := Int.pow_pos (by decide)
    have hq : 0 ≤ (n / 256 ^ w) % 256 ∧ (n / 256 ^ w) % 256 < 256 := by omega
    simp only [lowb, be_cons, lowb_len]
    have e1 : ((UInt8.ofNat ((n / 256 ^ w) % 256).toNat).toNat : Int) = (n / 256 ^ w) % 256 := by
      have : ((n / 256 ^ w) % 256).toNat < 256 := by omega
      simp only [UInt8.toNat_ofNat']
      omega
    rw [Int.natCast_add, Int.natCast_mul, e1, ih, Int.natCast_pow, Int.pow_succ]
    have e2 := Int.emod_add_mul_ediv n (256 ^ w)
    have e3 := Int.emod_add_mul_ediv (n / 256 ^ w) 256
    have e4 : n / 256 ^ w / 256 = n / (256 ^ w * 256) := Int.ediv_ediv_of_nonneg (by omega)
    have e5 := Int.emod_add_mul_ediv n (256 ^ w * 256)
    rw [← e4] at e5
    generalize (256 : Int) ^ w = P at *
    generalize n / P = q at *
    generalize q / 256 = r at *
    generalize hm : q % 256 = m at *
    have e6 : P * q = P * m + P * (256 * r) := by rw [← Int.mul_add, e3]
    have e7 : P * 256 * r = P * (256 * r) := Int.mul_assoc _ _ _
    have e8 : m * P = P * m := Int.mul_comm _ _
    omega
theorem be_fits {n : Int} {w : Nat} (h : 0 ≤ n) (h2 : n < ((256 ^ w : Nat) : Int)) : (be (lowb n w) : Int) = n := by
  rw [be_lowb h]
  have e : ((256 ^ w : Nat) : Int) = 256 ^ w := by simp
  rw [e] at h2
  exact Int.emod_eq_of_lt h h2
theorem mid_at {A B R : List UInt8} {a w : Nat} (ha : A.length = a) (hw : B.length = w) : ((A ++ B ++ R).drop a).take w = B := by
  subst ha hw
  simp
end Go.Sp
/- What each region of the Go functions does. Written by my own generator. -/
namespace Go.Sp
open Go
set_option maxRecDepth 100000
set_option linter.unusedVariables false
open Go.Proofs
/-! (*gharry.pack.Writer).Text -/
noncomputable def c94 : Cfg := { P := Try.prog, n := 7, T := TT, body := (Try.f94.body).getD .skip, res := Try.f94.results.toList, li := lk [] [(0, [0, 1]), (1, [0, 3])], lo := lk [] [(0, [0, 3]), (1, []), (1000000, [])], ord := lk (false, []) [] }
@[go_sem] theorem c94_i0 : c94.li 0 = [0, 1] := rfl
@[go_sem] theorem c94_i1 : c94.li 1 = [0, 3] := rfl
@[go_sem] theorem c94_r0 (w0 : Option Addr) (t1 : List UInt8) (K : Env → W) : RP c94 0 [(0, .pointer w0), (1, str t1)] K =
    (nwc #[str t1] 9 fun y1_ => (K [(0, .pointer w0), (3, .pointer (some y1_))])) := by kernel_rfl
@[go_sem] theorem c94_r1 (w0 : Option Addr) (t3 : Addr) (K : Env → W) : RP c94 1 [(0, .pointer w0), (3, .pointer (some t3))] K =
    (cal eN Try.prog 115 #[.pointer w0, .func (.func 116) #[] #[.pointer (some t3)]] fun (y1_ : Unit) => (K [])) := by kernel_rfl
@[go_sem] theorem c94_o : c94.lo 1000000 = [] := rfl
@[go_sem] theorem c94_e (k : Value → W) : RTp c94 [] k = (k (.tuple #[])) := by kernel_rfl
theorem c94_ok : (c94.P.follows .mixedOrders && okc c94 c94.body) = true := by kernel_rfl
theorem c94_fn {e : Enc} {args : Array Value} {G : e.α → W} {L : List HP} {ρ : Env} (hρ : envA 0 args.toList = ρ) (hs : Nat.ble args.size 7 = true) (h : E L (D c94 (.seq (.reg 0) (.reg 1)) (fnQ c94 e G) ρ)) : E L (cal e Try.prog 94 args G) :=
  d_fn (c := c94) Try.func94 (by kernel_rfl) (by kernel_rfl) (by kernel_rfl) c94_ok (by kernel_rfl) (by kernel_rfl) hρ hs h
/-! (*gharry.pack.Writer).Num -/
noncomputable def c95 : Cfg := { P := Try.prog, n := 9, T := TT, body := (Try.f95.body).getD .skip, res := Try.f95.results.toList, li := lk [] [(0, [0, 1, 2]), (1, [0, 4, 5])], lo := lk [] [(0, [0, 4, 5]), (1, []), (1000000, [])], ord := lk (false, []) [] }
@[go_sem] theorem c95_i0 : c95.li 0 = [0, 1, 2] := rfl
@[go_sem] theorem c95_i1 : c95.li 1 = [0, 4, 5] := rfl
@[go_sem] theorem c95_r0 (w0 : Option Addr) (n1 : Int) (width2 : Int) (K : Env → W) : RP c95 0 [(0, .pointer w0), (1, .int .i64 n1), (2, .int .i64 width2)] K =
    (nwc #[.int .i64 n1] 3 fun y1_ => (nwc #[.int .i64 width2] 3 fun y2_ => (K [(0, .pointer w0), (4, .pointer (some y1_)), (5, .pointer (some y2_))]))) := by kernel_rfl
@[go_sem] theorem c95_r1 (w0 : Option Addr) (n4 : Addr) (width5 : Addr) (K : Env → W) : RP c95 1 [(0, .pointer w0), (4, .pointer (some n4)), (5, .pointer (some width5))] K =
    (cal eN Try.prog 115 #[.pointer w0, .func (.func 118) #[] #[.pointer (some n4), .pointer (some width5)]] fun (y1_ : Unit) => (K [])) := by kernel_rfl
@[go_sem] theorem c95_o : c95.lo 1000000 = [] := rfl
@[go_sem] theorem c95_e (k : Value → W) : RTp c95 [] k = (k (.tuple #[])) := by kernel_rfl
theorem c95_ok : (c95.P.follows .mixedOrders && okc c95 c95.body) = true := by kernel_rfl
theorem c95_fn {e : Enc} {args : Array Value} {G : e.α → W} {L : List HP} {ρ : Env} (hρ : envA 0 args.toList = ρ) (hs : Nat.ble args.size 9 = true) (h : E L (D c95 (.seq (.reg 0) (.reg 1)) (fnQ c95 e G) ρ)) : E L (cal e Try.prog 95 args G) :=
  d_fn (c := c95) Try.func95 (by kernel_rfl) (by kernel_rfl) (by kernel_rfl) c95_ok (by kernel_rfl) (by kernel_rfl) hρ hs h
/-! (*gharry.pack.Writer).All -/
noncomputable def c96 : Cfg := { P := Try.prog, n := 14, T := TT, body := (Try.f96.body).getD .skip, res := Try.f96.results.toList, li := lk [] [(0, [0]), (1, [0]), (2, []), (3, [0])], lo := lk [] [(0, [0]), (1, [0, 5]), (2, [2, 3]), (3, [2, 3]), (1000000, [2, 3])], ord := lk (false, []) [(3, (true, [(0, 1), (1, 1), (2, 1), (3, 0), (4, 1), (5, 1), (6, 1), (7, 0), (8, 1), (9, 1)]))] }
@[go_sem] theorem c96_i0 : c96.li 0 = [0] := rfl
@[go_sem] theorem c96_i1 : c96.li 1 = [0] := rfl
@[go_sem] theorem c96_i2 : c96.li 2 = [] := rfl
@[go_sem] theorem c96_i3 : c96.li 3 = [0] := rfl
@[go_sem] theorem c96_r0 (w0 : Option Addr) (K : Env → W) : RP c96 0 [(0, .pointer w0)] K =
    (K [(0, .pointer w0)]) := by kernel_rfl
@[go_sem] theorem c96_r1 (w0 : Option Addr) (K : Env → W) : RP c96 1 [(0, .pointer w0)] K =
    (K [(0, .pointer w0), (5, .bool ((w0).isNone))]) := by kernel_rfl
@[go_sem] theorem c96_r2 (K : Env → W) : RP c96 2 [] K =
    (K [(2, str (([] : List UInt8))), (3, .int .i64 ((11 : Int)))]) := by kernel_rfl
@[go_sem] theorem c96_r3 (w0 : Option Addr) (K : Env → W) : RP c96 3 [(0, .pointer w0)] K =
    (ph fun S0 => (nn w0 fun y1_ => (ldq S0 eS y1_ fun (y2_ : List UInt8) => (nn w0 fun y3_ => (ldq S0 eI ((y3_.add 1)) fun (y4_ : Int) => (K [(2, str y2_), (3, .int .i64 y4_)])))))) := by kernel_rfl
@[go_sem] theorem c96_o : c96.lo 1000000 = [2, 3] := rfl
@[go_sem] theorem c96_e (t2 : List UInt8) (t3 : Int) (k : Value → W) : RTp c96 [(2, str t2), (3, .int .i64 t3)] k = (k (.tuple #[str t2, .int .i64 t3])) := by kernel_rfl
theorem c96_ok : (c96.P.follows .mixedOrders && okc c96 c96.body) = true := by kernel_rfl
theorem c96_fn {e : Enc} {args : Array Value} {G : e.α → W} {L : List HP} {ρ : Env} (hρ : envA 0 args.toList = ρ) (hs : Nat.ble args.size 14 = true) (h : E L (D c96 (.seq (.reg 0) (.seq (.seq (.reg 1) (.cond (.tmp 5) (.seq (.reg 2) (.ret)) (.skip))) (.seq (.reg 3) (.ret)))) (fnQ c96 e G) ρ)) : E L (cal e Try.prog 96 args G) :=
  d_fn (c := c96) Try.func96 (by kernel_rfl) (by kernel_rfl) (by kernel_rfl) c96_ok (by kernel_rfl) (by kernel_rfl) hρ hs h
/-! gharry.pack.Put -/
noncomputable def c97 : Cfg := { P := Try.prog, n := 49, T := TT, body := (Try.f97.body).getD .skip, res := Try.f97.results.toList, li := lk [] [(0, [0, 1, 2]), (1, [0, 1, 2]), (2, []), (3, [0, 1, 2]), (4, []), (5, [0, 1, 2]), (6, [0, 1, 2, 8]), (7, [0, 1, 2, 8, 29, 30]), (8, [0, 1, 2, 8, 29, 30]), (9, [0, 1, 2, 8, 9, 29, 30]), (10, [0, 1, 2, 8, 29, 30]), (11, [0, 8])], lo := lk [] [(0, [0, 1, 2]), (1, [0, 1, 2, 10]), (2, [6, 7]), (3, [0, 1, 2, 17]), (4, [6, 7]), (5, [0, 1, 2, 8]), (6, [0, 1, 2, 8, 29, 30]), (7, [0, 1, 2, 8, 29, 30, 31]), (8, [0, 1, 2, 8, 9, 29, 30]), (9, [0, 1, 2, 8, 29, 30]), (10, [0, 1, 2, 8, 29, 30]), (11, [6, 7]), (1000000, [6, 7])], ord := lk (false, []) [] }
@[go_sem] theorem c97_i0 : c97.li 0 = [0, 1, 2] := rfl
@[go_sem] theorem c97_i1 : c97.li 1 = [0, 1, 2] := rfl
@[go_sem] theorem c97_i2 : c97.li 2 = [] := rfl
@[go_sem] theorem c97_i3 : c97.li 3 = [0, 1, 2] := rfl
@[go_sem] theorem c97_i4 : c97.li 4 = [] := rfl
@[go_sem] theorem c97_i5 : c97.li 5 = [0, 1, 2] := rfl
@[go_sem] theorem c97_i6 : c97.li 6 = [0, 1, 2, 8] := rfl
@[go_sem] theorem c97_i7 : c97.li 7 = [0, 1, 2, 8, 29, 30] := rfl
@[go_sem] theorem c97_i8 : c97.li 8 = [0, 1, 2, 8, 29, 30] := rfl
@[go_sem] theorem c97_i9 : c97.li 9 = [0, 1, 2, 8, 9, 29, 30] := rfl
@[go_sem] theorem c97_i10 : c97.li 10 = [0, 1, 2, 8, 29, 30] := rfl
@[go_sem] theorem c97_i11 : c97.li 11 = [0, 8] := rfl
@[go_sem] theorem c97_r0 (s0 : List UInt8) (n1 : Int) (width2 : Int) (K : Env → W) : RP c97 0 [(0, str s0), (1, .int .i64 n1), (2, .int .i64 width2)] K =
    (K [(0, str s0), (1, .int .i64 n1), (2, .int .i64 width2)]) := by kernel_rfl
@[go_sem] theorem c97_r1 (s0 : List UInt8) (n1 : Int) (width2 : Int) (K : Env → W) : RP c97 1 [(0, str s0), (1, .int .i64 n1), (2, .int .i64 width2)] K =
    (cnd ((decide (width2 < (1 : Int)))) (K [(0, str s0), (1, .int .i64 n1), (2, .int .i64 width2), (10, .bool true)]) (K [(0, str s0), (1, .int .i64 n1), (2, .int .i64 width2), (10, .bool ((decide ((6 : Int) < width2))))])) := by kernel_rfl
@[go_sem] theorem c97_r2 (K : Env → W) : RP c97 2 [] K =
    (K [(6, str (([] : List UInt8))), (7, .int .i64 ((1 : Int)))]) := by kernel_rfl
@[go_sem] theorem c97_r3 (s0 : List UInt8) (n1 : Int) (width2 : Int) (K : Env → W) : RP c97 3 [(0, str s0), (1, .int .i64 n1), (2, .int .i64 width2)] K =
    (cnd ((decide (n1 < (0 : Int)))) (K [(0, str s0), (1, .int .i64 n1), (2, .int .i64 width2), (17, .bool true)]) (cal eI Try.prog 119 #[.int .i64 width2] fun (y1_ : Int) => (K [(0, str s0), (1, .int .i64 n1), (2, .int .i64 width2), (17, .bool ((decide (y1_ ≤ n1))))]))) := by kernel_rfl
@[go_sem] theorem c97_r4 (K : Env → W) : RP c97 4 [] K =
    (K [(6, str (([] : List UInt8))), (7, .int .i64 ((6 : Int)))]) := by kernel_rfl
@[go_sem] theorem c97_r5 (s0 : List UInt8) (n1 : Int) (width2 : Int) (K : Env → W) : RP c97 5 [(0, str s0), (1, .int .i64 n1), (2, .int .i64 width2)] K =
    (val eSl Try.prog (oMake 125 (.int .i64 width2) (.int .i64 width2)) fun (y1_ : (Option Addr × Nat × Nat)) => (K [(0, str s0), (1, .int .i64 n1), (2, .int .i64 width2), (8, .slice y1_.1 y1_.2.1 y1_.2.2)])) := by kernel_rfl
@[go_sem] theorem c97_r6 (s0 : List UInt8) (n1 : Int) (width2 : Int) (b8p : Option Addr) (b8n b8c : Nat) (K : Env → W) : RP c97 6 [(0, str s0), (1, .int .i64 n1), (2, .int .i64 width2), (8, .slice b8p b8n b8c)] K =
    (K [(0, str s0), (1, .int .i64 n1), (2, .int .i64 width2), (8, .slice b8p b8n b8c), (29, .int .i64 ((b8n : Int))), (30, .int .i64 ((0 : Int)))]) := by kernel_rfl
@[go_sem] theorem c97_r7 (s0 : List UInt8) (n1 : Int) (width2 : Int) (b8p : Option Addr) (b8n b8c : Nat) (t29 : Int) (t30 : Int) (K : Env → W) : RP c97 7 [(0, str s0), (1, .int .i64 n1), (2, .int .i64 width2), (8, .slice b8p b8n b8c), (29, .int .i64 t29), (30, .int .i64 t30)] K =
    (K [(0, str s0), (1, .int .i64 n1), (2, .int .i64 width2), (8, .slice b8p b8n b8c), (29, .int .i64 t29), (30, .int .i64 t30), (31, .bool ((decide (t30 < t29))))]) := by kernel_rfl
@[go_sem] theorem c97_r8 (s0 : List UInt8) (n1 : Int) (width2 : Int) (b8p : Option Addr) (b8n b8c : Nat) (t29 : Int) (t30 : Int) (K : Env → W) : RP c97 8 [(0, str s0), (1, .int .i64 n1), (2, .int .i64 width2), (8, .slice b8p b8n b8c), (29, .int .i64 t29), (30, .int .i64 t30)] K =
    (K [(0, str s0), (1, .int .i64 n1), (2, .int .i64 width2), (8, .slice b8p b8n b8c), (9, .int .i64 t30), (29, .int .i64 t29), (30, .int .i64 t30)]) := by kernel_rfl
@[go_sem] theorem c97_r9 (s0 : List UInt8) (n1 : Int) (width2 : Int) (b8p : Option Addr) (b8n b8c : Nat) (i9 : Int) (t29 : Int) (t30 : Int) (K : Env → W) : RP c97 9 [(0, str s0), (1, .int .i64 n1), (2, .int .i64 width2), (8, .slice b8p b8n b8c), (9, .int .i64 i9), (29, .int .i64 t29), (30, .int .i64 t30)] K =
    (rq (0 ≤ (IntKind.wrap .i64 ((8 : Int) * (IntKind.wrap .i64 ((IntKind.wrap .i64 (width2 - (1 : Int))) - i9))))) (rq (0 ≤ i9 ∧ i9 < (b8n : Int)) (nn b8p fun y1_ => (st ((Addr.add y1_ ((i9).toNat * 1))) (.int .u8 ((IntKind.wrap .u8 (((n1).fdiv (2 ^ (min ((IntKind.wrap .i64 ((8 : Int) * (IntKind.wrap .i64 ((IntKind.wrap .i64 (width2 - (1 : Int))) - i9))))).toNat 64))))))) (K [(0, str s0), (1, .int .i64 n1), (2, .int .i64 width2), (8, .slice b8p b8n b8c), (29, .int .i64 t29), (30, .int .i64 t30)]))))) := by kernel_rfl
@[go_sem] theorem c97_r10 (s0 : List UInt8) (n1 : Int) (width2 : Int) (b8p : Option Addr) (b8n b8c : Nat) (t29 : Int) (t30 : Int) (K : Env → W) : RP c97 10 [(0, str s0), (1, .int .i64 n1), (2, .int .i64 width2), (8, .slice b8p b8n b8c), (29, .int .i64 t29), (30, .int .i64 t30)] K =
    (K [(0, str s0), (1, .int .i64 n1), (2, .int .i64 width2), (8, .slice b8p b8n b8c), (29, .int .i64 t29), (30, .int .i64 ((IntKind.wrap .i64 (t30 + (1 : Int)))))]) := by kernel_rfl
@[go_sem] theorem c97_r11 (s0 : List UInt8) (b8p : Option Addr) (b8n b8c : Nat) (K : Env → W) : RP c97 11 [(0, str s0), (8, .slice b8p b8n b8c)] K =
    (val eS Try.prog (oConv 125 9 (.slice b8p b8n b8c)) fun (y1_ : List UInt8) => (rq (((s0).length : Int) + ((y1_).length : Int) ≤ 9223372036854775807) (K [(6, str ((s0 ++ y1_))), (7, .int .i64 ((0 : Int)))]))) := by kernel_rfl
@[go_sem] theorem c97_o : c97.lo 1000000 = [6, 7] := rfl
@[go_sem] theorem c97_e (t6 : List UInt8) (t7 : Int) (k : Value → W) : RTp c97 [(6, str t6), (7, .int .i64 t7)] k = (k (.tuple #[str t6, .int .i64 t7])) := by kernel_rfl
theorem c97_ok : (c97.P.follows .mixedOrders && okc c97 c97.body) = true := by kernel_rfl
theorem c97_fn {e : Enc} {args : Array Value} {G : e.α → W} {L : List HP} {ρ : Env} (hρ : envA 0 args.toList = ρ) (hs : Nat.ble args.size 49 = true) (h : E L (D c97 (.seq (.reg 0) (.seq (.block 0 (.seq (.reg 1) (.cond (.tmp 10) (.seq (.reg 2) (.ret)) (.seq (.reg 3) (.cond (.tmp 17) (.seq (.reg 4) (.ret)) (.skip)))))) (.seq (.reg 5) (.seq (.seq (.reg 6) (.block 1 (.loop (.seq (.reg 7) (.seq (.cond (.tmp 31) (.skip) (.exit 1)) (.seq (.block 2 (.seq (.reg 8) (.reg 9))) (.reg 10))))))) (.seq (.reg 11) (.ret)))))) (fnQ c97 e G) ρ)) : E L (cal e Try.prog 97 args G) :=
  d_fn (c := c97) Try.func97 (by kernel_rfl) (by kernel_rfl) (by kernel_rfl) c97_ok (by kernel_rfl) (by kernel_rfl) hρ hs h
-- loop (first region 7): live slots 0:s0 1:n1 2:width2 8:b8 29:t29 30:t30, of which it writes [30]
/-! (*gharry.pack.Writer).lay -/
noncomputable def c115 : Cfg := { P := Try.prog, n := 37, T := TT, body := (Try.f115.body).getD .skip, res := Try.f115.results.toList, li := lk [] [(0, [0, 1]), (1, [0, 1]), (2, [0, 4, 5]), (3, [0, 5]), (4, [0, 4])], lo := lk [] [(0, [0, 1, 14]), (1, [0, 4, 5]), (2, [0, 4, 5, 25]), (3, []), (4, []), (1000000, [])], ord := lk (false, []) [] }
@[go_sem] theorem c115_i0 : c115.li 0 = [0, 1] := rfl
@[go_sem] theorem c115_i1 : c115.li 1 = [0, 1] := rfl
@[go_sem] theorem c115_i2 : c115.li 2 = [0, 4, 5] := rfl
@[go_sem] theorem c115_i3 : c115.li 3 = [0, 5] := rfl
@[go_sem] theorem c115_i4 : c115.li 4 = [0, 4] := rfl
@[go_sem] theorem c115_r0 (w0 : Option Addr) (how1f : Nat) (how1c : Array Value) (K : Env → W) : RP c115 0 [(0, .pointer w0), (1, .func (.func how1f) #[] how1c)] K =
    (cnd ((w0).isNone) (K [(0, .pointer w0), (1, .func (.func how1f) #[] how1c), (14, .bool true)]) (nn w0 fun y1_ => (ld eI ((y1_.add 1)) fun (y2_ : Int) => (K [(0, .pointer w0), (1, .func (.func how1f) #[] how1c), (14, .bool ((y2_ != (0 : Int))))])))) := by kernel_rfl
@[go_sem] theorem c115_r1 (w0 : Option Addr) (how1f : Nat) (how1c : Array Value) (K : Env → W) : RP c115 1 [(0, .pointer w0), (1, .func (.func how1f) #[] how1c)] K =
    (nn w0 fun y1_ => (ld eS y1_ fun (y2_ : List UInt8) => (ent Try.prog how1f (cal (eT2 eS eI) Try.prog how1f (#[str y2_] ++ how1c) fun (y3_ : ((List UInt8) × Int)) => (K [(0, .pointer w0), (4, str y3_.1), (5, .int .i64 y3_.2)]))))) := by kernel_rfl
@[go_sem] theorem c115_r2 (w0 : Option Addr) (s4 : List UInt8) (e5 : Int) (K : Env → W) : RP c115 2 [(0, .pointer w0), (4, str s4), (5, .int .i64 e5)] K =
    (K [(0, .pointer w0), (4, str s4), (5, .int .i64 e5), (25, .bool ((e5 != (0 : Int))))]) := by kernel_rfl
@[go_sem] theorem c115_r3 (w0 : Option Addr) (e5 : Int) (K : Env → W) : RP c115 3 [(0, .pointer w0), (5, .int .i64 e5)] K =
    (nn w0 fun y1_ => (st y1_ (str (([] : List UInt8))) (nn w0 fun y2_ => (st ((y2_.add 1)) (.int .i64 e5) (K []))))) := by kernel_rfl
@[go_sem] theorem c115_r4 (w0 : Option Addr) (s4 : List UInt8) (K : Env → W) : RP c115 4 [(0, .pointer w0), (4, str s4)] K =
    (nn w0 fun y1_ => (st y1_ (str s4) (K []))) := by kernel_rfl
@[go_sem] theorem c115_o : c115.lo 1000000 = [] := rfl
@[go_sem] theorem c115_e (k : Value → W) : RTp c115 [] k = (k (.tuple #[])) := by kernel_rfl
theorem c115_ok : (c115.P.follows .mixedOrders && okc c115 c115.body) = true := by kernel_rfl
theorem c115_fn {e : Enc} {args : Array Value} {G : e.α → W} {L : List HP} {ρ : Env} (hρ : envA 0 args.toList = ρ) (hs : Nat.ble args.size 37 = true) (h : E L (D c115 (.seq (.seq (.reg 0) (.cond (.tmp 14) (.ret) (.skip))) (.seq (.reg 1) (.seq (.seq (.reg 2) (.cond (.tmp 25) (.seq (.reg 3) (.ret)) (.skip))) (.reg 4)))) (fnQ c115 e G) ρ)) : E L (cal e Try.prog 115 args G) :=
  d_fn (c := c115) Try.func115 (by kernel_rfl) (by kernel_rfl) (by kernel_rfl) c115_ok (by kernel_rfl) (by kernel_rfl) hρ hs h
/-! (*gharry.pack.Writer).Text$1 -/
noncomputable def c116 : Cfg := { P := Try.prog, n := 10, T := TT, body := (Try.f116.body).getD .skip, res := Try.f116.results.toList, li := lk [] [(0, [0, 1]), (1, [0, 1])], lo := lk [] [(0, [0, 1]), (1, [3, 4]), (1000000, [3, 4])], ord := lk (false, []) [] }
@[go_sem] theorem c116_i0 : c116.li 0 = [0, 1] := rfl
@[go_sem] theorem c116_i1 : c116.li 1 = [0, 1] := rfl
@[go_sem] theorem c116_r0 (s0 : List UInt8) (t1 : Addr) (K : Env → W) : RP c116 0 [(0, str s0), (1, .pointer (some t1))] K =
    (K [(0, str s0), (1, .pointer (some t1))]) := by kernel_rfl
@[go_sem] theorem c116_r1 (s0 : List UInt8) (t1 : Addr) (K : Env → W) : RP c116 1 [(0, str s0), (1, .pointer (some t1))] K =
    (ld eS t1 fun (y1_ : List UInt8) => (cal (eT2 eS eI) Try.prog 117 #[str s0, str y1_] fun (y2_ : ((List UInt8) × Int)) => (K [(3, str y2_.1), (4, .int .i64 y2_.2)]))) := by kernel_rfl
@[go_sem] theorem c116_o : c116.lo 1000000 = [3, 4] := rfl
@[go_sem] theorem c116_e (t3 : List UInt8) (t4 : Int) (k : Value → W) : RTp c116 [(3, str t3), (4, .int .i64 t4)] k = (k (.tuple #[str t3, .int .i64 t4])) := by kernel_rfl
theorem c116_ok : (c116.P.follows .mixedOrders && okc c116 c116.body) = true := by kernel_rfl
theorem c116_fn {e : Enc} {args : Array Value} {G : e.α → W} {L : List HP} {ρ : Env} (hρ : envA 0 args.toList = ρ) (hs : Nat.ble args.size 10 = true) (h : E L (D c116 (.seq (.reg 0) (.seq (.reg 1) (.ret))) (fnQ c116 e G) ρ)) : E L (cal e Try.prog 116 args G) :=
  d_fn (c := c116) Try.func116 (by kernel_rfl) (by kernel_rfl) (by kernel_rfl) c116_ok (by kernel_rfl) (by kernel_rfl) hρ hs h
/-! gharry.pack.Text -/
noncomputable def c117 : Cfg := { P := Try.prog, n := 20, T := TT, body := (Try.f117.body).getD .skip, res := Try.f117.results.toList, li := lk [] [(0, [0, 1]), (1, [0, 1]), (2, []), (3, [0, 1]), (4, [0, 1])], lo := lk [] [(0, [0, 1]), (1, [0, 1, 9]), (2, [4, 5]), (3, [0, 1]), (4, [4, 5]), (1000000, [4, 5])], ord := lk (false, []) [] }
@[go_sem] theorem c117_i0 : c117.li 0 = [0, 1] := rfl
@[go_sem] theorem c117_i1 : c117.li 1 = [0, 1] := rfl
@[go_sem] theorem c117_i2 : c117.li 2 = [] := rfl
@[go_sem] theorem c117_i3 : c117.li 3 = [0, 1] := rfl
@[go_sem] theorem c117_i4 : c117.li 4 = [0, 1] := rfl
@[go_sem] theorem c117_r0 (s0 : List UInt8) (t1 : List UInt8) (K : Env → W) : RP c117 0 [(0, str s0), (1, str t1)] K =
    (K [(0, str s0), (1, str t1)]) := by kernel_rfl
@[go_sem] theorem c117_r1 (s0 : List UInt8) (t1 : List UInt8) (K : Env → W) : RP c117 1 [(0, str s0), (1, str t1)] K =
    (cal eI Try.prog 119 #[.int .i64 ((2 : Int))] fun (y1_ : Int) => (K [(0, str s0), (1, str t1), (9, .bool ((decide (y1_ ≤ ((t1).length : Int)))))])) := by kernel_rfl
@[go_sem] theorem c117_r2 (K : Env → W) : RP c117 2 [] K =
    (K [(4, str (([] : List UInt8))), (5, .int .i64 ((3 : Int)))]) := by kernel_rfl
@[go_sem] theorem c117_r3 (s0 : List UInt8) (t1 : List UInt8) (K : Env → W) : RP c117 3 [(0, str s0), (1, str t1)] K =
    (cal (eT2 eS eI) Try.prog 97 #[str s0, .int .i64 (((t1).length : Int)), .int .i64 ((2 : Int))] fun (y1_ : ((List UInt8) × Int)) => (K [(0, str y1_.1), (1, str t1)])) := by kernel_rfl
@[go_sem] theorem c117_r4 (s0 : List UInt8) (t1 : List UInt8) (K : Env → W) : RP c117 4 [(0, str s0), (1, str t1)] K =
    (rq (((s0).length : Int) + ((t1).length : Int) ≤ 9223372036854775807) (K [(4, str ((s0 ++ t1))), (5, .int .i64 ((0 : Int)))])) := by kernel_rfl
@[go_sem] theorem c117_o : c117.lo 1000000 = [4, 5] := rfl
@[go_sem] theorem c117_e (t4 : List UInt8) (t5 : Int) (k : Value → W) : RTp c117 [(4, str t4), (5, .int .i64 t5)] k = (k (.tuple #[str t4, .int .i64 t5])) := by kernel_rfl
theorem c117_ok : (c117.P.follows .mixedOrders && okc c117 c117.body) = true := by kernel_rfl
theorem c117_fn {e : Enc} {args : Array Value} {G : e.α → W} {L : List HP} {ρ : Env} (hρ : envA 0 args.toList = ρ) (hs : Nat.ble args.size 20 = true) (h : E L (D c117 (.seq (.reg 0) (.seq (.seq (.reg 1) (.cond (.tmp 9) (.seq (.reg 2) (.ret)) (.skip))) (.seq (.reg 3) (.seq (.reg 4) (.ret))))) (fnQ c117 e G) ρ)) : E L (cal e Try.prog 117 args G) :=
  d_fn (c := c117) Try.func117 (by kernel_rfl) (by kernel_rfl) (by kernel_rfl) c117_ok (by kernel_rfl) (by kernel_rfl) hρ hs h
/-! (*gharry.pack.Writer).Num$1 -/
noncomputable def c118 : Cfg := { P := Try.prog, n := 12, T := TT, body := (Try.f118.body).getD .skip, res := Try.f118.results.toList, li := lk [] [(0, [0, 1, 2]), (1, [0, 1, 2])], lo := lk [] [(0, [0, 1, 2]), (1, [4, 5]), (1000000, [4, 5])], ord := lk (false, []) [] }
@[go_sem] theorem c118_i0 : c118.li 0 = [0, 1, 2] := rfl
@[go_sem] theorem c118_i1 : c118.li 1 = [0, 1, 2] := rfl
@[go_sem] theorem c118_r0 (s0 : List UInt8) (t1 : Addr) (t2 : Addr) (K : Env → W) : RP c118 0 [(0, str s0), (1, .pointer (some t1)), (2, .pointer (some t2))] K =
    (K [(0, str s0), (1, .pointer (some t1)), (2, .pointer (some t2))]) := by kernel_rfl
@[go_sem] theorem c118_r1 (s0 : List UInt8) (t1 : Addr) (t2 : Addr) (K : Env → W) : RP c118 1 [(0, str s0), (1, .pointer (some t1)), (2, .pointer (some t2))] K =
    (ld eI t1 fun (y1_ : Int) => (ld eI t2 fun (y2_ : Int) => (cal (eT2 eS eI) Try.prog 97 #[str s0, .int .i64 y1_, .int .i64 y2_] fun (y3_ : ((List UInt8) × Int)) => (K [(4, str y3_.1), (5, .int .i64 y3_.2)])))) := by kernel_rfl
@[go_sem] theorem c118_o : c118.lo 1000000 = [4, 5] := rfl
@[go_sem] theorem c118_e (t4 : List UInt8) (t5 : Int) (k : Value → W) : RTp c118 [(4, str t4), (5, .int .i64 t5)] k = (k (.tuple #[str t4, .int .i64 t5])) := by kernel_rfl
theorem c118_ok : (c118.P.follows .mixedOrders && okc c118 c118.body) = true := by kernel_rfl
theorem c118_fn {e : Enc} {args : Array Value} {G : e.α → W} {L : List HP} {ρ : Env} (hρ : envA 0 args.toList = ρ) (hs : Nat.ble args.size 12 = true) (h : E L (D c118 (.seq (.reg 0) (.seq (.reg 1) (.ret))) (fnQ c118 e G) ρ)) : E L (cal e Try.prog 118 args G) :=
  d_fn (c := c118) Try.func118 (by kernel_rfl) (by kernel_rfl) (by kernel_rfl) c118_ok (by kernel_rfl) (by kernel_rfl) hρ hs h
/-! gharry.pack.limit -/
noncomputable def c119 : Cfg := { P := Try.prog, n := 6, T := TT, body := (Try.f119.body).getD .skip, res := Try.f119.results.toList, li := lk [] [(0, [0]), (1, [0])], lo := lk [] [(0, [0]), (1, [2]), (1000000, [2])], ord := lk (false, []) [] }
@[go_sem] theorem c119_i0 : c119.li 0 = [0] := rfl
@[go_sem] theorem c119_i1 : c119.li 1 = [0] := rfl
@[go_sem] theorem c119_r0 (width0 : Int) (K : Env → W) : RP c119 0 [(0, .int .i64 width0)] K =
    (K [(0, .int .i64 width0)]) := by kernel_rfl
@[go_sem] theorem c119_r1 (width0 : Int) (K : Env → W) : RP c119 1 [(0, .int .i64 width0)] K =
    (rq (0 ≤ (IntKind.wrap .i64 ((8 : Int) * width0))) (K [(2, .int .i64 ((IntKind.wrap .i64 ((1 : Int) * 2 ^ (min ((IntKind.wrap .i64 ((8 : Int) * width0))).toNat 64)))))])) := by kernel_rfl
@[go_sem] theorem c119_o : c119.lo 1000000 = [2] := rfl
@[go_sem] theorem c119_e (t2 : Int) (k : Value → W) : RTp c119 [(2, .int .i64 t2)] k = (k (.int .i64 t2)) := by kernel_rfl
theorem c119_ok : (c119.P.follows .mixedOrders && okc c119 c119.body) = true := by kernel_rfl
theorem c119_fn {e : Enc} {args : Array Value} {G : e.α → W} {L : List HP} {ρ : Env} (hρ : envA 0 args.toList = ρ) (hs : Nat.ble args.size 6 = true) (h : E L (D c119 (.seq (.reg 0) (.seq (.reg 1) (.ret))) (fnQ c119 e G) ρ)) : E L (cal e Try.prog 119 args G) :=
  d_fn (c := c119) Try.func119 (by kernel_rfl) (by kernel_rfl) (by kernel_rfl) c119_ok (by kernel_rfl) (by kernel_rfl) hρ hs h
end Go.Sp
/- The writer of packed numbers and texts. -/
namespace Go.Sp
open Go Go.Proofs
set_option linter.unusedSimpArgs false
set_option linter.unusedVariables false
set_option maxRecDepth 10000
theorem cases6 {w : Nat} (h : w ≤ 6) : w = 0 ∨ w = 1 ∨ w = 2 ∨ w = 3 ∨ w = 4 ∨ w = 5 ∨ w = 6 := by omega
theorem f119 (w : Nat) (h : w ≤ 6) : Fp eI Try.prog 119 #[.int .i64 (w : Int)] [] ((256 ^ w : Nat) : Int) := fun L => by
  refine c119_fn rfl rfl ?_
  have e : IntKind.wrap .i64 (8 * (w : Int)) = ((8 * w : Nat) : Int) := by rw [w64 (by omega) (by omega)]; omega
  repeat' (first | rw [e] | first | ((with_reducible refine d_seq ?_); intro K hK) | ((with_reducible refine d_reg ?_); simp only [go_sem, Nat.reduceAdd, Nat.reduceEqDiff, Int.reduceToNat, Nat.reduceMul, Nat.reduceSub]) | ((first | ((with_reducible refine d_cnd ?_); refine And.intro ?_ ?_) | (with_reducible refine r_cnd ?_ ?_)); all_goals (intro hc; (try simp only [push_cast, Int.reduceEq, Int.reduceLT, Int.reduceLE, Int.reduceNe] at hc))) | ((with_reducible refine hK _ _ ?_); clear hK; clear K) | ((with_reducible first | refine d_blk ?_ | refine d_rt0 ?_ | refine d_sk0 ?_ | refine d_ex0 ?_); (try simp only [go_sem, Nat.reduceAdd, Nat.reduceEqDiff, Int.reduceToNat, Nat.reduceMul, Nat.reduceSub])) | (with_reducible refine r_rq (by first | decide | omega) ?_) | ((with_reducible refine r_nwc ?_); intro b) | ((with_reducible first | apply i_lds | apply i_ldsq | apply i_ld | apply i_ldq); exact rfl) | ((with_reducible first | apply i_ldn | apply i_ldnq); exact rfl; exact rfl; exact rfl) | (with_reducible first | refine r_ph0 ?_ | apply i_kp0) | ((with_reducible first | apply i_st | apply i_stl); (focus simp); exact rfl) | simp only [go_sem, Nat.reduceAdd, Nat.reduceEqDiff, Int.reduceToNat, Nat.reduceMul, Nat.reduceSub] | (clear hK; clear K))
  (with_reducible first | apply i_ret0 | apply i_ret2 | apply i_ret3 | apply i_ret); exact rfl
  rcases cases6 h with rfl | rfl | rfl | rfl | rfl | rfl | rfl <;> decide
theorem lowb_get (n : Int) : ∀ (w i : Nat), i < w → (lowb n w)[i]? = some (UInt8.ofNat ((n / 256 ^ (w - 1 - i)) % 256).toNat)
  | w + 1, 0, _ => by simp [lowb]
  | w + 1, i + 1, h => by
    have := lowb_get n w i (by omega)
    have e : w + 1 - 1 - (i + 1) = w - 1 - i := by omega
    simp only [lowb, List.getElem?_cons_succ, this, e]
def putN (s : List UInt8) (n : Int) (w : Nat) : List UInt8 × Int := if n < 0 ∨ ((256 ^ w : Nat) : Int) ≤ n then ([], 6) else (s ++ lowb n w, 0)
theorem p256 {w : Nat} (h : w ≤ 6) : ((256 ^ w : Nat) : Int) ≤ 281474976710656 := by
  have : 256 ^ w ≤ 256 ^ 6 := Nat.pow_le_pow_right (by decide) h
  have h3 : (256 : Nat) ^ 6 = 281474976710656 := by decide
  omega
theorem shr8 (n : Int) (k : Nat) : n.fdiv (2 ^ (8 * k)) = n / 256 ^ k := by
  rw [Int.fdiv_eq_ediv_of_nonneg _ (Int.pow_nonneg (by decide)), Int.pow_mul]
  rfl
theorem wrap_byte (m : Int) : IntKind.wrap .u8 m = ((UInt8.ofNat (m % 256).toNat).toNat : Int) := by
  rw [IntKind.wrap_u8]
  have : (m % 256).toNat < 256 := by omega
  simp only [UInt8.toNat_ofNat']
  omega
theorem part_set {α : Type} {l : List α} {z x : α} {i w : Nat} (hi : i < w) (hl : l.length = w) (hx : l[i]? = some x) : (l.take i ++ List.replicate (w - i) z).set i x = l.take (i + 1) ++ List.replicate (w - (i + 1)) z := by
  have e : w - i = (w - (i + 1)) + 1 := by omega
  have h : i < l.length := by omega
  rw [List.set_append_right _ _ (by simp; omega), e, List.replicate_succ]
  have e2 : i - (l.take i).length = 0 := by simp; omega
  rw [e2, List.set_cons_zero, List.take_succ_eq_append_getElem h]
  rw [List.getElem?_eq_getElem h] at hx
  simp only [Option.some.injEq] at hx
  rw [hx]
  simp
theorem f97 (s : List UInt8) (n : Int) (w : Nat) (h1 : 1 ≤ w) (h6 : w ≤ 6) (hs : s.length ≤ 4611686018427387904) : Fp (eT2 eS eI) Try.prog 97 #[str s, .int .i64 n, .int .i64 (w : Int)] [] (putN s n w) := fun L => by
  have hp := p256 h6
  have h119 := f119 w h6
  refine c97_fn rfl rfl ?_
  unfold putN
  generalize 256 ^ w = P at *
  by_cases h0 : n < 0
  · rw [if_pos (.inl h0)]
    repeat' ((fail_if_success with_reducible refine (id : E _ (ph _) → E _ (ph _)) ?_); first | ((with_reducible refine d_seq ?_); intro K hK) | ((with_reducible refine d_reg ?_); simp only [go_sem, Nat.reduceAdd, Nat.reduceEqDiff, Int.reduceToNat, Nat.reduceMul, Nat.reduceSub]) | ((first | ((with_reducible refine d_cnd ?_); refine And.intro ?_ ?_) | (with_reducible refine r_cnd ?_ ?_)); all_goals (intro hc; (try simp only [push_cast, Int.reduceEq, Int.reduceLT, Int.reduceLE, Int.reduceNe] at hc))) | ((with_reducible refine hK _ _ ?_); clear hK; clear K) | ((with_reducible first | refine d_blk ?_ | refine d_rt0 ?_ | refine d_sk0 ?_ | refine d_ex0 ?_); (try simp only [go_sem, Nat.reduceAdd, Nat.reduceEqDiff, Int.reduceToNat, Nat.reduceMul, Nat.reduceSub])) | (with_reducible refine r_rq (by first | decide | omega) ?_) | ((with_reducible refine r_nwc ?_); intro b) | ((with_reducible first | apply i_lds | apply i_ldsq | apply i_ld | apply i_ldq); exact rfl) | ((with_reducible first | apply i_ldn | apply i_ldnq); exact rfl; exact rfl; exact rfl) | (with_reducible first | refine r_ph0 ?_ | apply i_kp0) | ((with_reducible first | apply i_st | apply i_stl); (focus simp); exact rfl) | simp only [go_sem, Nat.reduceAdd, Nat.reduceEqDiff, Int.reduceToNat, Nat.reduceMul, Nat.reduceSub] | (clear hK; clear K))
    all_goals try (first | contradiction | (simp only [ reduceCtorEq] at *; done) | (exfalso; omega))
    (with_reducible first | apply i_ret0 | apply i_ret2 | apply i_ret3 | apply i_ret); exact rfl
    rfl
  · by_cases hL : (P : Int) ≤ n
    · rw [if_pos (.inr hL)]
      repeat' ((fail_if_success with_reducible refine (id : E _ (ph _) → E _ (ph _)) ?_); first | ((with_reducible refine d_seq ?_); intro K hK) | ((with_reducible refine d_reg ?_); simp only [go_sem, Nat.reduceAdd, Nat.reduceEqDiff, Int.reduceToNat, Nat.reduceMul, Nat.reduceSub]) | ((first | ((with_reducible refine d_cnd ?_); refine And.intro ?_ ?_) | (with_reducible refine r_cnd ?_ ?_)); all_goals (intro hc; (try simp only [push_cast, Int.reduceEq, Int.reduceLT, Int.reduceLE, Int.reduceNe] at hc))) | ((with_reducible refine hK _ _ ?_); clear hK; clear K) | ((with_reducible first | refine d_blk ?_ | refine d_rt0 ?_ | refine d_sk0 ?_ | refine d_ex0 ?_); (try simp only [go_sem, Nat.reduceAdd, Nat.reduceEqDiff, Int.reduceToNat, Nat.reduceMul, Nat.reduceSub])) | (with_reducible refine r_rq (by first | decide | omega) ?_) | ((with_reducible refine r_nwc ?_); intro b) | ((with_reducible first | apply i_lds | apply i_ldsq | apply i_ld | apply i_ldq); exact rfl) | ((with_reducible first | apply i_ldn | apply i_ldnq); exact rfl; exact rfl; exact rfl) | (with_reducible first | refine r_ph0 ?_ | apply i_kp0) | ((with_reducible first | apply i_st | apply i_stl); (focus simp); exact rfl) | simp only [go_sem, Nat.reduceAdd, Nat.reduceEqDiff, Int.reduceToNat, Nat.reduceMul, Nat.reduceSub] | (clear hK; clear K))
      all_goals try (first | contradiction | (simp only [ reduceCtorEq] at *; done) | (exfalso; omega))
      refine i_clp h119 ?_
      repeat' ((fail_if_success with_reducible refine (id : E _ (ph _) → E _ (ph _)) ?_); first | ((with_reducible refine d_seq ?_); intro K hK) | ((with_reducible refine d_reg ?_); simp only [go_sem, Nat.reduceAdd, Nat.reduceEqDiff, Int.reduceToNat, Nat.reduceMul, Nat.reduceSub]) | ((first | ((with_reducible refine d_cnd ?_); refine And.intro ?_ ?_) | (with_reducible refine r_cnd ?_ ?_)); all_goals (intro hc; (try simp only [push_cast, Int.reduceEq, Int.reduceLT, Int.reduceLE, Int.reduceNe] at hc))) | ((with_reducible refine hK _ _ ?_); clear hK; clear K) | ((with_reducible first | refine d_blk ?_ | refine d_rt0 ?_ | refine d_sk0 ?_ | refine d_ex0 ?_); (try simp only [go_sem, Nat.reduceAdd, Nat.reduceEqDiff, Int.reduceToNat, Nat.reduceMul, Nat.reduceSub])) | (with_reducible refine r_rq (by first | decide | omega) ?_) | ((with_reducible refine r_nwc ?_); intro b) | ((with_reducible first | apply i_lds | apply i_ldsq | apply i_ld | apply i_ldq); exact rfl) | ((with_reducible first | apply i_ldn | apply i_ldnq); exact rfl; exact rfl; exact rfl) | (with_reducible first | refine r_ph0 ?_ | apply i_kp0) | ((with_reducible first | apply i_st | apply i_stl); (focus simp); exact rfl) | simp only [go_sem, Nat.reduceAdd, Nat.reduceEqDiff, Int.reduceToNat, Nat.reduceMul, Nat.reduceSub] | (clear hK; clear K))
      all_goals try (first | contradiction | (simp only [ reduceCtorEq] at *; done) | (exfalso; omega))
      (with_reducible first | apply i_ret0 | apply i_ret2 | apply i_ret3 | apply i_ret); exact rfl
      rfl
    · rw [if_neg (by omega)]
      repeat' ((fail_if_success with_reducible refine (id : E _ (ph _) → E _ (ph _)) ?_); first | ((with_reducible refine d_seq ?_); intro K hK) | ((with_reducible refine d_reg ?_); simp only [go_sem, Nat.reduceAdd, Nat.reduceEqDiff, Int.reduceToNat, Nat.reduceMul, Nat.reduceSub]) | ((first | ((with_reducible refine d_cnd ?_); refine And.intro ?_ ?_) | (with_reducible refine r_cnd ?_ ?_)); all_goals (intro hc; (try simp only [push_cast, Int.reduceEq, Int.reduceLT, Int.reduceLE, Int.reduceNe] at hc))) | ((with_reducible refine hK _ _ ?_); clear hK; clear K) | ((with_reducible first | refine d_blk ?_ | refine d_rt0 ?_ | refine d_sk0 ?_ | refine d_ex0 ?_); (try simp only [go_sem, Nat.reduceAdd, Nat.reduceEqDiff, Int.reduceToNat, Nat.reduceMul, Nat.reduceSub])) | (with_reducible refine r_rq (by first | decide | omega) ?_) | ((with_reducible refine r_nwc ?_); intro b) | ((with_reducible first | apply i_lds | apply i_ldsq | apply i_ld | apply i_ldq); exact rfl) | ((with_reducible first | apply i_ldn | apply i_ldnq); exact rfl; exact rfl; exact rfl) | (with_reducible first | refine r_ph0 ?_ | apply i_kp0) | ((with_reducible first | apply i_st | apply i_stl); (focus simp); exact rfl) | simp only [go_sem, Nat.reduceAdd, Nat.reduceEqDiff, Int.reduceToNat, Nat.reduceMul, Nat.reduceSub] | (clear hK; clear K))
      all_goals try (first | contradiction | (simp only [ reduceCtorEq] at *; done) | (exfalso; omega))
      refine i_clp h119 ?_
      repeat' ((fail_if_success with_reducible refine (id : E _ (ph _) → E _ (ph _)) ?_); first | ((with_reducible refine d_seq ?_); intro K hK) | ((with_reducible refine d_reg ?_); simp only [go_sem, Nat.reduceAdd, Nat.reduceEqDiff, Int.reduceToNat, Nat.reduceMul, Nat.reduceSub]) | ((first | ((with_reducible refine d_cnd ?_); refine And.intro ?_ ?_) | (with_reducible refine r_cnd ?_ ?_)); all_goals (intro hc; (try simp only [push_cast, Int.reduceEq, Int.reduceLT, Int.reduceLE, Int.reduceNe] at hc))) | ((with_reducible refine hK _ _ ?_); clear hK; clear K) | ((with_reducible first | refine d_blk ?_ | refine d_rt0 ?_ | refine d_sk0 ?_ | refine d_ex0 ?_); (try simp only [go_sem, Nat.reduceAdd, Nat.reduceEqDiff, Int.reduceToNat, Nat.reduceMul, Nat.reduceSub])) | (with_reducible refine r_rq (by first | decide | omega) ?_) | ((with_reducible refine r_nwc ?_); intro b) | ((with_reducible first | apply i_lds | apply i_ldsq | apply i_ld | apply i_ldq); exact rfl) | ((with_reducible first | apply i_ldn | apply i_ldnq); exact rfl; exact rfl; exact rfl) | (with_reducible first | refine r_ph0 ?_ | apply i_kp0) | ((with_reducible first | apply i_st | apply i_stl); (focus simp); exact rfl) | simp only [go_sem, Nat.reduceAdd, Nat.reduceEqDiff, Int.reduceToNat, Nat.reduceMul, Nat.reduceSub] | (clear hK; clear K))
      all_goals try (first | contradiction | (simp only [ reduceCtorEq] at *; done) | (exfalso; omega))
      refine r_mkb (el := 5) w (by kernel_rfl) rfl (by omega) fun b => ?_
      repeat' ((fail_if_success with_reducible refine (id : E _ (ph _) → E _ (ph _)) ?_); first | ((with_reducible refine d_seq ?_); intro K hK) | ((with_reducible refine d_reg ?_); simp only [go_sem, Nat.reduceAdd, Nat.reduceEqDiff, Int.reduceToNat, Nat.reduceMul, Nat.reduceSub]) | ((first | ((with_reducible refine d_cnd ?_); refine And.intro ?_ ?_) | (with_reducible refine r_cnd ?_ ?_)); all_goals (intro hc; (try simp only [push_cast, Int.reduceEq, Int.reduceLT, Int.reduceLE, Int.reduceNe] at hc))) | ((with_reducible refine hK _ _ ?_); clear hK; clear K) | ((with_reducible first | refine d_blk ?_ | refine d_rt0 ?_ | refine d_sk0 ?_ | refine d_ex0 ?_); (try simp only [go_sem, Nat.reduceAdd, Nat.reduceEqDiff, Int.reduceToNat, Nat.reduceMul, Nat.reduceSub])) | (with_reducible refine r_rq (by first | decide | omega) ?_) | ((with_reducible refine r_nwc ?_); intro b) | ((with_reducible first | apply i_lds | apply i_ldsq | apply i_ld | apply i_ldq); exact rfl) | ((with_reducible first | apply i_ldn | apply i_ldnq); exact rfl; exact rfl; exact rfl) | (with_reducible first | refine r_ph0 ?_ | apply i_kp0) | ((with_reducible first | apply i_st | apply i_stl); (focus simp); exact rfl) | simp only [go_sem, Nat.reduceAdd, Nat.reduceEqDiff, Int.reduceToNat, Nat.reduceMul, Nat.reduceSub] | (clear hK; clear K))
      refine d_lp [0, 1, 2, 8, 29, 30] (fun i : Nat => [(0, str s), (1, .int .i64 n), (2, .int .i64 (w : Int)), (8, .slice (some ⟨b, 0, none⟩) w w), (29, .int .i64 (w : Int)), (30, .int .i64 (i : Int))])
        (fun i => ar b 5 (cb ((lowb n w).take i ++ List.replicate (w - i) 0)) :: L) (fun i => i ≤ w) (fun i => w - i) 0 rfl ?_ (by omega) ?_
      · have e : (lowb n w).take 0 ++ List.replicate (w - 0) (0 : UInt8) = List.replicate w 0 := by simp
        rw [e]
        exact SX.p
      intro i hi
      repeat' ((fail_if_success with_reducible refine (id : E _ (ph _) → E _ (ph _)) ?_); first | ((with_reducible refine d_seq ?_); intro K hK) | ((with_reducible refine d_reg ?_); simp only [go_sem, Nat.reduceAdd, Nat.reduceEqDiff, Int.reduceToNat, Nat.reduceMul, Nat.reduceSub]) | ((first | ((with_reducible refine d_cnd ?_); refine And.intro ?_ ?_) | (with_reducible refine r_cnd ?_ ?_)); all_goals (intro hc; (try simp only [push_cast, Int.reduceEq, Int.reduceLT, Int.reduceLE, Int.reduceNe] at hc))) | ((with_reducible refine hK _ _ ?_); clear hK; clear K) | ((with_reducible first | refine d_blk ?_ | refine d_rt0 ?_ | refine d_sk0 ?_ | refine d_ex0 ?_); (try simp only [go_sem, Nat.reduceAdd, Nat.reduceEqDiff, Int.reduceToNat, Nat.reduceMul, Nat.reduceSub])) | (with_reducible refine r_rq (by first | decide | omega) ?_) | ((with_reducible refine r_nwc ?_); intro b) | ((with_reducible first | apply i_lds | apply i_ldsq | apply i_ld | apply i_ldq); exact rfl) | ((with_reducible first | apply i_ldn | apply i_ldnq); exact rfl; exact rfl; exact rfl) | (with_reducible first | refine r_ph0 ?_ | apply i_kp0) | ((with_reducible first | apply i_st | apply i_stl); (focus simp); exact rfl) | simp only [go_sem, Nat.reduceAdd, Nat.reduceEqDiff, Int.reduceToNat, Nat.reduceMul, Nat.reduceSub] | (clear hK; clear K))
      · have e1 : IntKind.wrap .i64 (8 * IntKind.wrap .i64 (IntKind.wrap .i64 ((w : Int) - 1) - (i : Int))) = ((8 * (w - 1 - i) : Nat) : Int) := by
          rw [w64 (n := (w : Int) - 1) (by omega) (by omega), w64 (n := (w : Int) - 1 - (i : Int)) (by omega) (by omega), w64 (by omega) (by omega)]; omega
        rw [e1]
        have e2 : min (8 * (w - 1 - i)) 64 = 8 * (w - 1 - i) := by omega
        refine r_rq (by omega) ?_
        refine r_rq (by omega) ?_
        rw [Int.toNat_natCast, e2, shr8, wrap_byte]
        have hl := lowb_len n w
        have hx := lowb_get n w i (by omega)
        refine r_bs _ .here (by rw [List.length_append, List.length_take, List.length_replicate]; omega) rfl ?_
        rw [part_set (by omega) hl hx]
        repeat' ((fail_if_success with_reducible refine (id : E _ (ph _) → E _ (ph _)) ?_); first | ((with_reducible refine d_seq ?_); intro K hK) | ((with_reducible refine d_reg ?_); simp only [go_sem, Nat.reduceAdd, Nat.reduceEqDiff, Int.reduceToNat, Nat.reduceMul, Nat.reduceSub]) | ((first | ((with_reducible refine d_cnd ?_); refine And.intro ?_ ?_) | (with_reducible refine r_cnd ?_ ?_)); all_goals (intro hc; (try simp only [push_cast, Int.reduceEq, Int.reduceLT, Int.reduceLE, Int.reduceNe] at hc))) | ((with_reducible refine hK _ _ ?_); clear hK; clear K) | ((with_reducible first | refine d_blk ?_ | refine d_rt0 ?_ | refine d_sk0 ?_ | refine d_ex0 ?_); (try simp only [go_sem, Nat.reduceAdd, Nat.reduceEqDiff, Int.reduceToNat, Nat.reduceMul, Nat.reduceSub])) | (with_reducible refine r_rq (by first | decide | omega) ?_) | ((with_reducible refine r_nwc ?_); intro b) | ((with_reducible first | apply i_lds | apply i_ldsq | apply i_ld | apply i_ldq); exact rfl) | ((with_reducible first | apply i_ldn | apply i_ldnq); exact rfl; exact rfl; exact rfl) | (with_reducible first | refine r_ph0 ?_ | apply i_kp0) | ((with_reducible first | apply i_st | apply i_stl); (focus simp); exact rfl) | simp only [go_sem, Nat.reduceAdd, Nat.reduceEqDiff, Int.reduceToNat, Nat.reduceMul, Nat.reduceSub] | (clear hK; clear K))
        rw [w64 (by omega) (by omega)]
        exact i_bk (i + 1) rfl (by omega) (by omega)
      · obtain rfl : i = w := by omega
        have hl := lowb_len n i
        have e : (lowb n i).take i ++ List.replicate (i - i) (0 : UInt8) = lowb n i := by rw [List.take_of_length_le (by omega)]; simp
        rw [e]
        refine r_conv (bs := lowb n i) (by kernel_rfl) ((Rs_ar (by rw [cb_len]; omega)).eqn rfl) .here ?_
        repeat' (first | ((with_reducible refine d_seq ?_); intro K hK) | ((with_reducible refine d_reg ?_); simp only [go_sem, Nat.reduceAdd, Nat.reduceEqDiff, Int.reduceToNat, Nat.reduceMul, Nat.reduceSub]) | ((first | ((with_reducible refine d_cnd ?_); refine And.intro ?_ ?_) | (with_reducible refine r_cnd ?_ ?_)); all_goals (intro hc; (try simp only [push_cast, Int.reduceEq, Int.reduceLT, Int.reduceLE, Int.reduceNe] at hc))) | ((with_reducible refine hK _ _ ?_); clear hK; clear K) | ((with_reducible first | refine d_blk ?_ | refine d_rt0 ?_ | refine d_sk0 ?_ | refine d_ex0 ?_); (try simp only [go_sem, Nat.reduceAdd, Nat.reduceEqDiff, Int.reduceToNat, Nat.reduceMul, Nat.reduceSub])) | (with_reducible refine r_rq (by first | decide | omega) ?_) | ((with_reducible refine r_nwc ?_); intro b) | ((with_reducible first | apply i_lds | apply i_ldsq | apply i_ld | apply i_ldq); exact rfl) | ((with_reducible first | apply i_ldn | apply i_ldnq); exact rfl; exact rfl; exact rfl) | (with_reducible first | refine r_ph0 ?_ | apply i_kp0) | ((with_reducible first | apply i_st | apply i_stl); (focus simp); exact rfl) | simp only [go_sem, Nat.reduceAdd, Nat.reduceEqDiff, Int.reduceToNat, Nat.reduceMul, Nat.reduceSub] | (clear hK; clear K))
        (with_reducible first | apply i_ret0 | apply i_ret2 | apply i_ret3 | apply i_ret); exact rfl
        rfl
def putT (s t : List UInt8) : List UInt8 × Int := if 65536 ≤ t.length then ([], 3) else (s ++ lowb (t.length : Int) 2 ++ t, 0)
theorem f117 (s t : List UInt8) (hs : s.length ≤ 2305843009213693952) : Fp (eT2 eS eI) Try.prog 117 #[str s, str t] [] (putT s t) := fun L => by
  have e2 : ((256 ^ 2 : Nat) : Int) = 65536 := by decide
  have h119 : Fp eI Try.prog 119 #[.int .i64 2] [] 65536 := by
    have := f119 2 (by decide)
    rw [e2] at this
    exact this
  unfold putT
  refine c117_fn rfl rfl ?_
  by_cases h : 65536 ≤ t.length
  · rw [if_pos h]
    clear e2
    repeat' ((fail_if_success with_reducible refine (id : E _ (ph _) → E _ (ph _)) ?_); first | ((with_reducible refine d_seq ?_); intro K hK) | ((with_reducible refine d_reg ?_); simp only [go_sem, Nat.reduceAdd, Nat.reduceEqDiff, Int.reduceToNat, Nat.reduceMul, Nat.reduceSub]) | ((first | ((with_reducible refine d_cnd ?_); refine And.intro ?_ ?_) | (with_reducible refine r_cnd ?_ ?_)); all_goals (intro hc; (try simp only [push_cast, Int.reduceEq, Int.reduceLT, Int.reduceLE, Int.reduceNe] at hc))) | ((with_reducible refine hK _ _ ?_); clear hK; clear K) | ((with_reducible first | refine d_blk ?_ | refine d_rt0 ?_ | refine d_sk0 ?_ | refine d_ex0 ?_); (try simp only [go_sem, Nat.reduceAdd, Nat.reduceEqDiff, Int.reduceToNat, Nat.reduceMul, Nat.reduceSub])) | (with_reducible refine r_rq (by first | decide | omega) ?_) | ((with_reducible refine r_nwc ?_); intro b) | ((with_reducible first | apply i_lds | apply i_ldsq | apply i_ld | apply i_ldq); exact rfl) | ((with_reducible first | apply i_ldn | apply i_ldnq); exact rfl; exact rfl; exact rfl) | (with_reducible first | refine r_ph0 ?_ | apply i_kp0) | ((with_reducible first | apply i_st | apply i_stl); (focus simp); exact rfl) | simp only [go_sem, Nat.reduceAdd, Nat.reduceEqDiff, Int.reduceToNat, Nat.reduceMul, Nat.reduceSub] | (clear hK; clear K))
    refine i_clp h119 ?_
    repeat' ((fail_if_success with_reducible refine (id : E _ (ph _) → E _ (ph _)) ?_); first | ((with_reducible refine d_seq ?_); intro K hK) | ((with_reducible refine d_reg ?_); simp only [go_sem, Nat.reduceAdd, Nat.reduceEqDiff, Int.reduceToNat, Nat.reduceMul, Nat.reduceSub]) | ((first | ((with_reducible refine d_cnd ?_); refine And.intro ?_ ?_) | (with_reducible refine r_cnd ?_ ?_)); all_goals (intro hc; (try simp only [push_cast, Int.reduceEq, Int.reduceLT, Int.reduceLE, Int.reduceNe] at hc))) | ((with_reducible refine hK _ _ ?_); clear hK; clear K) | ((with_reducible first | refine d_blk ?_ | refine d_rt0 ?_ | refine d_sk0 ?_ | refine d_ex0 ?_); (try simp only [go_sem, Nat.reduceAdd, Nat.reduceEqDiff, Int.reduceToNat, Nat.reduceMul, Nat.reduceSub])) | (with_reducible refine r_rq (by first | decide | omega) ?_) | ((with_reducible refine r_nwc ?_); intro b) | ((with_reducible first | apply i_lds | apply i_ldsq | apply i_ld | apply i_ldq); exact rfl) | ((with_reducible first | apply i_ldn | apply i_ldnq); exact rfl; exact rfl; exact rfl) | (with_reducible first | refine r_ph0 ?_ | apply i_kp0) | ((with_reducible first | apply i_st | apply i_stl); (focus simp); exact rfl) | simp only [go_sem, Nat.reduceAdd, Nat.reduceEqDiff, Int.reduceToNat, Nat.reduceMul, Nat.reduceSub] | (clear hK; clear K))
    all_goals try (exfalso; omega)
    (with_reducible first | apply i_ret0 | apply i_ret2 | apply i_ret3 | apply i_ret); exact rfl
    rfl
  · rw [if_neg h]
    have F := f97 s (t.length : Int) 2 (by decide) (by decide) (by omega)
    have e : putN s (t.length : Int) 2 = (s ++ lowb (t.length : Int) 2, 0) := by
      unfold putN
      rw [if_neg (by rw [e2]; omega)]
    clear e2
    rw [e] at F
    have hl := lowb_len (t.length : Int) 2
    repeat' ((fail_if_success with_reducible refine (id : E _ (ph _) → E _ (ph _)) ?_); first | ((with_reducible refine d_seq ?_); intro K hK) | ((with_reducible refine d_reg ?_); simp only [go_sem, Nat.reduceAdd, Nat.reduceEqDiff, Int.reduceToNat, Nat.reduceMul, Nat.reduceSub]) | ((first | ((with_reducible refine d_cnd ?_); refine And.intro ?_ ?_) | (with_reducible refine r_cnd ?_ ?_)); all_goals (intro hc; (try simp only [push_cast, Int.reduceEq, Int.reduceLT, Int.reduceLE, Int.reduceNe] at hc))) | ((with_reducible refine hK _ _ ?_); clear hK; clear K) | ((with_reducible first | refine d_blk ?_ | refine d_rt0 ?_ | refine d_sk0 ?_ | refine d_ex0 ?_); (try simp only [go_sem, Nat.reduceAdd, Nat.reduceEqDiff, Int.reduceToNat, Nat.reduceMul, Nat.reduceSub])) | (with_reducible refine r_rq (by first | decide | omega) ?_) | ((with_reducible refine r_nwc ?_); intro b) | ((with_reducible first | apply i_lds | apply i_ldsq | apply i_ld | apply i_ldq); exact rfl) | ((with_reducible first | apply i_ldn | apply i_ldnq); exact rfl; exact rfl; exact rfl) | (with_reducible first | refine r_ph0 ?_ | apply i_kp0) | ((with_reducible first | apply i_st | apply i_stl); (focus simp); exact rfl) | simp only [go_sem, Nat.reduceAdd, Nat.reduceEqDiff, Int.reduceToNat, Nat.reduceMul, Nat.reduceSub] | (clear hK; clear K))
    refine i_clp h119 ?_
    repeat' ((fail_if_success with_reducible refine (id : E _ (ph _) → E _ (ph _)) ?_); first | ((with_reducible refine d_seq ?_); intro K hK) | ((with_reducible refine d_reg ?_); simp only [go_sem, Nat.reduceAdd, Nat.reduceEqDiff, Int.reduceToNat, Nat.reduceMul, Nat.reduceSub]) | ((first | ((with_reducible refine d_cnd ?_); refine And.intro ?_ ?_) | (with_reducible refine r_cnd ?_ ?_)); all_goals (intro hc; (try simp only [push_cast, Int.reduceEq, Int.reduceLT, Int.reduceLE, Int.reduceNe] at hc))) | ((with_reducible refine hK _ _ ?_); clear hK; clear K) | ((with_reducible first | refine d_blk ?_ | refine d_rt0 ?_ | refine d_sk0 ?_ | refine d_ex0 ?_); (try simp only [go_sem, Nat.reduceAdd, Nat.reduceEqDiff, Int.reduceToNat, Nat.reduceMul, Nat.reduceSub])) | (with_reducible refine r_rq (by first | decide | omega) ?_) | ((with_reducible refine r_nwc ?_); intro b) | ((with_reducible first | apply i_lds | apply i_ldsq | apply i_ld | apply i_ldq); exact rfl) | ((with_reducible first | apply i_ldn | apply i_ldnq); exact rfl; exact rfl; exact rfl) | (with_reducible first | refine r_ph0 ?_ | apply i_kp0) | ((with_reducible first | apply i_st | apply i_stl); (focus simp); exact rfl) | simp only [go_sem, Nat.reduceAdd, Nat.reduceEqDiff, Int.reduceToNat, Nat.reduceMul, Nat.reduceSub] | (clear hK; clear K))
    all_goals try (exfalso; omega)
    refine i_clp F ?_
    repeat' ((fail_if_success with_reducible refine (id : E _ (ph _) → E _ (ph _)) ?_); first | ((with_reducible refine d_seq ?_); intro K hK) | ((with_reducible refine d_reg ?_); simp only [go_sem, Nat.reduceAdd, Nat.reduceEqDiff, Int.reduceToNat, Nat.reduceMul, Nat.reduceSub]) | ((first | ((with_reducible refine d_cnd ?_); refine And.intro ?_ ?_) | (with_reducible refine r_cnd ?_ ?_)); all_goals (intro hc; (try simp only [push_cast, Int.reduceEq, Int.reduceLT, Int.reduceLE, Int.reduceNe] at hc))) | ((with_reducible refine hK _ _ ?_); clear hK; clear K) | ((with_reducible first | refine d_blk ?_ | refine d_rt0 ?_ | refine d_sk0 ?_ | refine d_ex0 ?_); (try simp only [go_sem, Nat.reduceAdd, Nat.reduceEqDiff, Int.reduceToNat, Nat.reduceMul, Nat.reduceSub])) | (with_reducible refine r_rq (by first | decide | omega) ?_) | ((with_reducible refine r_nwc ?_); intro b) | ((with_reducible first | apply i_lds | apply i_ldsq | apply i_ld | apply i_ldq); exact rfl) | ((with_reducible first | apply i_ldn | apply i_ldnq); exact rfl; exact rfl; exact rfl) | (with_reducible first | refine r_ph0 ?_ | apply i_kp0) | ((with_reducible first | apply i_st | apply i_stl); (focus simp); exact rfl) | simp only [go_sem, Nat.reduceAdd, Nat.reduceEqDiff, Int.reduceToNat, Nat.reduceMul, Nat.reduceSub] | (clear hK; clear K))
    refine r_rq (by rw [List.length_append]; omega) ?_
    repeat' ((fail_if_success with_reducible refine (id : E _ (ph _) → E _ (ph _)) ?_); first | ((with_reducible refine d_seq ?_); intro K hK) | ((with_reducible refine d_reg ?_); simp only [go_sem, Nat.reduceAdd, Nat.reduceEqDiff, Int.reduceToNat, Nat.reduceMul, Nat.reduceSub]) | ((first | ((with_reducible refine d_cnd ?_); refine And.intro ?_ ?_) | (with_reducible refine r_cnd ?_ ?_)); all_goals (intro hc; (try simp only [push_cast, Int.reduceEq, Int.reduceLT, Int.reduceLE, Int.reduceNe] at hc))) | ((with_reducible refine hK _ _ ?_); clear hK; clear K) | ((with_reducible first | refine d_blk ?_ | refine d_rt0 ?_ | refine d_sk0 ?_ | refine d_ex0 ?_); (try simp only [go_sem, Nat.reduceAdd, Nat.reduceEqDiff, Int.reduceToNat, Nat.reduceMul, Nat.reduceSub])) | (with_reducible refine r_rq (by first | decide | omega) ?_) | ((with_reducible refine r_nwc ?_); intro b) | ((with_reducible first | apply i_lds | apply i_ldsq | apply i_ld | apply i_ldq); exact rfl) | ((with_reducible first | apply i_ldn | apply i_ldnq); exact rfl; exact rfl; exact rfl) | (with_reducible first | refine r_ph0 ?_ | apply i_kp0) | ((with_reducible first | apply i_st | apply i_stl); (focus simp); exact rfl) | simp only [go_sem, Nat.reduceAdd, Nat.reduceEqDiff, Int.reduceToNat, Nat.reduceMul, Nat.reduceSub] | (clear hK; clear K))
    (with_reducible first | apply i_ret0 | apply i_ret2 | apply i_ret3 | apply i_ret); exact rfl
    rfl
/-! ### The writer: what is laid, or the first error -/
abbrev Wt := List UInt8 × Int
def lay1 (r q : Wt) : Wt := if r.2 ≠ 0 then r else if q.2 ≠ 0 then ([], q.2) else (q.1, 0)
abbrev wr (b : Nat) (r : Wt) : HP := ar b 137 [str r.1, .int .i64 r.2]
theorem Takes.there {L A R : List HP} {y : HP} (t : Takes L A R) : Takes (y :: L) A (y :: R) := by
  induction t with
  | nil => exact .nil
  | cons h _ ih => exact .cons (.there h) ih
theorem f115 (b : Nat) (r q : Wt) (f : Nat) (cap : Array Value) (C : List HP) (he : entered Try.prog f = true) (H : Fp (eT2 eS eI) Try.prog f (#[str r.1] ++ cap) C q) :
    Fq eN Try.prog 115 #[.pointer (some ⟨b, 0, none⟩), .func (.func f) #[] cap] (wr b r :: C) (wr b (lay1 r q) :: C) () := fun L => by
  obtain ⟨s, e⟩ := r
  obtain ⟨s', e'⟩ := q
  unfold lay1
  by_cases h0 : e = 0
  · subst h0
    by_cases h1 : e' = 0
    · subst h1
      rw [if_neg (by simp), if_neg (by simp)]
      refine c115_fn rfl rfl ?_
      repeat' ((fail_if_success with_reducible refine (id : E _ (ph _) → E _ (ph _)) ?_); first | ((with_reducible refine d_seq ?_); intro K hK) | ((with_reducible refine d_reg ?_); simp only [go_sem, Nat.reduceAdd, Nat.reduceEqDiff, Int.reduceToNat, Nat.reduceMul, Nat.reduceSub]) | ((first | ((with_reducible refine d_cnd ?_); refine And.intro ?_ ?_) | (with_reducible refine r_cnd ?_ ?_)); all_goals (intro hc; (try simp only [push_cast, Int.reduceEq, Int.reduceLT, Int.reduceLE, Int.reduceNe] at hc))) | ((with_reducible refine hK _ _ ?_); clear hK; clear K) | ((with_reducible first | refine d_blk ?_ | refine d_rt0 ?_ | refine d_sk0 ?_ | refine d_ex0 ?_); (try simp only [go_sem, Nat.reduceAdd, Nat.reduceEqDiff, Int.reduceToNat, Nat.reduceMul, Nat.reduceSub])) | (with_reducible refine r_rq (by first | decide | omega) ?_) | ((with_reducible refine r_nwc ?_); intro b) | ((with_reducible first | apply i_lds | apply i_ldsq | apply i_ld | apply i_ldq); exact rfl) | ((with_reducible first | apply i_ldn | apply i_ldnq); exact rfl; exact rfl; exact rfl) | (with_reducible first | refine r_ph0 ?_ | apply i_kp0) | ((with_reducible first | apply i_st | apply i_stl); (focus simp); exact rfl) | simp only [go_sem, Nat.reduceAdd, Nat.reduceEqDiff, Int.reduceToNat, Nat.reduceMul, Nat.reduceSub] | (clear hK; clear K))
      all_goals try (first | contradiction | (simp only [ reduceCtorEq] at *; done) | (exfalso; omega))
      unfold ent
      rw [he]
      have : TX (wr b (s, 0) :: (C ++ L)) C (wr b (s, 0) :: L) := ⟨(Takes.all C).there⟩
      refine i_clp H ?_
      repeat' ((fail_if_success with_reducible refine (id : E _ (ph _) → E _ (ph _)) ?_); first | ((with_reducible refine d_seq ?_); intro K hK) | ((with_reducible refine d_reg ?_); simp only [go_sem, Nat.reduceAdd, Nat.reduceEqDiff, Int.reduceToNat, Nat.reduceMul, Nat.reduceSub]) | ((first | ((with_reducible refine d_cnd ?_); refine And.intro ?_ ?_) | (with_reducible refine r_cnd ?_ ?_)); all_goals (intro hc; (try simp only [push_cast, Int.reduceEq, Int.reduceLT, Int.reduceLE, Int.reduceNe] at hc))) | ((with_reducible refine hK _ _ ?_); clear hK; clear K) | ((with_reducible first | refine d_blk ?_ | refine d_rt0 ?_ | refine d_sk0 ?_ | refine d_ex0 ?_); (try simp only [go_sem, Nat.reduceAdd, Nat.reduceEqDiff, Int.reduceToNat, Nat.reduceMul, Nat.reduceSub])) | (with_reducible refine r_rq (by first | decide | omega) ?_) | ((with_reducible refine r_nwc ?_); intro b) | ((with_reducible first | apply i_lds | apply i_ldsq | apply i_ld | apply i_ldq); exact rfl) | ((with_reducible first | apply i_ldn | apply i_ldnq); exact rfl; exact rfl; exact rfl) | (with_reducible first | refine r_ph0 ?_ | apply i_kp0) | ((with_reducible first | apply i_st | apply i_stl); (focus simp); exact rfl) | simp only [go_sem, Nat.reduceAdd, Nat.reduceEqDiff, Int.reduceToNat, Nat.reduceMul, Nat.reduceSub] | (clear hK; clear K))
      all_goals try (first | contradiction | (simp only [ reduceCtorEq] at *; done) | (exfalso; omega))
      (with_reducible first | apply i_ret0 | apply i_ret2 | apply i_ret3 | apply i_ret); exact rfl
    · rw [if_neg (by simp), if_pos h1]
      refine c115_fn rfl rfl ?_
      repeat' ((fail_if_success with_reducible refine (id : E _ (ph _) → E _ (ph _)) ?_); first | ((with_reducible refine d_seq ?_); intro K hK) | ((with_reducible refine d_reg ?_); simp only [go_sem, Nat.reduceAdd, Nat.reduceEqDiff, Int.reduceToNat, Nat.reduceMul, Nat.reduceSub]) | ((first | ((with_reducible refine d_cnd ?_); refine And.intro ?_ ?_) | (with_reducible refine r_cnd ?_ ?_)); all_goals (intro hc; (try simp only [push_cast, Int.reduceEq, Int.reduceLT, Int.reduceLE, Int.reduceNe] at hc))) | ((with_reducible refine hK _ _ ?_); clear hK; clear K) | ((with_reducible first | refine d_blk ?_ | refine d_rt0 ?_ | refine d_sk0 ?_ | refine d_ex0 ?_); (try simp only [go_sem, Nat.reduceAdd, Nat.reduceEqDiff, Int.reduceToNat, Nat.reduceMul, Nat.reduceSub])) | (with_reducible refine r_rq (by first | decide | omega) ?_) | ((with_reducible refine r_nwc ?_); intro b) | ((with_reducible first | apply i_lds | apply i_ldsq | apply i_ld | apply i_ldq); exact rfl) | ((with_reducible first | apply i_ldn | apply i_ldnq); exact rfl; exact rfl; exact rfl) | (with_reducible first | refine r_ph0 ?_ | apply i_kp0) | ((with_reducible first | apply i_st | apply i_stl); (focus simp); exact rfl) | simp only [go_sem, Nat.reduceAdd, Nat.reduceEqDiff, Int.reduceToNat, Nat.reduceMul, Nat.reduceSub] | (clear hK; clear K))
      all_goals try (first | contradiction | (simp only [ reduceCtorEq] at *; done) | (exfalso; omega))
      unfold ent
      rw [he]
      have : TX (wr b (s, 0) :: (C ++ L)) C (wr b (s, 0) :: L) := ⟨(Takes.all C).there⟩
      refine i_clp H ?_
      repeat' ((fail_if_success with_reducible refine (id : E _ (ph _) → E _ (ph _)) ?_); first | ((with_reducible refine d_seq ?_); intro K hK) | ((with_reducible refine d_reg ?_); simp only [go_sem, Nat.reduceAdd, Nat.reduceEqDiff, Int.reduceToNat, Nat.reduceMul, Nat.reduceSub]) | ((first | ((with_reducible refine d_cnd ?_); refine And.intro ?_ ?_) | (with_reducible refine r_cnd ?_ ?_)); all_goals (intro hc; (try simp only [push_cast, Int.reduceEq, Int.reduceLT, Int.reduceLE, Int.reduceNe] at hc))) | ((with_reducible refine hK _ _ ?_); clear hK; clear K) | ((with_reducible first | refine d_blk ?_ | refine d_rt0 ?_ | refine d_sk0 ?_ | refine d_ex0 ?_); (try simp only [go_sem, Nat.reduceAdd, Nat.reduceEqDiff, Int.reduceToNat, Nat.reduceMul, Nat.reduceSub])) | (with_reducible refine r_rq (by first | decide | omega) ?_) | ((with_reducible refine r_nwc ?_); intro b) | ((with_reducible first | apply i_lds | apply i_ldsq | apply i_ld | apply i_ldq); exact rfl) | ((with_reducible first | apply i_ldn | apply i_ldnq); exact rfl; exact rfl; exact rfl) | (with_reducible first | refine r_ph0 ?_ | apply i_kp0) | ((with_reducible first | apply i_st | apply i_stl); (focus simp); exact rfl) | simp only [go_sem, Nat.reduceAdd, Nat.reduceEqDiff, Int.reduceToNat, Nat.reduceMul, Nat.reduceSub] | (clear hK; clear K))
      all_goals try (first | contradiction | (simp only [ reduceCtorEq] at *; done) | (exfalso; omega))
      (with_reducible first | apply i_ret0 | apply i_ret2 | apply i_ret3 | apply i_ret); exact rfl
  · rw [if_pos h0]
    refine c115_fn rfl rfl ?_
    repeat' ((fail_if_success with_reducible refine (id : E _ (ph _) → E _ (ph _)) ?_); first | ((with_reducible refine d_seq ?_); intro K hK) | ((with_reducible refine d_reg ?_); simp only [go_sem, Nat.reduceAdd, Nat.reduceEqDiff, Int.reduceToNat, Nat.reduceMul, Nat.reduceSub]) | ((first | ((with_reducible refine d_cnd ?_); refine And.intro ?_ ?_) | (with_reducible refine r_cnd ?_ ?_)); all_goals (intro hc; (try simp only [push_cast, Int.reduceEq, Int.reduceLT, Int.reduceLE, Int.reduceNe] at hc))) | ((with_reducible refine hK _ _ ?_); clear hK; clear K) | ((with_reducible first | refine d_blk ?_ | refine d_rt0 ?_ | refine d_sk0 ?_ | refine d_ex0 ?_); (try simp only [go_sem, Nat.reduceAdd, Nat.reduceEqDiff, Int.reduceToNat, Nat.reduceMul, Nat.reduceSub])) | (with_reducible refine r_rq (by first | decide | omega) ?_) | ((with_reducible refine r_nwc ?_); intro b) | ((with_reducible first | apply i_lds | apply i_ldsq | apply i_ld | apply i_ldq); exact rfl) | ((with_reducible first | apply i_ldn | apply i_ldnq); exact rfl; exact rfl; exact rfl) | (with_reducible first | refine r_ph0 ?_ | apply i_kp0) | ((with_reducible first | apply i_st | apply i_stl); (focus simp); exact rfl) | simp only [go_sem, Nat.reduceAdd, Nat.reduceEqDiff, Int.reduceToNat, Nat.reduceMul, Nat.reduceSub] | (clear hK; clear K))
    all_goals try (first | contradiction | (simp only [ reduceCtorEq] at *; done) | (exfalso; omega))
    (with_reducible first | apply i_ret0 | apply i_ret2 | apply i_ret3 | apply i_ret); exact rfl
theorem f95 (q : Nat) (r : Wt) (n : Int) (w : Nat) (h1 : 1 ≤ w) (h6 : w ≤ 6) (hs : r.1.length ≤ 2305843009213693952) :
    Fq eN Try.prog 95 #[.pointer (some ⟨q, 0, none⟩), .int .i64 n, .int .i64 (w : Int)] [wr q r] [wr q (lay1 r (putN r.1 n w))] () := fun L => by
  refine c95_fn rfl rfl ?_
  repeat' ((fail_if_success with_reducible refine (id : E _ (ph _) → E _ (ph _)) ?_); first | ((with_reducible refine d_seq ?_); intro K hK) | ((with_reducible refine d_reg ?_); simp only [go_sem, Nat.reduceAdd, Nat.reduceEqDiff, Int.reduceToNat, Nat.reduceMul, Nat.reduceSub]) | ((first | ((with_reducible refine d_cnd ?_); refine And.intro ?_ ?_) | (with_reducible refine r_cnd ?_ ?_)); all_goals (intro hc; (try simp only [push_cast, Int.reduceEq, Int.reduceLT, Int.reduceLE, Int.reduceNe] at hc))) | ((with_reducible refine hK _ _ ?_); clear hK; clear K) | ((with_reducible first | refine d_blk ?_ | refine d_rt0 ?_ | refine d_sk0 ?_ | refine d_ex0 ?_); (try simp only [go_sem, Nat.reduceAdd, Nat.reduceEqDiff, Int.reduceToNat, Nat.reduceMul, Nat.reduceSub])) | (with_reducible refine r_rq (by first | decide | omega) ?_) | ((with_reducible refine r_nwc ?_); intro b) | ((with_reducible first | apply i_lds | apply i_ldsq | apply i_ld | apply i_ldq); exact rfl) | ((with_reducible first | apply i_ldn | apply i_ldnq); exact rfl; exact rfl; exact rfl) | (with_reducible first | refine r_ph0 ?_ | apply i_kp0) | ((with_reducible first | apply i_st | apply i_stl); (focus simp); exact rfl) | simp only [go_sem, Nat.reduceAdd, Nat.reduceEqDiff, Int.reduceToNat, Nat.reduceMul, Nat.reduceSub] | (clear hK; clear K))
  rename_i b1
  have H : Fp (eT2 eS eI) Try.prog 118 #[str r.1, .pointer (some ⟨b1, 0, none⟩), .pointer (some ⟨b, 0, none⟩)] [ar b1 3 [.int .i64 n], ar b 3 [.int .i64 (w : Int)]] (putN r.1 n w) := fun L => by
    refine c118_fn rfl rfl ?_
    repeat' ((fail_if_success with_reducible refine (id : E _ (ph _) → E _ (ph _)) ?_); first | ((with_reducible refine d_seq ?_); intro K hK) | ((with_reducible refine d_reg ?_); simp only [go_sem, Nat.reduceAdd, Nat.reduceEqDiff, Int.reduceToNat, Nat.reduceMul, Nat.reduceSub]) | ((first | ((with_reducible refine d_cnd ?_); refine And.intro ?_ ?_) | (with_reducible refine r_cnd ?_ ?_)); all_goals (intro hc; (try simp only [push_cast, Int.reduceEq, Int.reduceLT, Int.reduceLE, Int.reduceNe] at hc))) | ((with_reducible refine hK _ _ ?_); clear hK; clear K) | ((with_reducible first | refine d_blk ?_ | refine d_rt0 ?_ | refine d_sk0 ?_ | refine d_ex0 ?_); (try simp only [go_sem, Nat.reduceAdd, Nat.reduceEqDiff, Int.reduceToNat, Nat.reduceMul, Nat.reduceSub])) | (with_reducible refine r_rq (by first | decide | omega) ?_) | ((with_reducible refine r_nwc ?_); intro b) | ((with_reducible first | apply i_lds | apply i_ldsq | apply i_ld | apply i_ldq); exact rfl) | ((with_reducible first | apply i_ldn | apply i_ldnq); exact rfl; exact rfl; exact rfl) | (with_reducible first | refine r_ph0 ?_ | apply i_kp0) | ((with_reducible first | apply i_st | apply i_stl); (focus simp); exact rfl) | simp only [go_sem, Nat.reduceAdd, Nat.reduceEqDiff, Int.reduceToNat, Nat.reduceMul, Nat.reduceSub] | (clear hK; clear K))
    refine i_clp (f97 r.1 n w h1 h6 (by omega)) ?_
    repeat' ((fail_if_success with_reducible refine (id : E _ (ph _) → E _ (ph _)) ?_); first | ((with_reducible refine d_seq ?_); intro K hK) | ((with_reducible refine d_reg ?_); simp only [go_sem, Nat.reduceAdd, Nat.reduceEqDiff, Int.reduceToNat, Nat.reduceMul, Nat.reduceSub]) | ((first | ((with_reducible refine d_cnd ?_); refine And.intro ?_ ?_) | (with_reducible refine r_cnd ?_ ?_)); all_goals (intro hc; (try simp only [push_cast, Int.reduceEq, Int.reduceLT, Int.reduceLE, Int.reduceNe] at hc))) | ((with_reducible refine hK _ _ ?_); clear hK; clear K) | ((with_reducible first | refine d_blk ?_ | refine d_rt0 ?_ | refine d_sk0 ?_ | refine d_ex0 ?_); (try simp only [go_sem, Nat.reduceAdd, Nat.reduceEqDiff, Int.reduceToNat, Nat.reduceMul, Nat.reduceSub])) | (with_reducible refine r_rq (by first | decide | omega) ?_) | ((with_reducible refine r_nwc ?_); intro b) | ((with_reducible first | apply i_lds | apply i_ldsq | apply i_ld | apply i_ldq); exact rfl) | ((with_reducible first | apply i_ldn | apply i_ldnq); exact rfl; exact rfl; exact rfl) | (with_reducible first | refine r_ph0 ?_ | apply i_kp0) | ((with_reducible first | apply i_st | apply i_stl); (focus simp); exact rfl) | simp only [go_sem, Nat.reduceAdd, Nat.reduceEqDiff, Int.reduceToNat, Nat.reduceMul, Nat.reduceSub] | (clear hK; clear K))
    (with_reducible first | apply i_ret0 | apply i_ret2 | apply i_ret3 | apply i_ret); exact rfl
    rfl
  refine i_clq (f115 q r _ 118 #[.pointer (some ⟨b1, 0, none⟩), .pointer (some ⟨b, 0, none⟩)] _ (by kernel_rfl) H) ?_
  repeat' ((fail_if_success with_reducible refine (id : E _ (ph _) → E _ (ph _)) ?_); first | ((with_reducible refine d_seq ?_); intro K hK) | ((with_reducible refine d_reg ?_); simp only [go_sem, Nat.reduceAdd, Nat.reduceEqDiff, Int.reduceToNat, Nat.reduceMul, Nat.reduceSub]) | ((first | ((with_reducible refine d_cnd ?_); refine And.intro ?_ ?_) | (with_reducible refine r_cnd ?_ ?_)); all_goals (intro hc; (try simp only [push_cast, Int.reduceEq, Int.reduceLT, Int.reduceLE, Int.reduceNe] at hc))) | ((with_reducible refine hK _ _ ?_); clear hK; clear K) | ((with_reducible first | refine d_blk ?_ | refine d_rt0 ?_ | refine d_sk0 ?_ | refine d_ex0 ?_); (try simp only [go_sem, Nat.reduceAdd, Nat.reduceEqDiff, Int.reduceToNat, Nat.reduceMul, Nat.reduceSub])) | (with_reducible refine r_rq (by first | decide | omega) ?_) | ((with_reducible refine r_nwc ?_); intro b) | ((with_reducible first | apply i_lds | apply i_ldsq | apply i_ld | apply i_ldq); exact rfl) | ((with_reducible first | apply i_ldn | apply i_ldnq); exact rfl; exact rfl; exact rfl) | (with_reducible first | refine r_ph0 ?_ | apply i_kp0) | ((with_reducible first | apply i_st | apply i_stl); (focus simp); exact rfl) | simp only [go_sem, Nat.reduceAdd, Nat.reduceEqDiff, Int.reduceToNat, Nat.reduceMul, Nat.reduceSub] | (clear hK; clear K))
  (with_reducible first | apply i_ret0 | apply i_ret2 | apply i_ret3 | apply i_ret); exact rfl
theorem f94 (q : Nat) (r : Wt) (t : List UInt8) (hs : r.1.length ≤ 2305843009213693952) :
    Fq eN Try.prog 94 #[.pointer (some ⟨q, 0, none⟩), str t] [wr q r] [wr q (lay1 r (putT r.1 t))] () := fun L => by
  refine c94_fn rfl rfl ?_
  repeat' ((fail_if_success with_reducible refine (id : E _ (ph _) → E _ (ph _)) ?_); first | ((with_reducible refine d_seq ?_); intro K hK) | ((with_reducible refine d_reg ?_); simp only [go_sem, Nat.reduceAdd, Nat.reduceEqDiff, Int.reduceToNat, Nat.reduceMul, Nat.reduceSub]) | ((first | ((with_reducible refine d_cnd ?_); refine And.intro ?_ ?_) | (with_reducible refine r_cnd ?_ ?_)); all_goals (intro hc; (try simp only [push_cast, Int.reduceEq, Int.reduceLT, Int.reduceLE, Int.reduceNe] at hc))) | ((with_reducible refine hK _ _ ?_); clear hK; clear K) | ((with_reducible first | refine d_blk ?_ | refine d_rt0 ?_ | refine d_sk0 ?_ | refine d_ex0 ?_); (try simp only [go_sem, Nat.reduceAdd, Nat.reduceEqDiff, Int.reduceToNat, Nat.reduceMul, Nat.reduceSub])) | (with_reducible refine r_rq (by first | decide | omega) ?_) | ((with_reducible refine r_nwc ?_); intro b) | ((with_reducible first | apply i_lds | apply i_ldsq | apply i_ld | apply i_ldq); exact rfl) | ((with_reducible first | apply i_ldn | apply i_ldnq); exact rfl; exact rfl; exact rfl) | (with_reducible first | refine r_ph0 ?_ | apply i_kp0) | ((with_reducible first | apply i_st | apply i_stl); (focus simp); exact rfl) | simp only [go_sem, Nat.reduceAdd, Nat.reduceEqDiff, Int.reduceToNat, Nat.reduceMul, Nat.reduceSub] | (clear hK; clear K))
  have H : Fp (eT2 eS eI) Try.prog 116 #[str r.1, .pointer (some ⟨b, 0, none⟩)] [ar b 9 [str t]] (putT r.1 t) := fun L => by
    refine c116_fn rfl rfl ?_
    repeat' ((fail_if_success with_reducible refine (id : E _ (ph _) → E _ (ph _)) ?_); first | ((with_reducible refine d_seq ?_); intro K hK) | ((with_reducible refine d_reg ?_); simp only [go_sem, Nat.reduceAdd, Nat.reduceEqDiff, Int.reduceToNat, Nat.reduceMul, Nat.reduceSub]) | ((first | ((with_reducible refine d_cnd ?_); refine And.intro ?_ ?_) | (with_reducible refine r_cnd ?_ ?_)); all_goals (intro hc; (try simp only [push_cast, Int.reduceEq, Int.reduceLT, Int.reduceLE, Int.reduceNe] at hc))) | ((with_reducible refine hK _ _ ?_); clear hK; clear K) | ((with_reducible first | refine d_blk ?_ | refine d_rt0 ?_ | refine d_sk0 ?_ | refine d_ex0 ?_); (try simp only [go_sem, Nat.reduceAdd, Nat.reduceEqDiff, Int.reduceToNat, Nat.reduceMul, Nat.reduceSub])) | (with_reducible refine r_rq (by first | decide | omega) ?_) | ((with_reducible refine r_nwc ?_); intro b) | ((with_reducible first | apply i_lds | apply i_ldsq | apply i_ld | apply i_ldq); exact rfl) | ((with_reducible first | apply i_ldn | apply i_ldnq); exact rfl; exact rfl; exact rfl) | (with_reducible first | refine r_ph0 ?_ | apply i_kp0) | ((with_reducible first | apply i_st | apply i_stl); (focus simp); exact rfl) | simp only [go_sem, Nat.reduceAdd, Nat.reduceEqDiff, Int.reduceToNat, Nat.reduceMul, Nat.reduceSub] | (clear hK; clear K))
    refine i_clp (f117 r.1 t hs) ?_
    repeat' ((fail_if_success with_reducible refine (id : E _ (ph _) → E _ (ph _)) ?_); first | ((with_reducible refine d_seq ?_); intro K hK) | ((with_reducible refine d_reg ?_); simp only [go_sem, Nat.reduceAdd, Nat.reduceEqDiff, Int.reduceToNat, Nat.reduceMul, Nat.reduceSub]) | ((first | ((with_reducible refine d_cnd ?_); refine And.intro ?_ ?_) | (with_reducible refine r_cnd ?_ ?_)); all_goals (intro hc; (try simp only [push_cast, Int.reduceEq, Int.reduceLT, Int.reduceLE, Int.reduceNe] at hc))) | ((with_reducible refine hK _ _ ?_); clear hK; clear K) | ((with_reducible first | refine d_blk ?_ | refine d_rt0 ?_ | refine d_sk0 ?_ | refine d_ex0 ?_); (try simp only [go_sem, Nat.reduceAdd, Nat.reduceEqDiff, Int.reduceToNat, Nat.reduceMul, Nat.reduceSub])) | (with_reducible refine r_rq (by first | decide | omega) ?_) | ((with_reducible refine r_nwc ?_); intro b) | ((with_reducible first | apply i_lds | apply i_ldsq | apply i_ld | apply i_ldq); exact rfl) | ((with_reducible first | apply i_ldn | apply i_ldnq); exact rfl; exact rfl; exact rfl) | (with_reducible first | refine r_ph0 ?_ | apply i_kp0) | ((with_reducible first | apply i_st | apply i_stl); (focus simp); exact rfl) | simp only [go_sem, Nat.reduceAdd, Nat.reduceEqDiff, Int.reduceToNat, Nat.reduceMul, Nat.reduceSub] | (clear hK; clear K))
    (with_reducible first | apply i_ret0 | apply i_ret2 | apply i_ret3 | apply i_ret); exact rfl
    rfl
  refine i_clq (f115 q r _ 116 #[.pointer (some ⟨b, 0, none⟩)] _ (by kernel_rfl) H) ?_
  repeat' ((fail_if_success with_reducible refine (id : E _ (ph _) → E _ (ph _)) ?_); first | ((with_reducible refine d_seq ?_); intro K hK) | ((with_reducible refine d_reg ?_); simp only [go_sem, Nat.reduceAdd, Nat.reduceEqDiff, Int.reduceToNat, Nat.reduceMul, Nat.reduceSub]) | ((first | ((with_reducible refine d_cnd ?_); refine And.intro ?_ ?_) | (with_reducible refine r_cnd ?_ ?_)); all_goals (intro hc; (try simp only [push_cast, Int.reduceEq, Int.reduceLT, Int.reduceLE, Int.reduceNe] at hc))) | ((with_reducible refine hK _ _ ?_); clear hK; clear K) | ((with_reducible first | refine d_blk ?_ | refine d_rt0 ?_ | refine d_sk0 ?_ | refine d_ex0 ?_); (try simp only [go_sem, Nat.reduceAdd, Nat.reduceEqDiff, Int.reduceToNat, Nat.reduceMul, Nat.reduceSub])) | (with_reducible refine r_rq (by first | decide | omega) ?_) | ((with_reducible refine r_nwc ?_); intro b) | ((with_reducible first | apply i_lds | apply i_ldsq | apply i_ld | apply i_ldq); exact rfl) | ((with_reducible first | apply i_ldn | apply i_ldnq); exact rfl; exact rfl; exact rfl) | (with_reducible first | refine r_ph0 ?_ | apply i_kp0) | ((with_reducible first | apply i_st | apply i_stl); (focus simp); exact rfl) | simp only [go_sem, Nat.reduceAdd, Nat.reduceEqDiff, Int.reduceToNat, Nat.reduceMul, Nat.reduceSub] | (clear hK; clear K))
  (with_reducible first | apply i_ret0 | apply i_ret2 | apply i_ret3 | apply i_ret); exact rfl
theorem f96 (q : Nat) (r : Wt) : Fp (eT2 eS eI) Try.prog 96 #[.pointer (some ⟨q, 0, none⟩)] [wr q r] r := fun L => by
  refine c96_fn rfl rfl ?_
  repeat' (first | ((with_reducible refine d_seq ?_); intro K hK) | ((with_reducible refine d_reg ?_); simp only [go_sem, Nat.reduceAdd, Nat.reduceEqDiff, Int.reduceToNat, Nat.reduceMul, Nat.reduceSub]) | ((first | ((with_reducible refine d_cnd ?_); refine And.intro ?_ ?_) | (with_reducible refine r_cnd ?_ ?_)); all_goals (intro hc; (try simp only [push_cast, Int.reduceEq, Int.reduceLT, Int.reduceLE, Int.reduceNe] at hc))) | ((with_reducible refine hK _ _ ?_); clear hK; clear K) | ((with_reducible first | refine d_blk ?_ | refine d_rt0 ?_ | refine d_sk0 ?_ | refine d_ex0 ?_); (try simp only [go_sem, Nat.reduceAdd, Nat.reduceEqDiff, Int.reduceToNat, Nat.reduceMul, Nat.reduceSub])) | (with_reducible refine r_rq (by first | decide | omega) ?_) | ((with_reducible refine r_nwc ?_); intro b) | ((with_reducible first | apply i_lds | apply i_ldsq | apply i_ld | apply i_ldq); exact rfl) | ((with_reducible first | apply i_ldn | apply i_ldnq); exact rfl; exact rfl; exact rfl) | (with_reducible first | refine r_ph0 ?_ | apply i_kp0) | ((with_reducible first | apply i_st | apply i_stl); (focus simp); exact rfl) | simp only [go_sem, Nat.reduceAdd, Nat.reduceEqDiff, Int.reduceToNat, Nat.reduceMul, Nat.reduceSub] | (clear hK; clear K))
  (with_reducible first | apply i_ret0 | apply i_ret2 | apply i_ret3 | apply i_ret); exact rfl
  rfl
theorem fit_iff (n : Int) {w : Nat} : ((n / 256 ^ w == 0) && decide (0 ≤ n)) = !decide (n < 0 ∨ ((256 ^ w : Nat) : Int) ≤ n) := by
  have hp : (0 : Int) < 256 ^ w := Int.pow_pos (by decide)
  have e : ((256 ^ w : Nat) : Int) = 256 ^ w := by simp
  rw [e]
  by_cases h0 : n < 0
  · simp [h0]
  · by_cases h1 : (256 : Int) ^ w ≤ n
    · have : ¬ n / 256 ^ w = 0 := by
        have := Int.le_ediv_of_mul_le hp (by rw [Int.one_mul]; exact h1 : 1 * 256 ^ w ≤ n)
        omega
      simp [this, h1]
    · have : n / 256 ^ w = 0 := Int.ediv_eq_zero_of_lt (by omega) (by omega)
      simp [this, h0, h1]; omega
end Go.Sp
/- The kit's sort and Repeat at this program: their layings in plain words. Printed by the kit's lay-plain.mjs. -/
namespace Go.Proofs
open Go.Shelf
def Try.lays189_ren : Go.Shelf.Ren := ⟨fun | 189 => 80 | 125 => 93 | 257 => 92 | 128 => 113 | 129 => 114 | 294 => 104 | 295 => 105 | 296 => 106 | 297 => 107 | 298 => 108 | 299 => 109 | 216 => 110 | 300 => 111 | 301 => 112 | 328 => 125 | 329 => 126 | 330 => 127 | 331 => 128 | 332 => 129 | 215 => 130 | 343 => 133 | n => n, fun | 28 => 61 | 3 => 3 | 46 => 132 | 0 => 0 | 51 => 162 | 53 => 31 | 4 => 4 | 183 => 155 | 182 => 154 | 131 => 159 | 5 => 5 | 9 => 9 | 218 => 172 | 222 => 176 | 228 => 181 | 229 => 99 | n => n, fun | n => n⟩
theorem Try.lays189 : Go.Proofs.Lays.n189 Try.prog Try.lays189_ren := {
  mixed := by kernel_rfl
  f125 := Try.func93.trans (congrArg some (by kernel_rfl))
  f128 := Try.func113.trans (congrArg some (by kernel_rfl))
  f129 := Try.func114.trans (congrArg some (by kernel_rfl))
  f189 := Try.func80.trans (congrArg some (by kernel_rfl))
  f215 := Try.func130.trans (congrArg some (by kernel_rfl))
  f216 := Try.func110.trans (congrArg some (by kernel_rfl))
  f257 := Try.func92.trans (congrArg some (by kernel_rfl))
  f294 := Try.func104.trans (congrArg some (by kernel_rfl))
  f295 := Try.func105.trans (congrArg some (by kernel_rfl))
  f296 := Try.func106.trans (congrArg some (by kernel_rfl))
  f297 := Try.func107.trans (congrArg some (by kernel_rfl))
  f298 := Try.func108.trans (congrArg some (by kernel_rfl))
  f299 := Try.func109.trans (congrArg some (by kernel_rfl))
  f300 := Try.func111.trans (congrArg some (by kernel_rfl))
  f301 := Try.func112.trans (congrArg some (by kernel_rfl))
  f328 := Try.func125.trans (congrArg some (by kernel_rfl))
  f329 := Try.func126.trans (congrArg some (by kernel_rfl))
  f330 := Try.func127.trans (congrArg some (by kernel_rfl))
  f331 := Try.func128.trans (congrArg some (by kernel_rfl))
  f332 := Try.func129.trans (congrArg some (by kernel_rfl))
  f343 := Try.func133.trans (congrArg some (by kernel_rfl))
  t0 := Try.underlying0
  a0 := Try.isAgg0
  z0 := Try.sizeOf0
  v0 := Try.zeroValue0
  t3 := Try.underlying3
  a3 := Try.isAgg3
  z3 := Try.sizeOf3
  v3 := Try.zeroValue3
  t4 := Try.underlying4
  a4 := Try.isAgg4
  z4 := Try.sizeOf4
  v4 := Try.zeroValue4
  t5 := Try.underlying5
  a5 := Try.isAgg5
  z5 := Try.sizeOf5
  v5 := Try.zeroValue5
  t9 := Try.underlying9
  a9 := Try.isAgg9
  z9 := Try.sizeOf9
  v9 := Try.zeroValue9
  t28 := Try.underlying61
  a28 := Try.isAgg61
  z28 := Try.sizeOf61
  v28 := Try.zeroValue61
  t46 := Try.underlying132
  a46 := Try.isAgg132
  z46 := Try.sizeOf132
  v46 := Try.zeroValue132
  t51 := Try.underlying162
  a51 := Try.isAgg162
  z51 := Try.sizeOf162
  v51 := Try.zeroValue162
  t53 := Try.underlying31
  a53 := Try.isAgg31
  z53 := Try.sizeOf31
  v53 := Try.zeroValue31
  t131 := Try.underlying159
  a131 := Try.isAgg159
  z131 := Try.sizeOf159
  v131 := Try.zeroValue159
  t182 := Try.underlying154
  a182 := Try.isAgg154
  z182 := Try.sizeOf154
  v182 := Try.zeroValue154
  t183 := Try.underlying155
  a183 := Try.isAgg155
  z183 := Try.sizeOf155
  v183 := Try.zeroValue155
  t218 := Try.underlying172
  a218 := Try.isAgg172
  z218 := Try.sizeOf172
  v218 := Try.zeroValue172
  t222 := Try.underlying176
  a222 := Try.isAgg176
  z222 := Try.sizeOf176
  v222 := Try.zeroValue176
  t228 := Try.underlying181
  a228 := Try.isAgg181
  z228 := Try.sizeOf181
  v228 := Try.zeroValue181
  t229 := Try.underlying99
  a229 := Try.isAgg99
  z229 := Try.sizeOf99
  v229 := Try.zeroValue99 }
def Try.lays105_ren : Go.Shelf.Ren := ⟨fun | 105 => 87 | 212 => 98 | 99 => 99 | 165 => 100 | 166 => 101 | 170 => 102 | 169 => 103 | 263 => 120 | 264 => 121 | 206 => 122 | 240 => 123 | 241 => 124 | 276 => 131 | 277 => 132 | n => n, fun | 9 => 9 | 3 => 3 | 4 => 4 | 20 => 20 | 0 => 0 | 46 => 132 | 109 => 141 | 5 => 5 | 72 => 146 | 76 => 150 | 51 => 162 | 146 => 167 | 53 => 31 | 148 => 169 | 70 => 144 | 37 => 125 | 75 => 149 | 127 => 171 | 164 => 178 | 80 => 152 | n => n, fun | n => n⟩
theorem Try.lays105 : Go.Proofs.Lays.n105 Try.prog Try.lays105_ren := {
  mixed := by kernel_rfl
  f99 := Try.func99.trans (congrArg some (by kernel_rfl))
  f105 := Try.func87.trans (congrArg some (by kernel_rfl))
  f165 := Try.func100.trans (congrArg some (by kernel_rfl))
  f166 := Try.func101.trans (congrArg some (by kernel_rfl))
  f169 := Try.func103.trans (congrArg some (by kernel_rfl))
  f170 := Try.func102.trans (congrArg some (by kernel_rfl))
  f206 := Try.func122.trans (congrArg some (by kernel_rfl))
  f212 := Try.func98.trans (congrArg some (by kernel_rfl))
  f240 := Try.func123.trans (congrArg some (by kernel_rfl))
  f241 := Try.func124.trans (congrArg some (by kernel_rfl))
  f263 := Try.func120.trans (congrArg some (by kernel_rfl))
  f264 := Try.func121.trans (congrArg some (by kernel_rfl))
  f276 := Try.func131.trans (congrArg some (by kernel_rfl))
  f277 := Try.func132.trans (congrArg some (by kernel_rfl))
  t0 := Try.underlying0
  a0 := Try.isAgg0
  z0 := Try.sizeOf0
  v0 := Try.zeroValue0
  t3 := Try.underlying3
  a3 := Try.isAgg3
  z3 := Try.sizeOf3
  v3 := Try.zeroValue3
  t4 := Try.underlying4
  a4 := Try.isAgg4
  z4 := Try.sizeOf4
  v4 := Try.zeroValue4
  t5 := Try.underlying5
  a5 := Try.isAgg5
  z5 := Try.sizeOf5
  v5 := Try.zeroValue5
  t9 := Try.underlying9
  a9 := Try.isAgg9
  z9 := Try.sizeOf9
  v9 := Try.zeroValue9
  t20 := Try.underlying20
  a20 := Try.isAgg20
  z20 := Try.sizeOf20
  v20 := Try.zeroValue20
  t37 := Try.underlying125
  a37 := Try.isAgg125
  z37 := Try.sizeOf125
  v37 := Try.zeroValue125
  t46 := Try.underlying132
  a46 := Try.isAgg132
  z46 := Try.sizeOf132
  v46 := Try.zeroValue132
  t51 := Try.underlying162
  a51 := Try.isAgg162
  z51 := Try.sizeOf162
  v51 := Try.zeroValue162
  t53 := Try.underlying31
  a53 := Try.isAgg31
  z53 := Try.sizeOf31
  v53 := Try.zeroValue31
  t70 := Try.underlying144
  a70 := Try.isAgg144
  z70 := Try.sizeOf144
  v70 := Try.zeroValue144
  t72 := Try.underlying146
  a72 := Try.isAgg146
  z72 := Try.sizeOf146
  v72 := Try.zeroValue146
  t75 := Try.underlying149
  a75 := Try.isAgg149
  z75 := Try.sizeOf149
  v75 := Try.zeroValue149
  t76 := Try.underlying150
  a76 := Try.isAgg150
  z76 := Try.sizeOf150
  v76 := Try.zeroValue150
  t109 := Try.underlying141
  a109 := Try.isAgg141
  z109 := Try.sizeOf141
  v109 := Try.zeroValue141
  t127 := Try.underlying171
  a127 := Try.isAgg171
  z127 := Try.sizeOf171
  v127 := Try.zeroValue171
  t146 := Try.underlying167
  a146 := Try.isAgg167
  z146 := Try.sizeOf167
  v146 := Try.zeroValue167
  t148 := Try.underlying169
  a148 := Try.isAgg169
  z148 := Try.sizeOf169
  v148 := Try.zeroValue169
  t164 := Try.underlying178
  a164 := Try.isAgg178
  z164 := Try.sizeOf178
  v164 := Try.zeroValue178 }
theorem Try.builder : Builder.Extra Try.prog Try.lays105_ren := {
  sizeBuilder := by kernel_rfl
  liesBuilder := by kernel_rfl
  t5 := Try.underlying5
  a5 := Try.isAgg5
  z5 := Try.sizeOf5
  v5 := Try.zeroValue5
  infoByte := by kernel_rfl
  cellsByte := by kernel_rfl
  sizeByte := by kernel_rfl
  neB5 := by decide }
end Go.Proofs
/- What each region of the Go functions does. Written by my own generator. -/
namespace Go.Sp
open Go
set_option maxRecDepth 100000
set_option linter.unusedVariables false
open Go.Proofs
/-! gharry.disk.New -/
noncomputable def c25 : Cfg := { P := Try.prog, n := 15, T := TT, body := (Try.f25.body).getD .skip, res := Try.f25.results.toList, li := lk [] [(0, [0]), (1, [0]), (2, []), (3, [0])], lo := lk [] [(0, [0]), (1, [0, 9]), (2, [2, 3]), (3, [2, 3]), (1000000, [2, 3])], ord := lk (false, []) [] }
@[go_sem] theorem c25_i0 : c25.li 0 = [0] := rfl
@[go_sem] theorem c25_i1 : c25.li 1 = [0] := rfl
@[go_sem] theorem c25_i2 : c25.li 2 = [] := rfl
@[go_sem] theorem c25_i3 : c25.li 3 = [0] := rfl
@[go_sem] theorem c25_r0 (sectors0 : Int) (K : Env → W) : RP c25 0 [(0, .int .i64 sectors0)] K =
    (K [(0, .int .i64 sectors0)]) := by kernel_rfl
@[go_sem] theorem c25_r1 (sectors0 : Int) (K : Env → W) : RP c25 1 [(0, .int .i64 sectors0)] K =
    (cnd ((decide (sectors0 < (1 : Int)))) (K [(0, .int .i64 sectors0), (9, .bool true)]) (K [(0, .int .i64 sectors0), (9, .bool ((decide ((8192 : Int) < sectors0))))])) := by kernel_rfl
@[go_sem] theorem c25_r2 (K : Env → W) : RP c25 2 [] K =
    (K [(2, .pointer none), (3, .int .i64 ((1 : Int)))]) := by kernel_rfl
@[go_sem] theorem c25_r3 (sectors0 : Int) (K : Env → W) : RP c25 3 [(0, .int .i64 sectors0)] K =
    (val eSl Try.prog (oMake 30 (.int .i64 sectors0) (.int .i64 sectors0)) fun (y1_ : (Option Addr × Nat × Nat)) => (nwb (.map #[] 0) fun y2_ => (nwc #[.slice ((((⟨(y1_.1, y1_.2.1, y1_.2.2), (some y2_), true, (-1 : Int), (0 : Int), (0 : Int), (0 : Int)⟩ : disk_Disk)).sure).1) ((((⟨(y1_.1, y1_.2.1, y1_.2.2), (some y2_), true, (-1 : Int), (0 : Int), (0 : Int), (0 : Int)⟩ : disk_Disk)).sure).2.1) ((((⟨(y1_.1, y1_.2.1, y1_.2.2), (some y2_), true, (-1 : Int), (0 : Int), (0 : Int), (0 : Int)⟩ : disk_Disk)).sure).2.2), .map (((⟨(y1_.1, y1_.2.1, y1_.2.2), (some y2_), true, (-1 : Int), (0 : Int), (0 : Int), (0 : Int)⟩ : disk_Disk)).wait), .bool (((⟨(y1_.1, y1_.2.1, y1_.2.2), (some y2_), true, (-1 : Int), (0 : Int), (0 : Int), (0 : Int)⟩ : disk_Disk)).up), .int .i64 (((⟨(y1_.1, y1_.2.1, y1_.2.2), (some y2_), true, (-1 : Int), (0 : Int), (0 : Int), (0 : Int)⟩ : disk_Disk)).fuse), .int .u64 (((⟨(y1_.1, y1_.2.1, y1_.2.2), (some y2_), true, (-1 : Int), (0 : Int), (0 : Int), (0 : Int)⟩ : disk_Disk)).keep), .int .i64 (((⟨(y1_.1, y1_.2.1, y1_.2.2), (some y2_), true, (-1 : Int), (0 : Int), (0 : Int), (0 : Int)⟩ : disk_Disk)).acts), .int .i64 (((⟨(y1_.1, y1_.2.1, y1_.2.2), (some y2_), true, (-1 : Int), (0 : Int), (0 : Int), (0 : Int)⟩ : disk_Disk)).downs)] 59 fun y3_ => (K [(2, .pointer (some y3_)), (3, .int .i64 ((0 : Int)))])))) := by kernel_rfl
@[go_sem] theorem c25_o : c25.lo 1000000 = [2, 3] := rfl
@[go_sem] theorem c25_e (t2 : Option Addr) (t3 : Int) (k : Value → W) : RTp c25 [(2, .pointer t2), (3, .int .i64 t3)] k = (k (.tuple #[.pointer t2, .int .i64 t3])) := by kernel_rfl
theorem c25_ok : (c25.P.follows .mixedOrders && okc c25 c25.body) = true := by kernel_rfl
theorem c25_fn {e : Enc} {args : Array Value} {G : e.α → W} {L : List HP} {ρ : Env} (hρ : envA 0 args.toList = ρ) (hs : Nat.ble args.size 15 = true) (h : E L (D c25 (.seq (.reg 0) (.seq (.seq (.reg 1) (.cond (.tmp 9) (.seq (.reg 2) (.ret)) (.skip))) (.seq (.reg 3) (.ret)))) (fnQ c25 e G) ρ)) : E L (cal e Try.prog 25 args G) :=
  d_fn (c := c25) Try.func25 (by kernel_rfl) (by kernel_rfl) (by kernel_rfl) c25_ok (by kernel_rfl) (by kernel_rfl) hρ hs h
/-! (*gharry.disk.Disk).Size -/
noncomputable def c26 : Cfg := { P := Try.prog, n := 10, T := TT, body := (Try.f26.body).getD .skip, res := Try.f26.results.toList, li := lk [] [(0, [0]), (1, [0]), (2, []), (3, [0])], lo := lk [] [(0, [0]), (1, [0, 4]), (2, [2]), (3, [2]), (1000000, [2])], ord := lk (false, []) [] }
@[go_sem] theorem c26_i0 : c26.li 0 = [0] := rfl
@[go_sem] theorem c26_i1 : c26.li 1 = [0] := rfl
@[go_sem] theorem c26_i2 : c26.li 2 = [] := rfl
@[go_sem] theorem c26_i3 : c26.li 3 = [0] := rfl
@[go_sem] theorem c26_r0 (d0 : Option Addr) (K : Env → W) : RP c26 0 [(0, .pointer d0)] K =
    (K [(0, .pointer d0)]) := by kernel_rfl
@[go_sem] theorem c26_r1 (d0 : Option Addr) (K : Env → W) : RP c26 1 [(0, .pointer d0)] K =
    (cal eB Try.prog 66 #[.pointer d0] fun (y1_ : Bool) => (K [(0, .pointer d0), (4, .bool y1_)])) := by kernel_rfl
@[go_sem] theorem c26_r2 (K : Env → W) : RP c26 2 [] K =
    (K [(2, .int .i64 ((0 : Int)))]) := by kernel_rfl
@[go_sem] theorem c26_r3 (d0 : Option Addr) (K : Env → W) : RP c26 3 [(0, .pointer d0)] K =
    (nn d0 fun y1_ => (ld eSl y1_ fun (y2_ : (Option Addr × Nat × Nat)) => (K [(2, .int .i64 ((y2_.2.1 : Int)))]))) := by kernel_rfl
@[go_sem] theorem c26_o : c26.lo 1000000 = [2] := rfl
@[go_sem] theorem c26_e (t2 : Int) (k : Value → W) : RTp c26 [(2, .int .i64 t2)] k = (k (.int .i64 t2)) := by kernel_rfl
theorem c26_ok : (c26.P.follows .mixedOrders && okc c26 c26.body) = true := by kernel_rfl
theorem c26_fn {e : Enc} {args : Array Value} {G : e.α → W} {L : List HP} {ρ : Env} (hρ : envA 0 args.toList = ρ) (hs : Nat.ble args.size 10 = true) (h : E L (D c26 (.seq (.reg 0) (.seq (.seq (.reg 1) (.cond (.tmp 4) (.seq (.reg 2) (.ret)) (.skip))) (.seq (.reg 3) (.ret)))) (fnQ c26 e G) ρ)) : E L (cal e Try.prog 26 args G) :=
  d_fn (c := c26) Try.func26 (by kernel_rfl) (by kernel_rfl) (by kernel_rfl) c26_ok (by kernel_rfl) (by kernel_rfl) hρ hs h
/-! (*gharry.disk.Disk).Write -/
noncomputable def c27 : Cfg := { P := Try.prog, n := 30, T := TT, body := (Try.f27.body).getD .skip, res := Try.f27.results.toList, li := lk [] [(0, [0, 1, 2]), (1, [0, 1, 2]), (2, [0, 1, 2, 7]), (3, [7]), (4, [0, 1, 2]), (5, []), (6, [0, 1, 2]), (7, [0, 1, 2, 8]), (8, [8]), (9, [0, 1, 2]), (10, [])], lo := lk [] [(0, [0, 1, 2]), (1, [0, 1, 2, 7]), (2, [0, 1, 2, 7, 13]), (3, [6]), (4, [0, 1, 2, 17]), (5, [6]), (6, [0, 1, 2, 8]), (7, [0, 1, 2, 8, 21]), (8, [6]), (9, []), (10, [6]), (1000000, [6])], ord := lk (false, []) [(9, (true, [(0, 1), (1, 1), (2, 1), (3, 0), (4, 1), (5, 1), (6, 2), (7, 4)]))] }
@[go_sem] theorem c27_i0 : c27.li 0 = [0, 1, 2] := rfl
@[go_sem] theorem c27_i1 : c27.li 1 = [0, 1, 2] := rfl
@[go_sem] theorem c27_i2 : c27.li 2 = [0, 1, 2, 7] := rfl
@[go_sem] theorem c27_i3 : c27.li 3 = [7] := rfl
@[go_sem] theorem c27_i4 : c27.li 4 = [0, 1, 2] := rfl
@[go_sem] theorem c27_i5 : c27.li 5 = [] := rfl
@[go_sem] theorem c27_i6 : c27.li 6 = [0, 1, 2] := rfl
@[go_sem] theorem c27_i7 : c27.li 7 = [0, 1, 2, 8] := rfl
@[go_sem] theorem c27_i8 : c27.li 8 = [8] := rfl
@[go_sem] theorem c27_i9 : c27.li 9 = [0, 1, 2] := rfl
@[go_sem] theorem c27_i10 : c27.li 10 = [] := rfl
@[go_sem] theorem c27_r0 (d0 : Option Addr) (i1 : Int) (s2 : List UInt8) (K : Env → W) : RP c27 0 [(0, .pointer d0), (1, .int .i64 i1), (2, str s2)] K =
    (K [(0, .pointer d0), (1, .int .i64 i1), (2, str s2)]) := by kernel_rfl
@[go_sem] theorem c27_r1 (d0 : Option Addr) (i1 : Int) (s2 : List UInt8) (K : Env → W) : RP c27 1 [(0, .pointer d0), (1, .int .i64 i1), (2, str s2)] K =
    (cal eI Try.prog 67 #[.pointer d0, .int .i64 i1] fun (y1_ : Int) => (K [(0, .pointer d0), (1, .int .i64 i1), (2, str s2), (7, .int .i64 y1_)])) := by kernel_rfl
@[go_sem] theorem c27_r2 (d0 : Option Addr) (i1 : Int) (s2 : List UInt8) (e7 : Int) (K : Env → W) : RP c27 2 [(0, .pointer d0), (1, .int .i64 i1), (2, str s2), (7, .int .i64 e7)] K =
    (K [(0, .pointer d0), (1, .int .i64 i1), (2, str s2), (7, .int .i64 e7), (13, .bool ((e7 != (0 : Int))))]) := by kernel_rfl
@[go_sem] theorem c27_r3 (e7 : Int) (K : Env → W) : RP c27 3 [(7, .int .i64 e7)] K =
    (K [(6, .int .i64 e7)]) := by kernel_rfl
@[go_sem] theorem c27_r4 (d0 : Option Addr) (i1 : Int) (s2 : List UInt8) (K : Env → W) : RP c27 4 [(0, .pointer d0), (1, .int .i64 i1), (2, str s2)] K =
    (K [(0, .pointer d0), (1, .int .i64 i1), (2, str s2), (17, .bool ((decide ((64 : Int) < ((s2).length : Int)))))]) := by kernel_rfl
@[go_sem] theorem c27_r5 (K : Env → W) : RP c27 5 [] K =
    (K [(6, .int .i64 ((3 : Int)))]) := by kernel_rfl
@[go_sem] theorem c27_r6 (d0 : Option Addr) (i1 : Int) (s2 : List UInt8) (K : Env → W) : RP c27 6 [(0, .pointer d0), (1, .int .i64 i1), (2, str s2)] K =
    (cal eI Try.prog 68 #[.pointer d0] fun (y1_ : Int) => (K [(0, .pointer d0), (1, .int .i64 i1), (2, str s2), (8, .int .i64 y1_)])) := by kernel_rfl
@[go_sem] theorem c27_r7 (d0 : Option Addr) (i1 : Int) (s2 : List UInt8) (e8 : Int) (K : Env → W) : RP c27 7 [(0, .pointer d0), (1, .int .i64 i1), (2, str s2), (8, .int .i64 e8)] K =
    (K [(0, .pointer d0), (1, .int .i64 i1), (2, str s2), (8, .int .i64 e8), (21, .bool ((e8 != (0 : Int))))]) := by kernel_rfl
@[go_sem] theorem c27_r8 (e8 : Int) (K : Env → W) : RP c27 8 [(8, .int .i64 e8)] K =
    (K [(6, .int .i64 e8)]) := by kernel_rfl
@[go_sem] theorem c27_r9 (d0 : Option Addr) (i1 : Int) (s2 : List UInt8) (K : Env → W) : RP c27 9 [(0, .pointer d0), (1, .int .i64 i1), (2, str s2)] K =
    (ph fun S0 => (nn d0 fun y1_ => (ldq S0 eM ((y1_.add 1)) fun (y2_ : Option Nat) => (cal eS Try.prog 69 #[str s2] fun (y3_ : List UInt8) => (kpn S0 fun S1 => (unt Try.prog (oMapUpdate 57 (.map y2_) (.int .i64 i1) (str y3_)) (K []))))))) := by kernel_rfl
@[go_sem] theorem c27_r10 (K : Env → W) : RP c27 10 [] K =
    (K [(6, .int .i64 ((0 : Int)))]) := by kernel_rfl
@[go_sem] theorem c27_o : c27.lo 1000000 = [6] := rfl
@[go_sem] theorem c27_e (t6 : Int) (k : Value → W) : RTp c27 [(6, .int .i64 t6)] k = (k (.int .i64 t6)) := by kernel_rfl
theorem c27_ok : (c27.P.follows .mixedOrders && okc c27 c27.body) = true := by kernel_rfl
theorem c27_fn {e : Enc} {args : Array Value} {G : e.α → W} {L : List HP} {ρ : Env} (hρ : envA 0 args.toList = ρ) (hs : Nat.ble args.size 30 = true) (h : E L (D c27 (.seq (.reg 0) (.seq (.seq (.reg 1) (.seq (.reg 2) (.cond (.tmp 13) (.seq (.reg 3) (.ret)) (.skip)))) (.seq (.seq (.reg 4) (.cond (.tmp 17) (.seq (.reg 5) (.ret)) (.skip))) (.seq (.seq (.reg 6) (.seq (.reg 7) (.cond (.tmp 21) (.seq (.reg 8) (.ret)) (.skip)))) (.seq (.reg 9) (.seq (.reg 10) (.ret))))))) (fnQ c27 e G) ρ)) : E L (cal e Try.prog 27 args G) :=
  d_fn (c := c27) Try.func27 (by kernel_rfl) (by kernel_rfl) (by kernel_rfl) c27_ok (by kernel_rfl) (by kernel_rfl) hρ hs h
/-! (*gharry.disk.Disk).Sync -/
noncomputable def c28 : Cfg := { P := Try.prog, n := 38, T := TT, body := (Try.f28.body).getD .skip, res := Try.f28.results.toList, li := lk [] [(0, [0]), (1, [0]), (2, [0, 3]), (3, [3]), (4, [0]), (5, [0, 4]), (6, [4]), (7, [0]), (8, [0, 21]), (9, [0, 21]), (10, [0, 5, 6, 21]), (11, [0]), (12, [])], lo := lk [] [(0, [0]), (1, [0, 3]), (2, [0, 3, 10]), (3, [2]), (4, [0, 4]), (5, [0, 4, 15]), (6, [2]), (7, [0, 21]), (8, [0, 21, 23]), (9, [0, 5, 6, 21]), (10, [0, 21]), (11, []), (12, [2]), (1000000, [2])], ord := lk (false, []) [], de := [(21, eP), (22, (eT3 eB eI eS)), (24, (eT2 eI eS))] }
@[go_sem] theorem c28_i0 : c28.li 0 = [0] := rfl
@[go_sem] theorem c28_i1 : c28.li 1 = [0] := rfl
@[go_sem] theorem c28_i2 : c28.li 2 = [0, 3] := rfl
@[go_sem] theorem c28_i3 : c28.li 3 = [3] := rfl
@[go_sem] theorem c28_i4 : c28.li 4 = [0] := rfl
@[go_sem] theorem c28_i5 : c28.li 5 = [0, 4] := rfl
@[go_sem] theorem c28_i6 : c28.li 6 = [4] := rfl
@[go_sem] theorem c28_i7 : c28.li 7 = [0] := rfl
@[go_sem] theorem c28_i8 : c28.li 8 = [0, 21] := rfl
@[go_sem] theorem c28_i9 : c28.li 9 = [0, 21] := rfl
@[go_sem] theorem c28_i10 : c28.li 10 = [0, 5, 6, 21] := rfl
@[go_sem] theorem c28_i11 : c28.li 11 = [0] := rfl
@[go_sem] theorem c28_i12 : c28.li 12 = [] := rfl
@[go_sem] theorem c28_r0 (d0 : Option Addr) (K : Env → W) : RP c28 0 [(0, .pointer d0)] K =
    (K [(0, .pointer d0)]) := by kernel_rfl
@[go_sem] theorem c28_r1 (d0 : Option Addr) (K : Env → W) : RP c28 1 [(0, .pointer d0)] K =
    (cal eI Try.prog 67 #[.pointer d0, .int .i64 ((0 : Int))] fun (y1_ : Int) => (K [(0, .pointer d0), (3, .int .i64 y1_)])) := by kernel_rfl
@[go_sem] theorem c28_r2 (d0 : Option Addr) (e3 : Int) (K : Env → W) : RP c28 2 [(0, .pointer d0), (3, .int .i64 e3)] K =
    (K [(0, .pointer d0), (3, .int .i64 e3), (10, .bool ((e3 != (0 : Int))))]) := by kernel_rfl
@[go_sem] theorem c28_r3 (e3 : Int) (K : Env → W) : RP c28 3 [(3, .int .i64 e3)] K =
    (K [(2, .int .i64 e3)]) := by kernel_rfl
@[go_sem] theorem c28_r4 (d0 : Option Addr) (K : Env → W) : RP c28 4 [(0, .pointer d0)] K =
    (cal eI Try.prog 68 #[.pointer d0] fun (y1_ : Int) => (K [(0, .pointer d0), (4, .int .i64 y1_)])) := by kernel_rfl
@[go_sem] theorem c28_r5 (d0 : Option Addr) (e4 : Int) (K : Env → W) : RP c28 5 [(0, .pointer d0), (4, .int .i64 e4)] K =
    (K [(0, .pointer d0), (4, .int .i64 e4), (15, .bool ((e4 != (0 : Int))))]) := by kernel_rfl
@[go_sem] theorem c28_r6 (e4 : Int) (K : Env → W) : RP c28 6 [(4, .int .i64 e4)] K =
    (K [(2, .int .i64 e4)]) := by kernel_rfl
@[go_sem] theorem c28_r7 (d0 : Option Addr) (K : Env → W) : RP c28 7 [(0, .pointer d0)] K =
    (nn d0 fun y1_ => (ld eM ((y1_.add 1)) fun (y2_ : Option Nat) => (val eP Try.prog (oRange 57 (.map y2_)) fun (y3_ : Option Addr) => (K [(0, .pointer d0), (21, .pointer y3_)])))) := by kernel_rfl
@[go_sem] theorem c28_r8 (d0 : Option Addr) (t21 : Option Addr) (K : Env → W) : RP c28 8 [(0, .pointer d0), (21, .pointer t21)] K =
    (nxt (eT3 eB eI eS) Try.prog (oNext (.pointer t21) false 0) (K [(0, .pointer d0), (21, .pointer t21), (23, .bool false)]) fun (y1_ : (Bool × Int × (List UInt8))) => (K [(0, .pointer d0), (21, .pointer t21), (23, .bool y1_.1)])) := by kernel_rfl
@[go_sem] theorem c28_r9 (d0 : Option Addr) (t21 : Option Addr) (K : Env → W) : RP c28 9 [(0, .pointer d0), (21, .pointer t21)] K =
    (val (eT2 eI eS) Try.prog (oEntry (.pointer t21)) fun (y1_ : (Int × (List UInt8))) => (K [(0, .pointer d0), (5, .int .i64 y1_.1), (6, str y1_.2), (21, .pointer t21)])) := by kernel_rfl
@[go_sem] theorem c28_r10 (d0 : Option Addr) (i5 : Int) (s6 : List UInt8) (t21 : Option Addr) (K : Env → W) : RP c28 10 [(0, .pointer d0), (5, .int .i64 i5), (6, str s6), (21, .pointer t21)] K =
    (nn d0 fun y1_ => (ld eSl y1_ fun (y2_ : (Option Addr × Nat × Nat)) => (rq (0 ≤ i5 ∧ i5 < (y2_.2.1 : Int)) (nn y2_.1 fun y3_ => (st ((Addr.add y3_ ((i5).toNat * 1))) (str s6) (K [(0, .pointer d0), (21, .pointer t21)])))))) := by kernel_rfl
@[go_sem] theorem c28_r11 (d0 : Option Addr) (K : Env → W) : RP c28 11 [(0, .pointer d0)] K =
    (nn d0 fun y1_ => (ld eM ((y1_.add 1)) fun (y2_ : Option Nat) => (val eN Try.prog (oB_clear #[57] 0 #[.map y2_]) fun (y3_ : Unit) => (K [])))) := by kernel_rfl
@[go_sem] theorem c28_r12 (K : Env → W) : RP c28 12 [] K =
    (K [(2, .int .i64 ((0 : Int)))]) := by kernel_rfl
@[go_sem] theorem c28_o : c28.lo 1000000 = [2] := rfl
@[go_sem] theorem c28_e (t2 : Int) (k : Value → W) : RTp c28 [(2, .int .i64 t2)] k = (k (.int .i64 t2)) := by kernel_rfl
theorem c28_ok : (c28.P.follows .mixedOrders && okc c28 c28.body) = true := by kernel_rfl
theorem c28_fn {e : Enc} {args : Array Value} {G : e.α → W} {L : List HP} {ρ : Env} (hρ : envA 0 args.toList = ρ) (hs : Nat.ble args.size 38 = true) (h : E L (D c28 (.seq (.reg 0) (.seq (.seq (.reg 1) (.seq (.reg 2) (.cond (.tmp 10) (.seq (.reg 3) (.ret)) (.skip)))) (.seq (.seq (.reg 4) (.seq (.reg 5) (.cond (.tmp 15) (.seq (.reg 6) (.ret)) (.skip)))) (.seq (.seq (.reg 7) (.block 0 (.loop (.seq (.reg 8) (.seq (.cond (.tmp 23) (.skip) (.exit 0)) (.block 1 (.seq (.reg 9) (.reg 10)))))))) (.seq (.reg 11) (.seq (.reg 12) (.ret))))))) (fnQ c28 e G) ρ)) : E L (cal e Try.prog 28 args G) :=
  d_fn (c := c28) Try.func28 (by kernel_rfl) (by kernel_rfl) (by kernel_rfl) c28_ok (by kernel_rfl) (by kernel_rfl) hρ hs h
-- loop (first region 8): live slots 0:d0 21:t21, of which it writes []
/-! (*gharry.disk.Disk).Crash -/
noncomputable def c29 : Cfg := { P := Try.prog, n := 14, T := TT, body := (Try.f29.body).getD .skip, res := Try.f29.results.toList, li := lk [] [(0, [0, 1]), (1, [0, 1]), (2, [0, 1, 5]), (3, [5]), (4, [0, 1]), (5, [])], lo := lk [] [(0, [0, 1]), (1, [0, 1, 5]), (2, [0, 1, 5, 9]), (3, [4]), (4, []), (5, [4]), (1000000, [4])], ord := lk (false, []) [] }
@[go_sem] theorem c29_i0 : c29.li 0 = [0, 1] := rfl
@[go_sem] theorem c29_i1 : c29.li 1 = [0, 1] := rfl
@[go_sem] theorem c29_i2 : c29.li 2 = [0, 1, 5] := rfl
@[go_sem] theorem c29_i3 : c29.li 3 = [5] := rfl
@[go_sem] theorem c29_i4 : c29.li 4 = [0, 1] := rfl
@[go_sem] theorem c29_i5 : c29.li 5 = [] := rfl
@[go_sem] theorem c29_r0 (d0 : Option Addr) (keep1 : Int) (K : Env → W) : RP c29 0 [(0, .pointer d0), (1, .int .u64 keep1)] K =
    (K [(0, .pointer d0), (1, .int .u64 keep1)]) := by kernel_rfl
@[go_sem] theorem c29_r1 (d0 : Option Addr) (keep1 : Int) (K : Env → W) : RP c29 1 [(0, .pointer d0), (1, .int .u64 keep1)] K =
    (cal eI Try.prog 67 #[.pointer d0, .int .i64 ((0 : Int))] fun (y1_ : Int) => (K [(0, .pointer d0), (1, .int .u64 keep1), (5, .int .i64 y1_)])) := by kernel_rfl
@[go_sem] theorem c29_r2 (d0 : Option Addr) (keep1 : Int) (e5 : Int) (K : Env → W) : RP c29 2 [(0, .pointer d0), (1, .int .u64 keep1), (5, .int .i64 e5)] K =
    (K [(0, .pointer d0), (1, .int .u64 keep1), (5, .int .i64 e5), (9, .bool ((e5 != (0 : Int))))]) := by kernel_rfl
@[go_sem] theorem c29_r3 (e5 : Int) (K : Env → W) : RP c29 3 [(5, .int .i64 e5)] K =
    (K [(4, .int .i64 e5)]) := by kernel_rfl
@[go_sem] theorem c29_r4 (d0 : Option Addr) (keep1 : Int) (K : Env → W) : RP c29 4 [(0, .pointer d0), (1, .int .u64 keep1)] K =
    (cal eN Try.prog 70 #[.pointer d0, .int .u64 keep1] fun (y1_ : Unit) => (K [])) := by kernel_rfl
@[go_sem] theorem c29_r5 (K : Env → W) : RP c29 5 [] K =
    (K [(4, .int .i64 ((0 : Int)))]) := by kernel_rfl
@[go_sem] theorem c29_o : c29.lo 1000000 = [4] := rfl
@[go_sem] theorem c29_e (t4 : Int) (k : Value → W) : RTp c29 [(4, .int .i64 t4)] k = (k (.int .i64 t4)) := by kernel_rfl
theorem c29_ok : (c29.P.follows .mixedOrders && okc c29 c29.body) = true := by kernel_rfl
theorem c29_fn {e : Enc} {args : Array Value} {G : e.α → W} {L : List HP} {ρ : Env} (hρ : envA 0 args.toList = ρ) (hs : Nat.ble args.size 14 = true) (h : E L (D c29 (.seq (.reg 0) (.seq (.seq (.reg 1) (.seq (.reg 2) (.cond (.tmp 9) (.seq (.reg 3) (.ret)) (.skip)))) (.seq (.reg 4) (.seq (.reg 5) (.ret))))) (fnQ c29 e G) ρ)) : E L (cal e Try.prog 29 args G) :=
  d_fn (c := c29) Try.func29 (by kernel_rfl) (by kernel_rfl) (by kernel_rfl) c29_ok (by kernel_rfl) (by kernel_rfl) hρ hs h
/-! (*gharry.disk.Disk).Start -/
noncomputable def c30 : Cfg := { P := Try.prog, n := 14, T := TT, body := (Try.f30.body).getD .skip, res := Try.f30.results.toList, li := lk [] [(0, [0]), (1, [0]), (2, []), (3, [0]), (4, []), (5, [0]), (6, [])], lo := lk [] [(0, [0]), (1, [0, 3]), (2, [2]), (3, [0, 6]), (4, [2]), (5, []), (6, [2]), (1000000, [2])], ord := lk (false, []) [] }
@[go_sem] theorem c30_i0 : c30.li 0 = [0] := rfl
@[go_sem] theorem c30_i1 : c30.li 1 = [0] := rfl
@[go_sem] theorem c30_i2 : c30.li 2 = [] := rfl
@[go_sem] theorem c30_i3 : c30.li 3 = [0] := rfl
@[go_sem] theorem c30_i4 : c30.li 4 = [] := rfl
@[go_sem] theorem c30_i5 : c30.li 5 = [0] := rfl
@[go_sem] theorem c30_i6 : c30.li 6 = [] := rfl
@[go_sem] theorem c30_r0 (d0 : Option Addr) (K : Env → W) : RP c30 0 [(0, .pointer d0)] K =
    (K [(0, .pointer d0)]) := by kernel_rfl
@[go_sem] theorem c30_r1 (d0 : Option Addr) (K : Env → W) : RP c30 1 [(0, .pointer d0)] K =
    (cal eB Try.prog 66 #[.pointer d0] fun (y1_ : Bool) => (K [(0, .pointer d0), (3, .bool y1_)])) := by kernel_rfl
@[go_sem] theorem c30_r2 (K : Env → W) : RP c30 2 [] K =
    (K [(2, .int .i64 ((11 : Int)))]) := by kernel_rfl
@[go_sem] theorem c30_r3 (d0 : Option Addr) (K : Env → W) : RP c30 3 [(0, .pointer d0)] K =
    (nn d0 fun y1_ => (ld eB ((y1_.add 2)) fun (y2_ : Bool) => (K [(0, .pointer d0), (6, .bool y2_)]))) := by kernel_rfl
@[go_sem] theorem c30_r4 (K : Env → W) : RP c30 4 [] K =
    (K [(2, .int .i64 ((19 : Int)))]) := by kernel_rfl
@[go_sem] theorem c30_r5 (d0 : Option Addr) (K : Env → W) : RP c30 5 [(0, .pointer d0)] K =
    (nn d0 fun y1_ => (st ((y1_.add 2)) (.bool true) (K []))) := by kernel_rfl
@[go_sem] theorem c30_r6 (K : Env → W) : RP c30 6 [] K =
    (K [(2, .int .i64 ((0 : Int)))]) := by kernel_rfl
@[go_sem] theorem c30_o : c30.lo 1000000 = [2] := rfl
@[go_sem] theorem c30_e (t2 : Int) (k : Value → W) : RTp c30 [(2, .int .i64 t2)] k = (k (.int .i64 t2)) := by kernel_rfl
theorem c30_ok : (c30.P.follows .mixedOrders && okc c30 c30.body) = true := by kernel_rfl
theorem c30_fn {e : Enc} {args : Array Value} {G : e.α → W} {L : List HP} {ρ : Env} (hρ : envA 0 args.toList = ρ) (hs : Nat.ble args.size 14 = true) (h : E L (D c30 (.seq (.reg 0) (.seq (.block 0 (.seq (.reg 1) (.cond (.tmp 3) (.seq (.reg 2) (.ret)) (.seq (.reg 3) (.cond (.tmp 6) (.seq (.reg 4) (.ret)) (.skip)))))) (.seq (.reg 5) (.seq (.reg 6) (.ret))))) (fnQ c30 e G) ρ)) : E L (cal e Try.prog 30 args G) :=
  d_fn (c := c30) Try.func30 (by kernel_rfl) (by kernel_rfl) (by kernel_rfl) c30_ok (by kernel_rfl) (by kernel_rfl) hρ hs h
/-! (*gharry.disk.Disk).Read -/
noncomputable def c31 : Cfg := { P := Try.prog, n := 34, T := TT, body := (Try.f31.body).getD .skip, res := Try.f31.results.toList, li := lk [] [(0, [0, 1]), (1, [0, 1]), (2, [0, 1, 6]), (3, [6]), (4, [0, 1]), (5, [0, 1, 7, 8]), (6, [7]), (7, [0, 1])], lo := lk [] [(0, [0, 1]), (1, [0, 1, 6]), (2, [0, 1, 6, 13]), (3, [4, 5]), (4, [0, 1, 7, 8]), (5, [0, 1, 7, 24]), (6, [4, 5]), (7, [4, 5]), (1000000, [4, 5])], ord := lk (false, []) [] }
@[go_sem] theorem c31_i0 : c31.li 0 = [0, 1] := rfl
@[go_sem] theorem c31_i1 : c31.li 1 = [0, 1] := rfl
@[go_sem] theorem c31_i2 : c31.li 2 = [0, 1, 6] := rfl
@[go_sem] theorem c31_i3 : c31.li 3 = [6] := rfl
@[go_sem] theorem c31_i4 : c31.li 4 = [0, 1] := rfl
@[go_sem] theorem c31_i5 : c31.li 5 = [0, 1, 7, 8] := rfl
@[go_sem] theorem c31_i6 : c31.li 6 = [7] := rfl
@[go_sem] theorem c31_i7 : c31.li 7 = [0, 1] := rfl
@[go_sem] theorem c31_r0 (d0 : Option Addr) (i1 : Int) (K : Env → W) : RP c31 0 [(0, .pointer d0), (1, .int .i64 i1)] K =
    (K [(0, .pointer d0), (1, .int .i64 i1)]) := by kernel_rfl
@[go_sem] theorem c31_r1 (d0 : Option Addr) (i1 : Int) (K : Env → W) : RP c31 1 [(0, .pointer d0), (1, .int .i64 i1)] K =
    (cal eI Try.prog 67 #[.pointer d0, .int .i64 i1] fun (y1_ : Int) => (K [(0, .pointer d0), (1, .int .i64 i1), (6, .int .i64 y1_)])) := by kernel_rfl
@[go_sem] theorem c31_r2 (d0 : Option Addr) (i1 : Int) (e6 : Int) (K : Env → W) : RP c31 2 [(0, .pointer d0), (1, .int .i64 i1), (6, .int .i64 e6)] K =
    (K [(0, .pointer d0), (1, .int .i64 i1), (6, .int .i64 e6), (13, .bool ((e6 != (0 : Int))))]) := by kernel_rfl
@[go_sem] theorem c31_r3 (e6 : Int) (K : Env → W) : RP c31 3 [(6, .int .i64 e6)] K =
    (K [(4, str (([] : List UInt8))), (5, .int .i64 e6)]) := by kernel_rfl
@[go_sem] theorem c31_r4 (d0 : Option Addr) (i1 : Int) (K : Env → W) : RP c31 4 [(0, .pointer d0), (1, .int .i64 i1)] K =
    (nn d0 fun y1_ => (ld eM ((y1_.add 1)) fun (y2_ : Option Nat) => (val (eT2 eS eB) Try.prog (oLookup 57 (.map y2_) (.int .i64 i1) true) fun (y3_ : ((List UInt8) × Bool)) => (K [(0, .pointer d0), (1, .int .i64 i1), (7, str y3_.1), (8, .bool y3_.2)])))) := by kernel_rfl
@[go_sem] theorem c31_r5 (d0 : Option Addr) (i1 : Int) (s7 : List UInt8) (ok8 : Bool) (K : Env → W) : RP c31 5 [(0, .pointer d0), (1, .int .i64 i1), (7, str s7), (8, .bool ok8)] K =
    (K [(0, .pointer d0), (1, .int .i64 i1), (7, str s7), (24, .bool ok8)]) := by kernel_rfl
@[go_sem] theorem c31_r6 (s7 : List UInt8) (K : Env → W) : RP c31 6 [(7, str s7)] K =
    (K [(4, str s7), (5, .int .i64 ((0 : Int)))]) := by kernel_rfl
@[go_sem] theorem c31_r7 (d0 : Option Addr) (i1 : Int) (K : Env → W) : RP c31 7 [(0, .pointer d0), (1, .int .i64 i1)] K =
    (nn d0 fun y1_ => (ld eSl y1_ fun (y2_ : (Option Addr × Nat × Nat)) => (rq (0 ≤ i1 ∧ i1 < (y2_.2.1 : Int)) (nn y2_.1 fun y3_ => (ld eS ((Addr.add y3_ ((i1).toNat * 1))) fun (y4_ : List UInt8) => (cal eS Try.prog 69 #[str y4_] fun (y5_ : List UInt8) => (K [(4, str y5_), (5, .int .i64 ((0 : Int)))]))))))) := by kernel_rfl
@[go_sem] theorem c31_o : c31.lo 1000000 = [4, 5] := rfl
@[go_sem] theorem c31_e (t4 : List UInt8) (t5 : Int) (k : Value → W) : RTp c31 [(4, str t4), (5, .int .i64 t5)] k = (k (.tuple #[str t4, .int .i64 t5])) := by kernel_rfl
theorem c31_ok : (c31.P.follows .mixedOrders && okc c31 c31.body) = true := by kernel_rfl
theorem c31_fn {e : Enc} {args : Array Value} {G : e.α → W} {L : List HP} {ρ : Env} (hρ : envA 0 args.toList = ρ) (hs : Nat.ble args.size 34 = true) (h : E L (D c31 (.seq (.reg 0) (.seq (.seq (.reg 1) (.seq (.reg 2) (.cond (.tmp 13) (.seq (.reg 3) (.ret)) (.skip)))) (.seq (.seq (.reg 4) (.seq (.reg 5) (.cond (.tmp 24) (.seq (.reg 6) (.ret)) (.skip)))) (.seq (.reg 7) (.ret))))) (fnQ c31 e G) ρ)) : E L (cal e Try.prog 31 args G) :=
  d_fn (c := c31) Try.func31 (by kernel_rfl) (by kernel_rfl) (by kernel_rfl) c31_ok (by kernel_rfl) (by kernel_rfl) hρ hs h
/-! (*gharry.disk.Disk).Up -/
noncomputable def c37 : Cfg := { P := Try.prog, n := 12, T := TT, body := (Try.f37.body).getD .skip, res := Try.f37.results.toList, li := lk [] [(0, [0]), (1, [0])], lo := lk [] [(0, [0]), (1, [2]), (1000000, [2])], ord := lk (false, []) [] }
@[go_sem] theorem c37_i0 : c37.li 0 = [0] := rfl
@[go_sem] theorem c37_i1 : c37.li 1 = [0] := rfl
@[go_sem] theorem c37_r0 (d0 : Option Addr) (K : Env → W) : RP c37 0 [(0, .pointer d0)] K =
    (K [(0, .pointer d0)]) := by kernel_rfl
@[go_sem] theorem c37_r1 (d0 : Option Addr) (K : Env → W) : RP c37 1 [(0, .pointer d0)] K =
    (cal eB Try.prog 66 #[.pointer d0] fun (y1_ : Bool) => (cnd ((!y1_)) (nn d0 fun y2_ => (ld eB ((y2_.add 2)) fun (y3_ : Bool) => (K [(2, .bool y3_)]))) (K [(2, .bool false)]))) := by kernel_rfl
@[go_sem] theorem c37_o : c37.lo 1000000 = [2] := rfl
@[go_sem] theorem c37_e (t2 : Bool) (k : Value → W) : RTp c37 [(2, .bool t2)] k = (k (.bool t2)) := by kernel_rfl
theorem c37_ok : (c37.P.follows .mixedOrders && okc c37 c37.body) = true := by kernel_rfl
theorem c37_fn {e : Enc} {args : Array Value} {G : e.α → W} {L : List HP} {ρ : Env} (hρ : envA 0 args.toList = ρ) (hs : Nat.ble args.size 12 = true) (h : E L (D c37 (.seq (.reg 0) (.seq (.reg 1) (.ret))) (fnQ c37 e G) ρ)) : E L (cal e Try.prog 37 args G) :=
  d_fn (c := c37) Try.func37 (by kernel_rfl) (by kernel_rfl) (by kernel_rfl) c37_ok (by kernel_rfl) (by kernel_rfl) hρ hs h
/-! (*gharry.disk.Disk).Acts -/
noncomputable def c38 : Cfg := { P := Try.prog, n := 9, T := TT, body := (Try.f38.body).getD .skip, res := Try.f38.results.toList, li := lk [] [(0, [0]), (1, [0]), (2, []), (3, [0])], lo := lk [] [(0, [0]), (1, [0, 4]), (2, [2]), (3, [2]), (1000000, [2])], ord := lk (false, []) [] }
@[go_sem] theorem c38_i0 : c38.li 0 = [0] := rfl
@[go_sem] theorem c38_i1 : c38.li 1 = [0] := rfl
@[go_sem] theorem c38_i2 : c38.li 2 = [] := rfl
@[go_sem] theorem c38_i3 : c38.li 3 = [0] := rfl
@[go_sem] theorem c38_r0 (d0 : Option Addr) (K : Env → W) : RP c38 0 [(0, .pointer d0)] K =
    (K [(0, .pointer d0)]) := by kernel_rfl
@[go_sem] theorem c38_r1 (d0 : Option Addr) (K : Env → W) : RP c38 1 [(0, .pointer d0)] K =
    (cal eB Try.prog 66 #[.pointer d0] fun (y1_ : Bool) => (K [(0, .pointer d0), (4, .bool y1_)])) := by kernel_rfl
@[go_sem] theorem c38_r2 (K : Env → W) : RP c38 2 [] K =
    (K [(2, .int .i64 ((0 : Int)))]) := by kernel_rfl
@[go_sem] theorem c38_r3 (d0 : Option Addr) (K : Env → W) : RP c38 3 [(0, .pointer d0)] K =
    (nn d0 fun y1_ => (ld eI ((y1_.add 5)) fun (y2_ : Int) => (K [(2, .int .i64 y2_)]))) := by kernel_rfl
@[go_sem] theorem c38_o : c38.lo 1000000 = [2] := rfl
@[go_sem] theorem c38_e (t2 : Int) (k : Value → W) : RTp c38 [(2, .int .i64 t2)] k = (k (.int .i64 t2)) := by kernel_rfl
theorem c38_ok : (c38.P.follows .mixedOrders && okc c38 c38.body) = true := by kernel_rfl
theorem c38_fn {e : Enc} {args : Array Value} {G : e.α → W} {L : List HP} {ρ : Env} (hρ : envA 0 args.toList = ρ) (hs : Nat.ble args.size 9 = true) (h : E L (D c38 (.seq (.reg 0) (.seq (.seq (.reg 1) (.cond (.tmp 4) (.seq (.reg 2) (.ret)) (.skip))) (.seq (.reg 3) (.ret)))) (fnQ c38 e G) ρ)) : E L (cal e Try.prog 38 args G) :=
  d_fn (c := c38) Try.func38 (by kernel_rfl) (by kernel_rfl) (by kernel_rfl) c38_ok (by kernel_rfl) (by kernel_rfl) hρ hs h
/-! (*gharry.disk.Disk).Downs -/
noncomputable def c39 : Cfg := { P := Try.prog, n := 9, T := TT, body := (Try.f39.body).getD .skip, res := Try.f39.results.toList, li := lk [] [(0, [0]), (1, [0]), (2, []), (3, [0])], lo := lk [] [(0, [0]), (1, [0, 4]), (2, [2]), (3, [2]), (1000000, [2])], ord := lk (false, []) [] }
@[go_sem] theorem c39_i0 : c39.li 0 = [0] := rfl
@[go_sem] theorem c39_i1 : c39.li 1 = [0] := rfl
@[go_sem] theorem c39_i2 : c39.li 2 = [] := rfl
@[go_sem] theorem c39_i3 : c39.li 3 = [0] := rfl
@[go_sem] theorem c39_r0 (d0 : Option Addr) (K : Env → W) : RP c39 0 [(0, .pointer d0)] K =
    (K [(0, .pointer d0)]) := by kernel_rfl
@[go_sem] theorem c39_r1 (d0 : Option Addr) (K : Env → W) : RP c39 1 [(0, .pointer d0)] K =
    (cal eB Try.prog 66 #[.pointer d0] fun (y1_ : Bool) => (K [(0, .pointer d0), (4, .bool y1_)])) := by kernel_rfl
@[go_sem] theorem c39_r2 (K : Env → W) : RP c39 2 [] K =
    (K [(2, .int .i64 ((0 : Int)))]) := by kernel_rfl
@[go_sem] theorem c39_r3 (d0 : Option Addr) (K : Env → W) : RP c39 3 [(0, .pointer d0)] K =
    (nn d0 fun y1_ => (ld eI ((y1_.add 6)) fun (y2_ : Int) => (K [(2, .int .i64 y2_)]))) := by kernel_rfl
@[go_sem] theorem c39_o : c39.lo 1000000 = [2] := rfl
@[go_sem] theorem c39_e (t2 : Int) (k : Value → W) : RTp c39 [(2, .int .i64 t2)] k = (k (.int .i64 t2)) := by kernel_rfl
theorem c39_ok : (c39.P.follows .mixedOrders && okc c39 c39.body) = true := by kernel_rfl
theorem c39_fn {e : Enc} {args : Array Value} {G : e.α → W} {L : List HP} {ρ : Env} (hρ : envA 0 args.toList = ρ) (hs : Nat.ble args.size 9 = true) (h : E L (D c39 (.seq (.reg 0) (.seq (.seq (.reg 1) (.cond (.tmp 4) (.seq (.reg 2) (.ret)) (.skip))) (.seq (.reg 3) (.ret)))) (fnQ c39 e G) ρ)) : E L (cal e Try.prog 39 args G) :=
  d_fn (c := c39) Try.func39 (by kernel_rfl) (by kernel_rfl) (by kernel_rfl) c39_ok (by kernel_rfl) (by kernel_rfl) hρ hs h
/-! (*gharry.disk.Disk).Calm -/
noncomputable def c41 : Cfg := { P := Try.prog, n := 8, T := TT, body := (Try.f41.body).getD .skip, res := Try.f41.results.toList, li := lk [] [(0, [0]), (1, [0])], lo := lk [] [(0, [0, 4]), (1, []), (1000000, [])], ord := lk (false, []) [] }
@[go_sem] theorem c41_i0 : c41.li 0 = [0] := rfl
@[go_sem] theorem c41_i1 : c41.li 1 = [0] := rfl
@[go_sem] theorem c41_r0 (d0 : Option Addr) (K : Env → W) : RP c41 0 [(0, .pointer d0)] K =
    (cal eB Try.prog 66 #[.pointer d0] fun (y1_ : Bool) => (K [(0, .pointer d0), (4, .bool ((!y1_)))])) := by kernel_rfl
@[go_sem] theorem c41_r1 (d0 : Option Addr) (K : Env → W) : RP c41 1 [(0, .pointer d0)] K =
    (nn d0 fun y1_ => (st ((y1_.add 3)) (.int .i64 ((-1 : Int))) (K []))) := by kernel_rfl
@[go_sem] theorem c41_o : c41.lo 1000000 = [] := rfl
@[go_sem] theorem c41_e (k : Value → W) : RTp c41 [] k = (k (.tuple #[])) := by kernel_rfl
theorem c41_ok : (c41.P.follows .mixedOrders && okc c41 c41.body) = true := by kernel_rfl
theorem c41_fn {e : Enc} {args : Array Value} {G : e.α → W} {L : List HP} {ρ : Env} (hρ : envA 0 args.toList = ρ) (hs : Nat.ble args.size 8 = true) (h : E L (D c41 (.seq (.reg 0) (.cond (.tmp 4) (.reg 1) (.skip))) (fnQ c41 e G) ρ)) : E L (cal e Try.prog 41 args G) :=
  d_fn (c := c41) Try.func41 (by kernel_rfl) (by kernel_rfl) (by kernel_rfl) c41_ok (by kernel_rfl) (by kernel_rfl) hρ hs h
/-! (*gharry.disk.Disk).Arm -/
noncomputable def c42 : Cfg := { P := Try.prog, n := 23, T := TT, body := (Try.f42.body).getD .skip, res := Try.f42.results.toList, li := lk [] [(0, [0, 1, 2]), (1, [0, 1, 2]), (2, [0, 1, 2, 7]), (3, [7]), (4, [0, 1, 2]), (5, []), (6, [0, 1, 2]), (7, [])], lo := lk [] [(0, [0, 1, 2]), (1, [0, 1, 2, 7]), (2, [0, 1, 2, 7, 11]), (3, [6]), (4, [0, 1, 2, 14]), (5, [6]), (6, []), (7, [6]), (1000000, [6])], ord := lk (false, []) [] }
@[go_sem] theorem c42_i0 : c42.li 0 = [0, 1, 2] := rfl
@[go_sem] theorem c42_i1 : c42.li 1 = [0, 1, 2] := rfl
@[go_sem] theorem c42_i2 : c42.li 2 = [0, 1, 2, 7] := rfl
@[go_sem] theorem c42_i3 : c42.li 3 = [7] := rfl
@[go_sem] theorem c42_i4 : c42.li 4 = [0, 1, 2] := rfl
@[go_sem] theorem c42_i5 : c42.li 5 = [] := rfl
@[go_sem] theorem c42_i6 : c42.li 6 = [0, 1, 2] := rfl
@[go_sem] theorem c42_i7 : c42.li 7 = [] := rfl
@[go_sem] theorem c42_r0 (d0 : Option Addr) (acts1 : Int) (keep2 : Int) (K : Env → W) : RP c42 0 [(0, .pointer d0), (1, .int .i64 acts1), (2, .int .u64 keep2)] K =
    (K [(0, .pointer d0), (1, .int .i64 acts1), (2, .int .u64 keep2)]) := by kernel_rfl
@[go_sem] theorem c42_r1 (d0 : Option Addr) (acts1 : Int) (keep2 : Int) (K : Env → W) : RP c42 1 [(0, .pointer d0), (1, .int .i64 acts1), (2, .int .u64 keep2)] K =
    (cal eI Try.prog 67 #[.pointer d0, .int .i64 ((0 : Int))] fun (y1_ : Int) => (K [(0, .pointer d0), (1, .int .i64 acts1), (2, .int .u64 keep2), (7, .int .i64 y1_)])) := by kernel_rfl
@[go_sem] theorem c42_r2 (d0 : Option Addr) (acts1 : Int) (keep2 : Int) (e7 : Int) (K : Env → W) : RP c42 2 [(0, .pointer d0), (1, .int .i64 acts1), (2, .int .u64 keep2), (7, .int .i64 e7)] K =
    (K [(0, .pointer d0), (1, .int .i64 acts1), (2, .int .u64 keep2), (7, .int .i64 e7), (11, .bool ((e7 != (0 : Int))))]) := by kernel_rfl
@[go_sem] theorem c42_r3 (e7 : Int) (K : Env → W) : RP c42 3 [(7, .int .i64 e7)] K =
    (K [(6, .int .i64 e7)]) := by kernel_rfl
@[go_sem] theorem c42_r4 (d0 : Option Addr) (acts1 : Int) (keep2 : Int) (K : Env → W) : RP c42 4 [(0, .pointer d0), (1, .int .i64 acts1), (2, .int .u64 keep2)] K =
    (K [(0, .pointer d0), (1, .int .i64 acts1), (2, .int .u64 keep2), (14, .bool ((decide (acts1 < (0 : Int)))))]) := by kernel_rfl
@[go_sem] theorem c42_r5 (K : Env → W) : RP c42 5 [] K =
    (K [(6, .int .i64 ((1 : Int)))]) := by kernel_rfl
@[go_sem] theorem c42_r6 (d0 : Option Addr) (acts1 : Int) (keep2 : Int) (K : Env → W) : RP c42 6 [(0, .pointer d0), (1, .int .i64 acts1), (2, .int .u64 keep2)] K =
    (nn d0 fun y1_ => (st ((y1_.add 3)) (.int .i64 acts1) (nn d0 fun y2_ => (st ((y2_.add 4)) (.int .u64 keep2) (K []))))) := by kernel_rfl
@[go_sem] theorem c42_r7 (K : Env → W) : RP c42 7 [] K =
    (K [(6, .int .i64 ((0 : Int)))]) := by kernel_rfl
@[go_sem] theorem c42_o : c42.lo 1000000 = [6] := rfl
@[go_sem] theorem c42_e (t6 : Int) (k : Value → W) : RTp c42 [(6, .int .i64 t6)] k = (k (.int .i64 t6)) := by kernel_rfl
theorem c42_ok : (c42.P.follows .mixedOrders && okc c42 c42.body) = true := by kernel_rfl
theorem c42_fn {e : Enc} {args : Array Value} {G : e.α → W} {L : List HP} {ρ : Env} (hρ : envA 0 args.toList = ρ) (hs : Nat.ble args.size 23 = true) (h : E L (D c42 (.seq (.reg 0) (.seq (.seq (.reg 1) (.seq (.reg 2) (.cond (.tmp 11) (.seq (.reg 3) (.ret)) (.skip)))) (.seq (.seq (.reg 4) (.cond (.tmp 14) (.seq (.reg 5) (.ret)) (.skip))) (.seq (.reg 6) (.seq (.reg 7) (.ret)))))) (fnQ c42 e G) ρ)) : E L (cal e Try.prog 42 args G) :=
  d_fn (c := c42) Try.func42 (by kernel_rfl) (by kernel_rfl) (by kernel_rfl) c42_ok (by kernel_rfl) (by kernel_rfl) hρ hs h
/-! (*gharry.disk.Disk).Waiting -/
noncomputable def c43 : Cfg := { P := Try.prog, n := 23, T := TT, body := (Try.f43.body).getD .skip, res := Try.f43.results.toList, li := lk [] [(0, [0]), (1, [0]), (2, []), (3, [0]), (4, [0, 3]), (5, [3, 11]), (6, [3, 11]), (7, [3, 4, 11]), (8, [3]), (9, [3])], lo := lk [] [(0, [0]), (1, [0, 6]), (2, [2]), (3, [0, 3]), (4, [3, 11]), (5, [3, 11, 13]), (6, [3, 4, 11]), (7, [3, 11]), (8, [3]), (9, [2]), (1000000, [2])], ord := lk (false, []) [], de := [(11, eP), (12, (eT3 eB eI eS)), (14, (eT2 eI eS))] }
@[go_sem] theorem c43_i0 : c43.li 0 = [0] := rfl
@[go_sem] theorem c43_i1 : c43.li 1 = [0] := rfl
@[go_sem] theorem c43_i2 : c43.li 2 = [] := rfl
@[go_sem] theorem c43_i3 : c43.li 3 = [0] := rfl
@[go_sem] theorem c43_i4 : c43.li 4 = [0, 3] := rfl
@[go_sem] theorem c43_i5 : c43.li 5 = [3, 11] := rfl
@[go_sem] theorem c43_i6 : c43.li 6 = [3, 11] := rfl
@[go_sem] theorem c43_i7 : c43.li 7 = [3, 4, 11] := rfl
@[go_sem] theorem c43_i8 : c43.li 8 = [3] := rfl
@[go_sem] theorem c43_i9 : c43.li 9 = [3] := rfl
@[go_sem] theorem c43_r0 (d0 : Option Addr) (K : Env → W) : RP c43 0 [(0, .pointer d0)] K =
    (K [(0, .pointer d0)]) := by kernel_rfl
@[go_sem] theorem c43_r1 (d0 : Option Addr) (K : Env → W) : RP c43 1 [(0, .pointer d0)] K =
    (cal eB Try.prog 66 #[.pointer d0] fun (y1_ : Bool) => (K [(0, .pointer d0), (6, .bool y1_)])) := by kernel_rfl
@[go_sem] theorem c43_r2 (K : Env → W) : RP c43 2 [] K =
    (K [(2, .slice none 0 0)]) := by kernel_rfl
@[go_sem] theorem c43_r3 (d0 : Option Addr) (K : Env → W) : RP c43 3 [(0, .pointer d0)] K =
    (K [(0, .pointer d0), (3, .slice none 0 0)]) := by kernel_rfl
@[go_sem] theorem c43_r4 (d0 : Option Addr) (out3p : Option Addr) (out3n out3c : Nat) (K : Env → W) : RP c43 4 [(0, .pointer d0), (3, .slice out3p out3n out3c)] K =
    (nn d0 fun y1_ => (ld eM ((y1_.add 1)) fun (y2_ : Option Nat) => (val eP Try.prog (oRange 57 (.map y2_)) fun (y3_ : Option Addr) => (K [(3, .slice out3p out3n out3c), (11, .pointer y3_)])))) := by kernel_rfl
@[go_sem] theorem c43_r5 (out3p : Option Addr) (out3n out3c : Nat) (t11 : Option Addr) (K : Env → W) : RP c43 5 [(3, .slice out3p out3n out3c), (11, .pointer t11)] K =
    (nxt (eT3 eB eI eS) Try.prog (oNext (.pointer t11) false 0) (K [(3, .slice out3p out3n out3c), (11, .pointer t11), (13, .bool false)]) fun (y1_ : (Bool × Int × (List UInt8))) => (K [(3, .slice out3p out3n out3c), (11, .pointer t11), (13, .bool y1_.1)])) := by kernel_rfl
@[go_sem] theorem c43_r6 (out3p : Option Addr) (out3n out3c : Nat) (t11 : Option Addr) (K : Env → W) : RP c43 6 [(3, .slice out3p out3n out3c), (11, .pointer t11)] K =
    (val (eT2 eI eS) Try.prog (oEntry (.pointer t11)) fun (y1_ : (Int × (List UInt8))) => (K [(3, .slice out3p out3n out3c), (4, .int .i64 y1_.1), (11, .pointer t11)])) := by kernel_rfl
@[go_sem] theorem c43_r7 (out3p : Option Addr) (out3n out3c : Nat) (i4 : Int) (t11 : Option Addr) (K : Env → W) : RP c43 7 [(3, .slice out3p out3n out3c), (4, .int .i64 i4), (11, .pointer t11)] K =
    (nwc #[.int .i64 i4] 3 fun y1_ => (val eSl Try.prog (oB_append #[61, 61] 61 #[.slice out3p out3n out3c, .slice ((some y1_)) 1 1]) fun (y2_ : (Option Addr × Nat × Nat)) => (K [(3, .slice y2_.1 y2_.2.1 y2_.2.2), (11, .pointer t11)]))) := by kernel_rfl
@[go_sem] theorem c43_r8 (out3p : Option Addr) (out3n out3c : Nat) (K : Env → W) : RP c43 8 [(3, .slice out3p out3n out3c)] K =
    (cal eN Try.prog 80 #[.slice out3p out3n out3c] fun (y1_ : Unit) => (K [(3, .slice out3p out3n out3c)])) := by kernel_rfl
@[go_sem] theorem c43_r9 (out3p : Option Addr) (out3n out3c : Nat) (K : Env → W) : RP c43 9 [(3, .slice out3p out3n out3c)] K =
    (K [(2, .slice out3p out3n out3c)]) := by kernel_rfl
@[go_sem] theorem c43_o : c43.lo 1000000 = [2] := rfl
@[go_sem] theorem c43_e (t2p : Option Addr) (t2n t2c : Nat) (k : Value → W) : RTp c43 [(2, .slice t2p t2n t2c)] k = (k (.slice t2p t2n t2c)) := by kernel_rfl
theorem c43_ok : (c43.P.follows .mixedOrders && okc c43 c43.body) = true := by kernel_rfl
theorem c43_fn {e : Enc} {args : Array Value} {G : e.α → W} {L : List HP} {ρ : Env} (hρ : envA 0 args.toList = ρ) (hs : Nat.ble args.size 23 = true) (h : E L (D c43 (.seq (.reg 0) (.seq (.seq (.reg 1) (.cond (.tmp 6) (.seq (.reg 2) (.ret)) (.skip))) (.seq (.reg 3) (.seq (.seq (.reg 4) (.block 0 (.loop (.seq (.reg 5) (.seq (.cond (.tmp 13) (.skip) (.exit 0)) (.block 1 (.seq (.reg 6) (.reg 7)))))))) (.seq (.reg 8) (.seq (.reg 9) (.ret))))))) (fnQ c43 e G) ρ)) : E L (cal e Try.prog 43 args G) :=
  d_fn (c := c43) Try.func43 (by kernel_rfl) (by kernel_rfl) (by kernel_rfl) c43_ok (by kernel_rfl) (by kernel_rfl) hρ hs h
-- loop (first region 5): live slots 3:out3 11:t11, of which it writes [3]
/-! (*gharry.disk.Disk).none -/
noncomputable def c66 : Cfg := { P := Try.prog, n := 13, T := TT, body := (Try.f66.body).getD .skip, res := Try.f66.results.toList, li := lk [] [(0, [0]), (1, [0])], lo := lk [] [(0, [0]), (1, [2]), (1000000, [2])], ord := lk (false, []) [] }
@[go_sem] theorem c66_i0 : c66.li 0 = [0] := rfl
@[go_sem] theorem c66_i1 : c66.li 1 = [0] := rfl
@[go_sem] theorem c66_r0 (d0 : Option Addr) (K : Env → W) : RP c66 0 [(0, .pointer d0)] K =
    (K [(0, .pointer d0)]) := by kernel_rfl
@[go_sem] theorem c66_r1 (d0 : Option Addr) (K : Env → W) : RP c66 1 [(0, .pointer d0)] K =
    (cnd ((d0).isNone) (K [(2, .bool true)]) (nn d0 fun y1_ => (ld eSl y1_ fun (y2_ : (Option Addr × Nat × Nat)) => (K [(2, .bool (((y2_.2.1 : Int) == (0 : Int))))])))) := by kernel_rfl
@[go_sem] theorem c66_o : c66.lo 1000000 = [2] := rfl
@[go_sem] theorem c66_e (t2 : Bool) (k : Value → W) : RTp c66 [(2, .bool t2)] k = (k (.bool t2)) := by kernel_rfl
theorem c66_ok : (c66.P.follows .mixedOrders && okc c66 c66.body) = true := by kernel_rfl
theorem c66_fn {e : Enc} {args : Array Value} {G : e.α → W} {L : List HP} {ρ : Env} (hρ : envA 0 args.toList = ρ) (hs : Nat.ble args.size 13 = true) (h : E L (D c66 (.seq (.reg 0) (.seq (.reg 1) (.ret))) (fnQ c66 e G) ρ)) : E L (cal e Try.prog 66 args G) :=
  d_fn (c := c66) Try.func66 (by kernel_rfl) (by kernel_rfl) (by kernel_rfl) c66_ok (by kernel_rfl) (by kernel_rfl) hρ hs h
/-! (*gharry.disk.Disk).check -/
noncomputable def c67 : Cfg := { P := Try.prog, n := 26, T := TT, body := (Try.f67.body).getD .skip, res := Try.f67.results.toList, li := lk [] [(0, [0, 1]), (1, [0, 1]), (2, []), (3, [0, 1]), (4, []), (5, [0, 1]), (6, []), (7, [])], lo := lk [] [(0, [0, 1]), (1, [0, 1, 5]), (2, [4]), (3, [0, 1, 8]), (4, [4]), (5, [14]), (6, [4]), (7, [4]), (1000000, [4])], ord := lk (false, []) [] }
@[go_sem] theorem c67_i0 : c67.li 0 = [0, 1] := rfl
@[go_sem] theorem c67_i1 : c67.li 1 = [0, 1] := rfl
@[go_sem] theorem c67_i2 : c67.li 2 = [] := rfl
@[go_sem] theorem c67_i3 : c67.li 3 = [0, 1] := rfl
@[go_sem] theorem c67_i4 : c67.li 4 = [] := rfl
@[go_sem] theorem c67_i5 : c67.li 5 = [0, 1] := rfl
@[go_sem] theorem c67_i6 : c67.li 6 = [] := rfl
@[go_sem] theorem c67_i7 : c67.li 7 = [] := rfl
@[go_sem] theorem c67_r0 (d0 : Option Addr) (i1 : Int) (K : Env → W) : RP c67 0 [(0, .pointer d0), (1, .int .i64 i1)] K =
    (K [(0, .pointer d0), (1, .int .i64 i1)]) := by kernel_rfl
@[go_sem] theorem c67_r1 (d0 : Option Addr) (i1 : Int) (K : Env → W) : RP c67 1 [(0, .pointer d0), (1, .int .i64 i1)] K =
    (cal eB Try.prog 66 #[.pointer d0] fun (y1_ : Bool) => (K [(0, .pointer d0), (1, .int .i64 i1), (5, .bool y1_)])) := by kernel_rfl
@[go_sem] theorem c67_r2 (K : Env → W) : RP c67 2 [] K =
    (K [(4, .int .i64 ((11 : Int)))]) := by kernel_rfl
@[go_sem] theorem c67_r3 (d0 : Option Addr) (i1 : Int) (K : Env → W) : RP c67 3 [(0, .pointer d0), (1, .int .i64 i1)] K =
    (nn d0 fun y1_ => (ld eB ((y1_.add 2)) fun (y2_ : Bool) => (K [(0, .pointer d0), (1, .int .i64 i1), (8, .bool ((!y2_)))]))) := by kernel_rfl
@[go_sem] theorem c67_r4 (K : Env → W) : RP c67 4 [] K =
    (K [(4, .int .i64 ((9 : Int)))]) := by kernel_rfl
@[go_sem] theorem c67_r5 (d0 : Option Addr) (i1 : Int) (K : Env → W) : RP c67 5 [(0, .pointer d0), (1, .int .i64 i1)] K =
    (cnd ((decide (i1 < (0 : Int)))) (K [(14, .bool true)]) (nn d0 fun y1_ => (ld eSl y1_ fun (y2_ : (Option Addr × Nat × Nat)) => (K [(14, .bool ((decide ((y2_.2.1 : Int) ≤ i1))))])))) := by kernel_rfl
@[go_sem] theorem c67_r6 (K : Env → W) : RP c67 6 [] K =
    (K [(4, .int .i64 ((6 : Int)))]) := by kernel_rfl
@[go_sem] theorem c67_r7 (K : Env → W) : RP c67 7 [] K =
    (K [(4, .int .i64 ((0 : Int)))]) := by kernel_rfl
@[go_sem] theorem c67_o : c67.lo 1000000 = [4] := rfl
@[go_sem] theorem c67_e (t4 : Int) (k : Value → W) : RTp c67 [(4, .int .i64 t4)] k = (k (.int .i64 t4)) := by kernel_rfl
theorem c67_ok : (c67.P.follows .mixedOrders && okc c67 c67.body) = true := by kernel_rfl
theorem c67_fn {e : Enc} {args : Array Value} {G : e.α → W} {L : List HP} {ρ : Env} (hρ : envA 0 args.toList = ρ) (hs : Nat.ble args.size 26 = true) (h : E L (D c67 (.seq (.reg 0) (.seq (.block 0 (.seq (.reg 1) (.cond (.tmp 5) (.seq (.reg 2) (.ret)) (.seq (.reg 3) (.cond (.tmp 8) (.seq (.reg 4) (.ret)) (.seq (.reg 5) (.cond (.tmp 14) (.seq (.reg 6) (.ret)) (.skip)))))))) (.seq (.reg 7) (.ret)))) (fnQ c67 e G) ρ)) : E L (cal e Try.prog 67 args G) :=
  d_fn (c := c67) Try.func67 (by kernel_rfl) (by kernel_rfl) (by kernel_rfl) c67_ok (by kernel_rfl) (by kernel_rfl) hρ hs h
/-! (*gharry.disk.Disk).act -/
noncomputable def c68 : Cfg := { P := Try.prog, n := 33, T := TT, body := (Try.f68.body).getD .skip, res := Try.f68.results.toList, li := lk [] [(0, [0]), (1, [0]), (2, [0]), (3, []), (4, [0]), (5, [0]), (6, [0]), (7, [])], lo := lk [] [(0, [0]), (1, [0, 7]), (2, []), (3, [2]), (4, [0, 18]), (5, [0]), (6, []), (7, [2]), (1000000, [2])], ord := lk (false, []) [] }
@[go_sem] theorem c68_i0 : c68.li 0 = [0] := rfl
@[go_sem] theorem c68_i1 : c68.li 1 = [0] := rfl
@[go_sem] theorem c68_i2 : c68.li 2 = [0] := rfl
@[go_sem] theorem c68_i3 : c68.li 3 = [] := rfl
@[go_sem] theorem c68_i4 : c68.li 4 = [0] := rfl
@[go_sem] theorem c68_i5 : c68.li 5 = [0] := rfl
@[go_sem] theorem c68_i6 : c68.li 6 = [0] := rfl
@[go_sem] theorem c68_i7 : c68.li 7 = [] := rfl
@[go_sem] theorem c68_r0 (d0 : Option Addr) (K : Env → W) : RP c68 0 [(0, .pointer d0)] K =
    (K [(0, .pointer d0)]) := by kernel_rfl
@[go_sem] theorem c68_r1 (d0 : Option Addr) (K : Env → W) : RP c68 1 [(0, .pointer d0)] K =
    (nn d0 fun y1_ => (ld eI ((y1_.add 3)) fun (y2_ : Int) => (K [(0, .pointer d0), (7, .bool ((y2_ == (0 : Int))))]))) := by kernel_rfl
@[go_sem] theorem c68_r2 (d0 : Option Addr) (K : Env → W) : RP c68 2 [(0, .pointer d0)] K =
    (nn d0 fun y1_ => (ld eU64 ((y1_.add 4)) fun (y2_ : Int) => (cal eN Try.prog 70 #[.pointer d0, .int .u64 y2_] fun (y3_ : Unit) => (K [])))) := by kernel_rfl
@[go_sem] theorem c68_r3 (K : Env → W) : RP c68 3 [] K =
    (K [(2, .int .i64 ((9 : Int)))]) := by kernel_rfl
@[go_sem] theorem c68_r4 (d0 : Option Addr) (K : Env → W) : RP c68 4 [(0, .pointer d0)] K =
    (nn d0 fun y1_ => (ld eI ((y1_.add 3)) fun (y2_ : Int) => (K [(0, .pointer d0), (18, .bool ((decide ((0 : Int) < y2_))))]))) := by kernel_rfl
@[go_sem] theorem c68_r5 (d0 : Option Addr) (K : Env → W) : RP c68 5 [(0, .pointer d0)] K =
    (nn d0 fun y1_ => (ld eI ((y1_.add 3)) fun (y2_ : Int) => (nn d0 fun y3_ => (st ((y3_.add 3)) (.int .i64 ((IntKind.wrap .i64 (y2_ - (1 : Int))))) (K [(0, .pointer d0)]))))) := by kernel_rfl
@[go_sem] theorem c68_r6 (d0 : Option Addr) (K : Env → W) : RP c68 6 [(0, .pointer d0)] K =
    (nn d0 fun y1_ => (ld eI ((y1_.add 5)) fun (y2_ : Int) => (nn d0 fun y3_ => (st ((y3_.add 5)) (.int .i64 ((IntKind.wrap .i64 (y2_ + (1 : Int))))) (K []))))) := by kernel_rfl
@[go_sem] theorem c68_r7 (K : Env → W) : RP c68 7 [] K =
    (K [(2, .int .i64 ((0 : Int)))]) := by kernel_rfl
@[go_sem] theorem c68_o : c68.lo 1000000 = [2] := rfl
@[go_sem] theorem c68_e (t2 : Int) (k : Value → W) : RTp c68 [(2, .int .i64 t2)] k = (k (.int .i64 t2)) := by kernel_rfl
theorem c68_ok : (c68.P.follows .mixedOrders && okc c68 c68.body) = true := by kernel_rfl
theorem c68_fn {e : Enc} {args : Array Value} {G : e.α → W} {L : List HP} {ρ : Env} (hρ : envA 0 args.toList = ρ) (hs : Nat.ble args.size 33 = true) (h : E L (D c68 (.seq (.reg 0) (.seq (.seq (.reg 1) (.cond (.tmp 7) (.seq (.reg 2) (.seq (.reg 3) (.ret))) (.skip))) (.seq (.seq (.reg 4) (.cond (.tmp 18) (.reg 5) (.skip))) (.seq (.reg 6) (.seq (.reg 7) (.ret)))))) (fnQ c68 e G) ρ)) : E L (cal e Try.prog 68 args G) :=
  d_fn (c := c68) Try.func68 (by kernel_rfl) (by kernel_rfl) (by kernel_rfl) c68_ok (by kernel_rfl) (by kernel_rfl) hρ hs h
/-! gharry.disk.whole -/
noncomputable def c69 : Cfg := { P := Try.prog, n := 9, T := TT, body := (Try.f69.body).getD .skip, res := Try.f69.results.toList, li := lk [] [(0, [0]), (1, [0])], lo := lk [] [(0, [0]), (1, [2]), (1000000, [2])], ord := lk (false, []) [] }
@[go_sem] theorem c69_i0 : c69.li 0 = [0] := rfl
@[go_sem] theorem c69_i1 : c69.li 1 = [0] := rfl
@[go_sem] theorem c69_r0 (s0 : List UInt8) (K : Env → W) : RP c69 0 [(0, str s0)] K =
    (K [(0, str s0)]) := by kernel_rfl
@[go_sem] theorem c69_r1 (s0 : List UInt8) (K : Env → W) : RP c69 1 [(0, str s0)] K =
    (cal eS Try.prog 87 #[str (([0] : List UInt8)), .int .i64 ((IntKind.wrap .i64 ((64 : Int) - ((s0).length : Int))))] fun (y1_ : List UInt8) => (rq (((s0).length : Int) + ((y1_).length : Int) ≤ 9223372036854775807) (K [(2, str ((s0 ++ y1_)))]))) := by kernel_rfl
@[go_sem] theorem c69_o : c69.lo 1000000 = [2] := rfl
@[go_sem] theorem c69_e (t2 : List UInt8) (k : Value → W) : RTp c69 [(2, str t2)] k = (k (str t2)) := by kernel_rfl
theorem c69_ok : (c69.P.follows .mixedOrders && okc c69 c69.body) = true := by kernel_rfl
theorem c69_fn {e : Enc} {args : Array Value} {G : e.α → W} {L : List HP} {ρ : Env} (hρ : envA 0 args.toList = ρ) (hs : Nat.ble args.size 9 = true) (h : E L (D c69 (.seq (.reg 0) (.seq (.reg 1) (.ret))) (fnQ c69 e G) ρ)) : E L (cal e Try.prog 69 args G) :=
  d_fn (c := c69) Try.func69 (by kernel_rfl) (by kernel_rfl) (by kernel_rfl) c69_ok (by kernel_rfl) (by kernel_rfl) hρ hs h
/-! (*gharry.disk.Disk).cut -/
noncomputable def c70 : Cfg := { P := Try.prog, n := 50, T := TT, body := (Try.f70.body).getD .skip, res := Try.f70.results.toList, li := lk [] [(0, [0, 1]), (1, [0, 1, 7, 8, 9]), (2, [0, 1, 7, 8, 9]), (3, [0, 1, 4, 5, 7, 8, 9]), (4, [0, 1, 5, 7, 8, 9]), (5, [0, 1, 7, 8, 9]), (6, [0]), (7, [0]), (8, [0])], lo := lk [] [(0, [0, 1, 7, 8, 9]), (1, [0, 1, 7, 8, 9, 10]), (2, [0, 1, 4, 5, 7, 8, 9]), (3, [0, 1, 5, 7, 8, 9, 19]), (4, [0, 1, 7, 8, 9]), (5, [0, 1, 7, 8, 9]), (6, [0]), (7, [0]), (8, []), (1000000, [])], ord := lk (false, []) [(4, (true, [(0, 1), (1, 1), (2, 1), (3, 0), (4, 1), (5, 1), (6, 1), (7, 1), (8, 0), (9, 1), (10, 0), (11, 1), (12, 4)]))] }
@[go_sem] theorem c70_i0 : c70.li 0 = [0, 1] := rfl
@[go_sem] theorem c70_i1 : c70.li 1 = [0, 1, 7, 8, 9] := rfl
@[go_sem] theorem c70_i2 : c70.li 2 = [0, 1, 7, 8, 9] := rfl
@[go_sem] theorem c70_i3 : c70.li 3 = [0, 1, 4, 5, 7, 8, 9] := rfl
@[go_sem] theorem c70_i4 : c70.li 4 = [0, 1, 5, 7, 8, 9] := rfl
@[go_sem] theorem c70_i5 : c70.li 5 = [0, 1, 7, 8, 9] := rfl
@[go_sem] theorem c70_i6 : c70.li 6 = [0] := rfl
@[go_sem] theorem c70_i7 : c70.li 7 = [0] := rfl
@[go_sem] theorem c70_i8 : c70.li 8 = [0] := rfl
@[go_sem] theorem c70_r0 (d0 : Option Addr) (keep1 : Int) (K : Env → W) : RP c70 0 [(0, .pointer d0), (1, .int .u64 keep1)] K =
    (cal eSl Try.prog 43 #[.pointer d0] fun (y1_ : (Option Addr × Nat × Nat)) => (K [(0, .pointer d0), (1, .int .u64 keep1), (7, .slice y1_.1 y1_.2.1 y1_.2.2), (8, .int .i64 ((y1_.2.1 : Int))), (9, .int .i64 ((0 : Int)))])) := by kernel_rfl
@[go_sem] theorem c70_r1 (d0 : Option Addr) (keep1 : Int) (t7p : Option Addr) (t7n t7c : Nat) (t8 : Int) (t9 : Int) (K : Env → W) : RP c70 1 [(0, .pointer d0), (1, .int .u64 keep1), (7, .slice t7p t7n t7c), (8, .int .i64 t8), (9, .int .i64 t9)] K =
    (K [(0, .pointer d0), (1, .int .u64 keep1), (7, .slice t7p t7n t7c), (8, .int .i64 t8), (9, .int .i64 t9), (10, .bool ((decide (t9 < t8))))]) := by kernel_rfl
@[go_sem] theorem c70_r2 (d0 : Option Addr) (keep1 : Int) (t7p : Option Addr) (t7n t7c : Nat) (t8 : Int) (t9 : Int) (K : Env → W) : RP c70 2 [(0, .pointer d0), (1, .int .u64 keep1), (7, .slice t7p t7n t7c), (8, .int .i64 t8), (9, .int .i64 t9)] K =
    (rq (0 ≤ t9 ∧ t9 < (t7n : Int)) (nn t7p fun y1_ => (ld eI ((Addr.add y1_ ((t9).toNat * 1))) fun (y2_ : Int) => (K [(0, .pointer d0), (1, .int .u64 keep1), (4, .int .i64 t9), (5, .int .i64 y2_), (7, .slice t7p t7n t7c), (8, .int .i64 t8), (9, .int .i64 t9)])))) := by kernel_rfl
@[go_sem] theorem c70_r3 (d0 : Option Addr) (keep1 : Int) (k4 : Int) (i5 : Int) (t7p : Option Addr) (t7n t7c : Nat) (t8 : Int) (t9 : Int) (K : Env → W) : RP c70 3 [(0, .pointer d0), (1, .int .u64 keep1), (4, .int .i64 k4), (5, .int .i64 i5), (7, .slice t7p t7n t7c), (8, .int .i64 t8), (9, .int .i64 t9)] K =
    (rq ((64 : Int) ≠ 0) (rq (0 ≤ ((k4).tmod ((64 : Int)))) (K [(0, .pointer d0), (1, .int .u64 keep1), (5, .int .i64 i5), (7, .slice t7p t7n t7c), (8, .int .i64 t8), (9, .int .i64 t9), (19, .bool (((bits .and .u64 (((keep1).fdiv (2 ^ (min (((k4).tmod ((64 : Int)))).toNat 64)))) ((1 : Int))) == (1 : Int))))]))) := by kernel_rfl
@[go_sem] theorem c70_r4 (d0 : Option Addr) (keep1 : Int) (i5 : Int) (t7p : Option Addr) (t7n t7c : Nat) (t8 : Int) (t9 : Int) (K : Env → W) : RP c70 4 [(0, .pointer d0), (1, .int .u64 keep1), (5, .int .i64 i5), (7, .slice t7p t7n t7c), (8, .int .i64 t8), (9, .int .i64 t9)] K =
    (ph fun S0 => (nn d0 fun y1_ => (ldq S0 eSl y1_ fun (y2_ : (Option Addr × Nat × Nat)) => (nn d0 fun y3_ => (ldq S0 eM ((y3_.add 1)) fun (y4_ : Option Nat) => (valq S0 eS Try.prog (oLookup 57 (.map y4_) (.int .i64 i5) false) fun (y5_ : List UInt8) => (rq (0 ≤ i5 ∧ i5 < (y2_.2.1 : Int)) (nn y2_.1 fun y6_ => (st ((Addr.add y6_ ((i5).toNat * 1))) (str y5_) (K [(0, .pointer d0), (1, .int .u64 keep1), (7, .slice t7p t7n t7c), (8, .int .i64 t8), (9, .int .i64 t9)])))))))))) := by kernel_rfl
@[go_sem] theorem c70_r5 (d0 : Option Addr) (keep1 : Int) (t7p : Option Addr) (t7n t7c : Nat) (t8 : Int) (t9 : Int) (K : Env → W) : RP c70 5 [(0, .pointer d0), (1, .int .u64 keep1), (7, .slice t7p t7n t7c), (8, .int .i64 t8), (9, .int .i64 t9)] K =
    (K [(0, .pointer d0), (1, .int .u64 keep1), (7, .slice t7p t7n t7c), (8, .int .i64 t8), (9, .int .i64 ((IntKind.wrap .i64 (t9 + (1 : Int)))))]) := by kernel_rfl
@[go_sem] theorem c70_r6 (d0 : Option Addr) (K : Env → W) : RP c70 6 [(0, .pointer d0)] K =
    (nn d0 fun y1_ => (ld eM ((y1_.add 1)) fun (y2_ : Option Nat) => (val eN Try.prog (oB_clear #[57] 0 #[.map y2_]) fun (y3_ : Unit) => (K [(0, .pointer d0)])))) := by kernel_rfl
@[go_sem] theorem c70_r7 (d0 : Option Addr) (K : Env → W) : RP c70 7 [(0, .pointer d0)] K =
    (nn d0 fun y1_ => (st ((y1_.add 2)) (.bool false) (nn d0 fun y2_ => (st ((y2_.add 3)) (.int .i64 ((-1 : Int))) (K [(0, .pointer d0)]))))) := by kernel_rfl
@[go_sem] theorem c70_r8 (d0 : Option Addr) (K : Env → W) : RP c70 8 [(0, .pointer d0)] K =
    (nn d0 fun y1_ => (ld eI ((y1_.add 6)) fun (y2_ : Int) => (nn d0 fun y3_ => (st ((y3_.add 6)) (.int .i64 ((IntKind.wrap .i64 (y2_ + (1 : Int))))) (K []))))) := by kernel_rfl
@[go_sem] theorem c70_o : c70.lo 1000000 = [] := rfl
@[go_sem] theorem c70_e (k : Value → W) : RTp c70 [] k = (k (.tuple #[])) := by kernel_rfl
theorem c70_ok : (c70.P.follows .mixedOrders && okc c70 c70.body) = true := by kernel_rfl
theorem c70_fn {e : Enc} {args : Array Value} {G : e.α → W} {L : List HP} {ρ : Env} (hρ : envA 0 args.toList = ρ) (hs : Nat.ble args.size 50 = true) (h : E L (D c70 (.seq (.seq (.reg 0) (.block 0 (.loop (.seq (.reg 1) (.seq (.cond (.tmp 10) (.skip) (.exit 0)) (.seq (.block 1 (.seq (.reg 2) (.seq (.reg 3) (.cond (.tmp 19) (.reg 4) (.skip))))) (.reg 5))))))) (.seq (.reg 6) (.seq (.reg 7) (.reg 8)))) (fnQ c70 e G) ρ)) : E L (cal e Try.prog 70 args G) :=
  d_fn (c := c70) Try.func70 (by kernel_rfl) (by kernel_rfl) (by kernel_rfl) c70_ok (by kernel_rfl) (by kernel_rfl) hρ hs h
-- loop (first region 1): live slots 0:d0 1:keep1 7:t7 8:t8 9:t9, of which it writes [9]
end Go.Sp
/- The disk: what it is, and its small functions. -/
namespace Go.Sp
set_option linter.unusedSimpArgs false
set_option linter.unusedVariables false
open Go Go.Proofs
theorem f80 (t : TypeId) (s : SlV) (zs : List Int) (hl : zs.length < 4611686018427387904) :
    Fq eN Try.prog 80 #[.slice s.1 s.2.1 s.2.2] [ow t 1 s (zs.map fun n => .int .i64 n)] [ow t 1 s ((zs.mergeSort fun x y => decide (x ≤ y)).map fun n => .int .i64 n)] () :=
  fq_sort (fun b o c zs w h1 h2 h3 => Any.slices_Sort_int Try.lays189 b o c zs w h1 h2 h3) (fun p c w => Any.slices_Sort_int_none Try.lays189 p c w) t s zs hl
theorem f87 (s : List UInt8) (c : Nat) (h : s.length * c ≤ 140737488355328) (hc : c ≤ 9223372036854775807) : Fp eS Try.prog 87 #[str s, .int .i64 (c : Int)] [] (Lib.repeatL s c) :=
  fp_below fun w => Any.strings_Repeat Try.lays105 Try.builder ⟨s.toArray⟩ c w hc h
/-- A sector's bytes, with noughts behind. -/
def wh (s : List UInt8) : List UInt8 := s ++ List.replicate (64 - s.length) 0
theorem wh_len {s : List UInt8} (h : s.length ≤ 64) : (wh s).length = 64 := by simp [wh]; omega
theorem wh_full {s : List UInt8} (h : s.length = 64) : wh s = s := by simp [wh, h]
theorem rep_one (n : Nat) : Lib.repeatL [0] n = List.replicate n (0 : UInt8) := by
  induction n with
  | zero => rfl
  | succ n ih => rw [Lib.repeatL, ih]; rfl
theorem f69 (s : List UInt8) (h : s.length ≤ 64) : Fp eS Try.prog 69 #[str s] [] (wh s) := fun L => by
  refine c69_fn rfl rfl ?_
  repeat' (first | ((with_reducible refine d_seq ?_); intro K hK) | ((with_reducible refine d_reg ?_); simp only [go_sem, Nat.reduceAdd, Nat.reduceEqDiff, Int.reduceToNat, Nat.reduceMul, Nat.reduceSub]) | ((first | ((with_reducible refine d_cnd ?_); refine And.intro ?_ ?_) | (with_reducible refine r_cnd ?_ ?_)); all_goals (intro hc; (try simp only [push_cast, Int.reduceEq, Int.reduceLT, Int.reduceLE, Int.reduceNe] at hc))) | ((with_reducible refine hK _ _ ?_); clear hK; clear K) | ((with_reducible first | refine d_blk ?_ | refine d_rt0 ?_ | refine d_sk0 ?_ | refine d_ex0 ?_); (try simp only [go_sem, Nat.reduceAdd, Nat.reduceEqDiff, Int.reduceToNat, Nat.reduceMul, Nat.reduceSub])) | (with_reducible refine r_rq (by first | decide | omega) ?_) | ((with_reducible refine r_nwc ?_); intro b) | ((with_reducible first | apply i_lds | apply i_ldsq | apply i_ld | apply i_ldq); exact rfl) | ((with_reducible first | apply i_ldn | apply i_ldnq); exact rfl; exact rfl; exact rfl) | (with_reducible first | refine r_ph0 ?_ | apply i_kp0) | ((with_reducible first | apply i_st | apply i_stl); (focus simp); exact rfl) | simp only [go_sem, Nat.reduceAdd, Nat.reduceEqDiff, Int.reduceToNat, Nat.reduceMul, Nat.reduceSub] | (clear hK; clear K))
  have e : IntKind.wrap .i64 ((64 : Int) - (s.length : Int)) = ((64 - s.length : Nat) : Int) := by rw [w64 (by omega) (by omega)]; omega
  rw [e]
  refine i_clp (f87 [0] (64 - s.length) (by simp; omega) (by omega)) ?_
  have hl : (Lib.repeatL [0] (64 - s.length)).length ≤ 64 := by rw [rep_one]; simp
  repeat' (first | ((with_reducible refine d_seq ?_); intro K hK) | ((with_reducible refine d_reg ?_); simp only [go_sem, Nat.reduceAdd, Nat.reduceEqDiff, Int.reduceToNat, Nat.reduceMul, Nat.reduceSub]) | ((first | ((with_reducible refine d_cnd ?_); refine And.intro ?_ ?_) | (with_reducible refine r_cnd ?_ ?_)); all_goals (intro hc; (try simp only [push_cast, Int.reduceEq, Int.reduceLT, Int.reduceLE, Int.reduceNe] at hc))) | ((with_reducible refine hK _ _ ?_); clear hK; clear K) | ((with_reducible first | refine d_blk ?_ | refine d_rt0 ?_ | refine d_sk0 ?_ | refine d_ex0 ?_); (try simp only [go_sem, Nat.reduceAdd, Nat.reduceEqDiff, Int.reduceToNat, Nat.reduceMul, Nat.reduceSub])) | (with_reducible refine r_rq (by first | decide | omega) ?_) | ((with_reducible refine r_nwc ?_); intro b) | ((with_reducible first | apply i_lds | apply i_ldsq | apply i_ld | apply i_ldq); exact rfl) | ((with_reducible first | apply i_ldn | apply i_ldnq); exact rfl; exact rfl; exact rfl) | (with_reducible first | refine r_ph0 ?_ | apply i_kp0) | ((with_reducible first | apply i_st | apply i_stl); (focus simp); exact rfl) | simp only [go_sem, Nat.reduceAdd, Nat.reduceEqDiff, Int.reduceToNat, Nat.reduceMul, Nat.reduceSub] | (clear hK; clear K))
  (with_reducible first | apply i_ret0 | apply i_ret2 | apply i_ret3 | apply i_ret); exact rfl
  rw [rep_one]; rfl
end Go.Sp
