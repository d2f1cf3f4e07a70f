/- The Go types of the program as Lean structures. Written by my own generator. -/
import Derived.Test.YtpadmllpdkknnaaK10
import Derived.Test.YtpadmllpdkknnaaProg
namespace Go.Sp
open Go
set_option maxRecDepth 100000
set_option linter.unusedVariables false
structure runtime_boundsError where
  x : Int
  y : Int
  signed : Bool
  code : Int
  deriving DecidableEq
def v_runtime_boundsError (x : runtime_boundsError) : Value := .agg #[.int .i64 x.x, .int .i64 x.y, .bool x.signed, .int .u8 x.code]
abbrev e_runtime_boundsError : Enc := ⟨runtime_boundsError, v_runtime_boundsError⟩
structure runtime_errorAddressString where
  msg : List UInt8
  addr : Int
  deriving DecidableEq
def v_runtime_errorAddressString (x : runtime_errorAddressString) : Value := .agg #[str x.msg, .int .u64 x.addr]
abbrev e_runtime_errorAddressString : Enc := ⟨runtime_errorAddressString, v_runtime_errorAddressString⟩
structure maps_unhashableTypeError where
  typ : Option Addr
  deriving DecidableEq
def v_maps_unhashableTypeError (x : maps_unhashableTypeError) : Value := .agg #[.pointer x.typ]
abbrev e_maps_unhashableTypeError : Enc := ⟨maps_unhashableTypeError, v_maps_unhashableTypeError⟩
structure base_Base where
  Node : Int
  Boot : Int
  Gen : Int
  Check : Int
  Redo : Int
  Seen : Int
  Joined : Int
  deriving DecidableEq
def v_base_Base (x : base_Base) : Value := .agg #[.int .i64 x.Node, .int .i64 x.Boot, .int .i64 x.Gen, .int .i64 x.Check, .int .i64 x.Redo, .int .i64 x.Seen, .int .i64 x.Joined]
abbrev e_base_Base : Enc := ⟨base_Base, v_base_Base⟩
structure gharrylaw03_plain where
  l : (Option Addr × Nat × Nat)
  down : Bool
  armed : Bool
  left : Int
  keep : Int
  acts : Int
  downs : Int
  deriving DecidableEq
def v_gharrylaw03_plain (x : gharrylaw03_plain) : Value := .agg #[.slice x.l.1 x.l.2.1 x.l.2.2, .bool x.down, .bool x.armed, .int .i64 x.left, .int .u64 x.keep, .int .i64 x.acts, .int .i64 x.downs]
abbrev e_gharrylaw03_plain : Enc := ⟨gharrylaw03_plain, v_gharrylaw03_plain⟩
structure gharrylaw03_sector where
  sure : List UInt8
  now : List UInt8
  waits : Bool
  deriving DecidableEq
def v_gharrylaw03_sector (x : gharrylaw03_sector) : Value := .agg #[str x.sure, str x.now, .bool x.waits]
abbrev e_gharrylaw03_sector : Enc := ⟨gharrylaw03_sector, v_gharrylaw03_sector⟩
structure gharrylaw03_Op where
  Kind : Int
  I : Int
  S : List UInt8
  Keep : Int
  deriving DecidableEq
def v_gharrylaw03_Op (x : gharrylaw03_Op) : Value := .agg #[.int .i64 x.Kind, .int .i64 x.I, str x.S, .int .u64 x.Keep]
abbrev e_gharrylaw03_Op : Enc := ⟨gharrylaw03_Op, v_gharrylaw03_Op⟩
structure disk_Disk where
  sure : (Option Addr × Nat × Nat)
  wait : Option Nat
  up : Bool
  fuse : Int
  keep : Int
  acts : Int
  downs : Int
  deriving DecidableEq
def v_disk_Disk (x : disk_Disk) : Value := .agg #[.slice x.sure.1 x.sure.2.1 x.sure.2.2, .map x.wait, .bool x.up, .int .i64 x.fuse, .int .u64 x.keep, .int .i64 x.acts, .int .i64 x.downs]
abbrev e_disk_Disk : Enc := ⟨disk_Disk, v_disk_Disk⟩
structure gharrylaw06_Op where
  Id : Int
  C : Int
  Sync : Bool
  deriving DecidableEq
def v_gharrylaw06_Op (x : gharrylaw06_Op) : Value := .agg #[.int .i64 x.Id, .int .u8 x.C, .bool x.Sync]
abbrev e_gharrylaw06_Op : Enc := ⟨gharrylaw06_Op, v_gharrylaw06_Op⟩
structure arbiter_grant where
  epoch : Int
  holder : Int
  deriving DecidableEq
def v_arbiter_grant (x : arbiter_grant) : Value := .agg #[.int .i64 x.epoch, .int .i64 x.holder]
abbrev e_arbiter_grant : Enc := ⟨arbiter_grant, v_arbiter_grant⟩
structure arbiter_Arbiter where
  disk : Option Addr
  last : arbiter_grant
  dead : Bool
  deriving DecidableEq
def v_arbiter_Arbiter (x : arbiter_Arbiter) : Value := .agg #[.pointer x.disk, .int .i64 x.last.epoch, .int .i64 x.last.holder, .bool x.dead]
abbrev e_arbiter_Arbiter : Enc := ⟨arbiter_Arbiter, v_arbiter_Arbiter⟩
structure gharrylaw18_Op where
  Node : Int
  Epoch : Int
  Acts : Int
  Keep : Int
  deriving DecidableEq
def v_gharrylaw18_Op (x : gharrylaw18_Op) : Value := .agg #[.int .i64 x.Node, .int .i64 x.Epoch, .int .i64 x.Acts, .int .u64 x.Keep]
abbrev e_gharrylaw18_Op : Enc := ⟨gharrylaw18_Op, v_gharrylaw18_Op⟩
structure store_Store where
  disk : Option Addr
  base : Int
  pages : Int
  gen : Int
  deriving DecidableEq
def v_store_Store (x : store_Store) : Value := .agg #[.pointer x.disk, .int .i64 x.base, .int .i64 x.pages, .int .i64 x.gen]
abbrev e_store_Store : Enc := ⟨store_Store, v_store_Store⟩
structure pack_Reader where
  s : List UInt8
  f_at : Int
  e : Int
  deriving DecidableEq
def v_pack_Reader (x : pack_Reader) : Value := .agg #[str x.s, .int .i64 x.f_at, .int .i64 x.e]
abbrev e_pack_Reader : Enc := ⟨pack_Reader, v_pack_Reader⟩
structure pack_Writer where
  s : List UInt8
  e : Int
  deriving DecidableEq
def v_pack_Writer (x : pack_Writer) : Value := .agg #[str x.s, .int .i64 x.e]
abbrev e_pack_Writer : Enc := ⟨pack_Writer, v_pack_Writer⟩
structure strings_Builder where
  addr : Option Addr
  buf : (Option Addr × Nat × Nat)
  deriving DecidableEq
def v_strings_Builder (x : strings_Builder) : Value := .agg #[.pointer x.addr, .slice x.buf.1 x.buf.2.1 x.buf.2.2]
abbrev e_strings_Builder : Enc := ⟨strings_Builder, v_strings_Builder⟩
structure runtime_TypeAssertionError where
  _interface : Option Addr
  concrete : Option Addr
  asserted : Option Addr
  missingMethod : List UInt8
  deriving DecidableEq
def v_runtime_TypeAssertionError (x : runtime_TypeAssertionError) : Value := .agg #[.pointer x._interface, .pointer x.concrete, .pointer x.asserted, str x.missingMethod]
abbrev e_runtime_TypeAssertionError : Enc := ⟨runtime_TypeAssertionError, v_runtime_TypeAssertionError⟩
def TT : Nat → Enc := lk eV [(0, eN), (2, eI), (3, eI), (4, eB), (5, eU8), (6, eU8), (8, e_runtime_boundsError), (9, eS), (10, eS), (11, eS), (12, eU64), (14, e_runtime_errorAddressString), (15, eP), (16, eP), (17, eP), (19, e_maps_unhashableTypeError), (23, eP), (24, eI), (25, (eT2 eP eI)), (30, eSl), (31, eU64), (34, (eT2 eS eI)), (39, e_base_Base), (40, (eT2 e_base_Base eI)), (42, (eT2 eS eB)), (45, eSl), (46, eP), (47, eSl), (49, e_gharrylaw03_plain), (51, e_gharrylaw03_sector), (54, e_gharrylaw03_Op), (57, eM), (59, e_disk_Disk), (61, eSl), (66, eSl), (67, eP), (68, (eT2 eP eP)), (73, e_gharrylaw06_Op), (74, (eT3 eS eI eI)), (77, (eT2 eP eI)), (83, (eA eS)), (86, eSl), (87, eP), (88, (eT2 eP eP)), (90, (eT3 eI eI eI)), (97, (eT2 eP eI)), (99, (eT2 eI eI)), (103, e_arbiter_grant), (105, e_arbiter_Arbiter), (106, eSl), (108, e_gharrylaw18_Op), (113, (eT3 eI eI eI)), (115, eP), (124, e_store_Store), (125, eSl), (130, e_pack_Reader), (132, eU64), (135, eP), (137, e_pack_Writer), (141, (eT2 eU64 eU64)), (144, eP), (146, e_strings_Builder), (150, (eT2 eI eV)), (154, eI), (155, (eT2 eI eI)), (159, (eT2 eI eB)), (162, eU32), (167, (eT2 eU32 eU32)), (169, (eT2 eU64 eU64)), (171, eP), (172, eU64), (176, eP), (181, eP), (184, e_runtime_TypeAssertionError), (185, (eA eP)), (188, eU8), (189, eU8)]
end Go.Sp
