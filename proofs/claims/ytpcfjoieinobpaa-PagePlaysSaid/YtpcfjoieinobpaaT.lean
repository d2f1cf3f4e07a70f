/- The Go types of the program as Lean structures. Written by my own generator. -/
import Derived.Test.YtpcfjoieinobpaaK10
import Derived.Test.YtpcfjoieinobpaaProg
namespace Go.Sp
open Go
set_option maxRecDepth 100000
set_option linter.unusedVariables false
structure runtime_boundsError where
  x : Int
  y : Int
  signed : Bool
  code : Int
  deriving DecidableEq
def v_runtime_boundsError (x : runtime_boundsError) : Value := .agg #[.int .i64 x.x, .int .i64 x.y, .bool x.signed, .int .u8 x.code]
abbrev e_runtime_boundsError : Enc := ⟨runtime_boundsError, v_runtime_boundsError⟩
structure runtime_errorAddressString where
  msg : List UInt8
  addr : Int
  deriving DecidableEq
def v_runtime_errorAddressString (x : runtime_errorAddressString) : Value := .agg #[str x.msg, .int .u64 x.addr]
abbrev e_runtime_errorAddressString : Enc := ⟨runtime_errorAddressString, v_runtime_errorAddressString⟩
structure maps_unhashableTypeError where
  typ : Option Addr
  deriving DecidableEq
def v_maps_unhashableTypeError (x : maps_unhashableTypeError) : Value := .agg #[.pointer x.typ]
abbrev e_maps_unhashableTypeError : Enc := ⟨maps_unhashableTypeError, v_maps_unhashableTypeError⟩
structure lock_Hold where
  Txn : Int
  Mode : Int
  Lo : List UInt8
  Hi : List UInt8
  Open : Bool
  deriving DecidableEq
def v_lock_Hold (x : lock_Hold) : Value := .agg #[.int .i64 x.Txn, .int .i64 x.Mode, str x.Lo, str x.Hi, .bool x.Open]
abbrev e_lock_Hold : Enc := ⟨lock_Hold, v_lock_Hold⟩
structure gharrylaw12_Op where
  Kind : Int
  H : lock_Hold
  deriving DecidableEq
def v_gharrylaw12_Op (x : gharrylaw12_Op) : Value := .agg #[.int .i64 x.Kind, .int .i64 x.H.Txn, .int .i64 x.H.Mode, str x.H.Lo, str x.H.Hi, .bool x.H.Open]
abbrev e_gharrylaw12_Op : Enc := ⟨gharrylaw12_Op, v_gharrylaw12_Op⟩
structure api_Cell where
  Key : List UInt8
  Val : List UInt8
  deriving DecidableEq
def v_api_Cell (x : api_Cell) : Value := .agg #[str x.Key, str x.Val]
abbrev e_api_Cell : Enc := ⟨api_Cell, v_api_Cell⟩
structure gharrylaw05_Op where
  Kind : Int
  C : api_Cell
  deriving DecidableEq
def v_gharrylaw05_Op (x : gharrylaw05_Op) : Value := .agg #[.int .i64 x.Kind, str x.C.Key, str x.C.Val]
abbrev e_gharrylaw05_Op : Enc := ⟨gharrylaw05_Op, v_gharrylaw05_Op⟩
structure lock_Table where
  holds : (Option Addr × Nat × Nat)
  count : Int
  deriving DecidableEq
def v_lock_Table (x : lock_Table) : Value := .agg #[.slice x.holds.1 x.holds.2.1 x.holds.2.2, .int .i64 x.count]
abbrev e_lock_Table : Enc := ⟨lock_Table, v_lock_Table⟩
structure runtime_TypeAssertionError where
  _interface : Option Addr
  concrete : Option Addr
  asserted : Option Addr
  missingMethod : List UInt8
  deriving DecidableEq
def v_runtime_TypeAssertionError (x : runtime_TypeAssertionError) : Value := .agg #[.pointer x._interface, .pointer x.concrete, .pointer x.asserted, str x.missingMethod]
abbrev e_runtime_TypeAssertionError : Enc := ⟨runtime_TypeAssertionError, v_runtime_TypeAssertionError⟩
def TT : Nat → Enc := lk eV [(0, eN), (2, eI), (3, eI), (4, eB), (5, eU8), (6, eU8), (8, e_runtime_boundsError), (9, eS), (10, eS), (11, eS), (12, eU64), (14, e_runtime_errorAddressString), (15, eP), (16, eP), (17, eP), (19, e_maps_unhashableTypeError), (22, (eT3 eI eI eI)), (27, e_lock_Hold), (32, eSl), (33, eP), (36, e_gharrylaw12_Op), (38, eI), (41, eSl), (45, eSl), (55, e_api_Cell), (58, eSl), (60, (eT2 eS eI)), (67, (eT4 eS eS eS eI)), (69, (eT2 eSl eB)), (73, (eT2 eI eB)), (81, (eT2 e_api_Cell eI)), (85, eSl), (87, e_gharrylaw05_Op), (93, e_lock_Table), (97, eP), (98, (eT2 eP eB)), (103, eSl), (106, (eT2 eP eI)), (112, (eA eU8)), (113, (eA eU8)), (118, eU64), (120, e_runtime_TypeAssertionError), (121, (eA eP)), (124, eU32), (125, eU8), (126, eU8), (128, eP)]
end Go.Sp
