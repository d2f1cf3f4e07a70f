/-
  No cell of these rows narrows 'for every input' (looked for: loops, veiled, ifaces, maps, wideKeys, modest, calm, conditions, laid).
  DERIVED. THE GIVEN ROWS OF THIS SEAT. 12 by the template 'for every input the law returns true; each argument reads behind the call as it read before'; 0 by the template 'total and deterministic' (their statements: YtaidhghnflnmnaaGreatTotals.lean).
  GIVEN WITH THE SEED: the statements are not yours to turn. If you find one false, say at which input.
  Laid BY PROGRAM, IN A SANDBOX (cutbox-rows.mjs): the forced cells as the released guide's own fill.sh prints them over the translation 9f2db8255dd2579b… (all of the seat's roots in one cut). By AI agents, Wed Nov 11 2026. No macro, syntax, notation, axiom, sorry.
-/
import Derived.Test.YtaidhghnflnmnaaGreatChecked
import GoSem.Claim
import GoSem.ClaimJoined
import GoSem.ClaimMapViews
import Derived.JoinedTies
import Derived.KernelRfl
namespace Go.Proofs.YtaidhghnflnmnaaGreat
/- THE CELL 'sum', in the pinned program and in every row, IS THE sha256 OF THE DUMP (.gsa) THAT YtaidhghnflnmnaaGreatProg.lean LOADS. Nothing in Lean hashes anything: it is a label: what it is worth is what the hold of that sum in a sandbox is worth. -/
noncomputable def Tryz.pinned : Pinned := { name := "ytaidhghnflnmnaagreat", sum := "9f2db8255dd2579b4207a082bf641868ad405d54010af3f4197fbed7ad543de0", checked := Tryz.checked }
namespace Rows
def none {H : Type} : Left H := { results := [], args := [] }

/-- 'gharrylaw08.WalSectors': WHATEVER THE INPUT: true; the input reads as it did. -/
def walSectorsSpec : ChangeSpec := { name := "walSectors", fn := fun _ => fun
  | [d1, d2] => { results := [.lit (.bool true)], args := [d1, d2] }
  | _ => none }
def walSectorsRow : OpenClaim := { program := "ytaidhghnflnmnaagreat", sum := "9f2db8255dd2579b4207a082bf641868ad405d54010af3f4197fbed7ad543de0", func := "gharry/gharrylaw08.WalSectors", spec := "walSectors", inPlace := ["internal/abi.NoEscape", "internal/bytealg.MakeNoZero"], unfollowed := true, recurses := true, apart := false }
def WalSectorsSaid : Prop := walSectorsRow.holds Tryz.pinned (OpenSpec.ofChange walSectorsSpec)

/-- ITS FALSE NEIGHBOUR: 'it returns false'. Refute it at one input. -/
def walSectorsWrong : ChangeSpec := { name := "walSectors", fn := fun _ => fun
  | [d1, d2] => { results := [.lit (.bool false)], args := [d1, d2] }
  | _ => none }
def WalSectorsWrongFalsely : Prop := walSectorsRow.holds Tryz.pinned (OpenSpec.ofChange walSectorsWrong)

/-- 'gharrylaw08.WalRaw': WHATEVER THE INPUT: true; the input reads as it did. -/
def walRawSpec : ChangeSpec := { name := "walRaw", fn := fun _ => fun
  | [d1, d2, d3] => { results := [.lit (.bool true)], args := [d1, d2, d3] }
  | _ => none }
def walRawRow : OpenClaim := { program := "ytaidhghnflnmnaagreat", sum := "9f2db8255dd2579b4207a082bf641868ad405d54010af3f4197fbed7ad543de0", func := "gharry/gharrylaw08.WalRaw", spec := "walRaw", inPlace := ["internal/abi.NoEscape", "internal/bytealg.MakeNoZero"], unfollowed := true, recurses := true, apart := false }
def WalRawSaid : Prop := walRawRow.holds Tryz.pinned (OpenSpec.ofChange walRawSpec)

/-- ITS FALSE NEIGHBOUR: 'it returns false'. Refute it at one input. -/
def walRawWrong : ChangeSpec := { name := "walRaw", fn := fun _ => fun
  | [d1, d2, d3] => { results := [.lit (.bool false)], args := [d1, d2, d3] }
  | _ => none }
def WalRawWrongFalsely : Prop := walRawRow.holds Tryz.pinned (OpenSpec.ofChange walRawWrong)

/-- 'gharrylaw08.WalOpens': WHATEVER THE INPUT: true; the input reads as it did. -/
def walOpensSpec : ChangeSpec := { name := "walOpens", fn := fun _ => fun
  | [d1, d2, d3, d4] => { results := [.lit (.bool true)], args := [d1, d2, d3, d4] }
  | _ => none }
def walOpensRow : OpenClaim := { program := "ytaidhghnflnmnaagreat", sum := "9f2db8255dd2579b4207a082bf641868ad405d54010af3f4197fbed7ad543de0", func := "gharry/gharrylaw08.WalOpens", spec := "walOpens", inPlace := ["internal/abi.NoEscape", "internal/bytealg.MakeNoZero"], unfollowed := true, recurses := true, apart := false }
def WalOpensSaid : Prop := walOpensRow.holds Tryz.pinned (OpenSpec.ofChange walOpensSpec)

/-- ITS FALSE NEIGHBOUR: 'it returns false'. Refute it at one input. -/
def walOpensWrong : ChangeSpec := { name := "walOpens", fn := fun _ => fun
  | [d1, d2, d3, d4] => { results := [.lit (.bool false)], args := [d1, d2, d3, d4] }
  | _ => none }
def WalOpensWrongFalsely : Prop := walOpensRow.holds Tryz.pinned (OpenSpec.ofChange walOpensWrong)

/-- 'gharrylaw08.WalStale': WHATEVER THE INPUT: true; the input reads as it did. -/
def walStaleSpec : ChangeSpec := { name := "walStale", fn := fun _ => fun
  | [d1, d2, d3] => { results := [.lit (.bool true)], args := [d1, d2, d3] }
  | _ => none }
def walStaleRow : OpenClaim := { program := "ytaidhghnflnmnaagreat", sum := "9f2db8255dd2579b4207a082bf641868ad405d54010af3f4197fbed7ad543de0", func := "gharry/gharrylaw08.WalStale", spec := "walStale", inPlace := ["internal/abi.NoEscape", "internal/bytealg.MakeNoZero"], unfollowed := true, recurses := true, apart := false }
def WalStaleSaid : Prop := walStaleRow.holds Tryz.pinned (OpenSpec.ofChange walStaleSpec)

/-- ITS FALSE NEIGHBOUR: 'it returns false'. Refute it at one input. -/
def walStaleWrong : ChangeSpec := { name := "walStale", fn := fun _ => fun
  | [d1, d2, d3] => { results := [.lit (.bool false)], args := [d1, d2, d3] }
  | _ => none }
def WalStaleWrongFalsely : Prop := walStaleRow.holds Tryz.pinned (OpenSpec.ofChange walStaleWrong)

/-- 'gharrylaw08.WalReads': WHATEVER THE INPUT: true; the input reads as it did. -/
def walReadsSpec : ChangeSpec := { name := "walReads", fn := fun _ => fun
  | [d1, d2, d3, d4] => { results := [.lit (.bool true)], args := [d1, d2, d3, d4] }
  | _ => none }
def walReadsRow : OpenClaim := { program := "ytaidhghnflnmnaagreat", sum := "9f2db8255dd2579b4207a082bf641868ad405d54010af3f4197fbed7ad543de0", func := "gharry/gharrylaw08.WalReads", spec := "walReads", inPlace := ["internal/abi.NoEscape", "internal/bytealg.MakeNoZero"], unfollowed := true, recurses := true, apart := false }
def WalReadsSaid : Prop := walReadsRow.holds Tryz.pinned (OpenSpec.ofChange walReadsSpec)

/-- ITS FALSE NEIGHBOUR: 'it returns false'. Refute it at one input. -/
def walReadsWrong : ChangeSpec := { name := "walReads", fn := fun _ => fun
  | [d1, d2, d3, d4] => { results := [.lit (.bool false)], args := [d1, d2, d3, d4] }
  | _ => none }
def WalReadsWrongFalsely : Prop := walReadsRow.holds Tryz.pinned (OpenSpec.ofChange walReadsWrong)

/-- 'gharrylaw08.WalNobody': WHATEVER THE INPUT: true; the input reads as it did. -/
def walNobodySpec : ChangeSpec := { name := "walNobody", fn := fun _ => fun
  | [d1, d2] => { results := [.lit (.bool true)], args := [d1, d2] }
  | _ => none }
def walNobodyRow : OpenClaim := { program := "ytaidhghnflnmnaagreat", sum := "9f2db8255dd2579b4207a082bf641868ad405d54010af3f4197fbed7ad543de0", func := "gharry/gharrylaw08.WalNobody", spec := "walNobody", inPlace := ["internal/abi.NoEscape", "internal/bytealg.MakeNoZero"], unfollowed := true, recurses := true, apart := false }
def WalNobodySaid : Prop := walNobodyRow.holds Tryz.pinned (OpenSpec.ofChange walNobodySpec)

/-- ITS FALSE NEIGHBOUR: 'it returns false'. Refute it at one input. -/
def walNobodyWrong : ChangeSpec := { name := "walNobody", fn := fun _ => fun
  | [d1, d2] => { results := [.lit (.bool false)], args := [d1, d2] }
  | _ => none }
def WalNobodyWrongFalsely : Prop := walNobodyRow.holds Tryz.pinned (OpenSpec.ofChange walNobodyWrong)

/-- 'gharrylaw10.PoolNews': WHATEVER THE INPUT: true; the input reads as it did. -/
def poolNewsSpec : ChangeSpec := { name := "poolNews", fn := fun _ => fun
  | [d1, d2, d3] => { results := [.lit (.bool true)], args := [d1, d2, d3] }
  | _ => none }
def poolNewsRow : OpenClaim := { program := "ytaidhghnflnmnaagreat", sum := "9f2db8255dd2579b4207a082bf641868ad405d54010af3f4197fbed7ad543de0", func := "gharry/gharrylaw10.PoolNews", spec := "poolNews", inPlace := ["internal/abi.NoEscape", "internal/bytealg.MakeNoZero"], unfollowed := true, recurses := true, apart := false }
def PoolNewsSaid : Prop := poolNewsRow.holds Tryz.pinned (OpenSpec.ofChange poolNewsSpec)

/-- ITS FALSE NEIGHBOUR: 'it returns false'. Refute it at one input. -/
def poolNewsWrong : ChangeSpec := { name := "poolNews", fn := fun _ => fun
  | [d1, d2, d3] => { results := [.lit (.bool false)], args := [d1, d2, d3] }
  | _ => none }
def PoolNewsWrongFalsely : Prop := poolNewsRow.holds Tryz.pinned (OpenSpec.ofChange poolNewsWrong)

/-- 'gharrylaw10.PoolFull': WHATEVER THE INPUT: true; the input reads as it did. -/
def poolFullSpec : ChangeSpec := { name := "poolFull", fn := fun _ => fun
  | [d1, d2] => { results := [.lit (.bool true)], args := [d1, d2] }
  | _ => none }
def poolFullRow : OpenClaim := { program := "ytaidhghnflnmnaagreat", sum := "9f2db8255dd2579b4207a082bf641868ad405d54010af3f4197fbed7ad543de0", func := "gharry/gharrylaw10.PoolFull", spec := "poolFull", inPlace := ["internal/abi.NoEscape", "internal/bytealg.MakeNoZero"], unfollowed := true, recurses := true, apart := false }
def PoolFullSaid : Prop := poolFullRow.holds Tryz.pinned (OpenSpec.ofChange poolFullSpec)

/-- ITS FALSE NEIGHBOUR: 'it returns false'. Refute it at one input. -/
def poolFullWrong : ChangeSpec := { name := "poolFull", fn := fun _ => fun
  | [d1, d2] => { results := [.lit (.bool false)], args := [d1, d2] }
  | _ => none }
def PoolFullWrongFalsely : Prop := poolFullRow.holds Tryz.pinned (OpenSpec.ofChange poolFullWrong)

/-- 'gharrylaw10.PoolSame': WHATEVER THE INPUT: true; the input reads as it did. -/
def poolSameSpec : ChangeSpec := { name := "poolSame", fn := fun _ => fun
  | [d1, d2, d3] => { results := [.lit (.bool true)], args := [d1, d2, d3] }
  | _ => none }
def poolSameRow : OpenClaim := { program := "ytaidhghnflnmnaagreat", sum := "9f2db8255dd2579b4207a082bf641868ad405d54010af3f4197fbed7ad543de0", func := "gharry/gharrylaw10.PoolSame", spec := "poolSame", inPlace := ["internal/abi.NoEscape", "internal/bytealg.MakeNoZero"], unfollowed := true, recurses := true, apart := false }
def PoolSameSaid : Prop := poolSameRow.holds Tryz.pinned (OpenSpec.ofChange poolSameSpec)

/-- ITS FALSE NEIGHBOUR: 'it returns false'. Refute it at one input. -/
def poolSameWrong : ChangeSpec := { name := "poolSame", fn := fun _ => fun
  | [d1, d2, d3] => { results := [.lit (.bool false)], args := [d1, d2, d3] }
  | _ => none }
def PoolSameWrongFalsely : Prop := poolSameRow.holds Tryz.pinned (OpenSpec.ofChange poolSameWrong)

/-- 'gharrylaw10.PoolPlays': WHATEVER THE INPUT: true; the input reads as it did. -/
def poolPlaysSpec : ChangeSpec := { name := "poolPlays", fn := fun _ => fun
  | [d1, d2] => { results := [.lit (.bool true)], args := [d1, d2] }
  | _ => none }
def poolPlaysRow : OpenClaim := { program := "ytaidhghnflnmnaagreat", sum := "9f2db8255dd2579b4207a082bf641868ad405d54010af3f4197fbed7ad543de0", func := "gharry/gharrylaw10.PoolPlays", spec := "poolPlays", inPlace := ["internal/abi.NoEscape", "internal/bytealg.MakeNoZero"], unfollowed := true, recurses := true, apart := false }
def PoolPlaysSaid : Prop := poolPlaysRow.holds Tryz.pinned (OpenSpec.ofChange poolPlaysSpec)

/-- ITS FALSE NEIGHBOUR: 'it returns false'. Refute it at one input. -/
def poolPlaysWrong : ChangeSpec := { name := "poolPlays", fn := fun _ => fun
  | [d1, d2] => { results := [.lit (.bool false)], args := [d1, d2] }
  | _ => none }
def PoolPlaysWrongFalsely : Prop := poolPlaysRow.holds Tryz.pinned (OpenSpec.ofChange poolPlaysWrong)

/-- 'gharrylaw10.PoolNobody': WHATEVER THE INPUT: true; the input reads as it did. -/
def poolNobodySpec : ChangeSpec := { name := "poolNobody", fn := fun _ => fun
  | [d1, d2] => { results := [.lit (.bool true)], args := [d1, d2] }
  | _ => none }
def poolNobodyRow : OpenClaim := { program := "ytaidhghnflnmnaagreat", sum := "9f2db8255dd2579b4207a082bf641868ad405d54010af3f4197fbed7ad543de0", func := "gharry/gharrylaw10.PoolNobody", spec := "poolNobody", inPlace := ["internal/abi.NoEscape", "internal/bytealg.MakeNoZero"], unfollowed := true, recurses := true, apart := false }
def PoolNobodySaid : Prop := poolNobodyRow.holds Tryz.pinned (OpenSpec.ofChange poolNobodySpec)

/-- ITS FALSE NEIGHBOUR: 'it returns false'. Refute it at one input. -/
def poolNobodyWrong : ChangeSpec := { name := "poolNobody", fn := fun _ => fun
  | [d1, d2] => { results := [.lit (.bool false)], args := [d1, d2] }
  | _ => none }
def PoolNobodyWrongFalsely : Prop := poolNobodyRow.holds Tryz.pinned (OpenSpec.ofChange poolNobodyWrong)

/-- 'gharrylaw10.PoolLost': WHATEVER THE INPUT: true; the input reads as it did. -/
def poolLostSpec : ChangeSpec := { name := "poolLost", fn := fun _ => fun
  | [d1, d2, d3, d4] => { results := [.lit (.bool true)], args := [d1, d2, d3, d4] }
  | _ => none }
def poolLostRow : OpenClaim := { program := "ytaidhghnflnmnaagreat", sum := "9f2db8255dd2579b4207a082bf641868ad405d54010af3f4197fbed7ad543de0", func := "gharry/gharrylaw10.PoolLost", spec := "poolLost", inPlace := ["internal/abi.NoEscape", "internal/bytealg.MakeNoZero"], unfollowed := true, recurses := true, apart := false }
def PoolLostSaid : Prop := poolLostRow.holds Tryz.pinned (OpenSpec.ofChange poolLostSpec)

/-- ITS FALSE NEIGHBOUR: 'it returns false'. Refute it at one input. -/
def poolLostWrong : ChangeSpec := { name := "poolLost", fn := fun _ => fun
  | [d1, d2, d3, d4] => { results := [.lit (.bool false)], args := [d1, d2, d3, d4] }
  | _ => none }
def PoolLostWrongFalsely : Prop := poolLostRow.holds Tryz.pinned (OpenSpec.ofChange poolLostWrong)

/- THE SECOND FORM. 'bulk': how many values and letters a reading holds, each counted each time it is reached (what is shared counts as often as it is met; a slice's spare places count too). A statement '..UptoSaid' is the law's where the arguments, and the package variables that the reading takes, are together of bulk at most 1048576: NARROWER than '..Said'. Prove '..Said' where nothing that the law and all that it calls make is longer than what came in: it says more and counts as full. Else prove '..UptoSaid'. A law counts once. -/
mutual
def uptoBulk {H : Type} : DataW H → Nat
  | .lit (.string bytes) => bytes.length + 1
  | .lit _ => 1
  | .nil => 1
  | .ptr d => uptoBulk d + 1
  | .slice elems spare => uptoBulkAll elems + uptoBulkAll spare + 1
  | .agg parts => uptoBulkAll parts + 1
  | .iface _ d => uptoBulk d + 1
  | .map entries => uptoBulkEntries entries + 1
  | .held _ => 1
def uptoBulkAll {H : Type} : List (DataW H) → Nat
  | [] => 0
  | d :: r => uptoBulk d + uptoBulkAll r
def uptoBulkEntries {H : Type} : List (Lit × DataW H) → Nat
  | [] => 0
  | x :: r => uptoBulkEntry x + uptoBulkEntries r
def uptoBulkEntry {H : Type} : Lit × DataW H → Nat
  | (.string bytes, d) => bytes.length + uptoBulk d + 1
  | (_, d) => uptoBulk d + 1
 end
def uptoSmall : (H : Type) → List (DataW H) → Bool := fun _ ds => decide (uptoBulkAll ds ≤ 1048576)
def OpenSpec.upto (s : _root_.Go.ChangeSpec) : _root_.Go.OpenSpec := { _root_.Go.OpenSpec.ofChange s with cond := some uptoSmall }

/-- 'gharrylaw08.WalSectors', WHERE WHAT IT READS IS OF BULK AT MOST 1048576: true; the input reads as it did. -/
def walSectorsUptoRow : OpenClaim := { program := "ytaidhghnflnmnaagreat", sum := "9f2db8255dd2579b4207a082bf641868ad405d54010af3f4197fbed7ad543de0", func := "gharry/gharrylaw08.WalSectors", spec := "walSectors", inPlace := ["internal/abi.NoEscape", "internal/bytealg.MakeNoZero"], unfollowed := true, recurses := true, apart := false, narrowed := true }
def WalSectorsUptoSaid : Prop := walSectorsUptoRow.holds Tryz.pinned (OpenSpec.upto walSectorsSpec)

/-- 'gharrylaw08.WalRaw', WHERE WHAT IT READS IS OF BULK AT MOST 1048576: true; the input reads as it did. -/
def walRawUptoRow : OpenClaim := { program := "ytaidhghnflnmnaagreat", sum := "9f2db8255dd2579b4207a082bf641868ad405d54010af3f4197fbed7ad543de0", func := "gharry/gharrylaw08.WalRaw", spec := "walRaw", inPlace := ["internal/abi.NoEscape", "internal/bytealg.MakeNoZero"], unfollowed := true, recurses := true, apart := false, narrowed := true }
def WalRawUptoSaid : Prop := walRawUptoRow.holds Tryz.pinned (OpenSpec.upto walRawSpec)

/-- 'gharrylaw08.WalOpens', WHERE WHAT IT READS IS OF BULK AT MOST 1048576: true; the input reads as it did. -/
def walOpensUptoRow : OpenClaim := { program := "ytaidhghnflnmnaagreat", sum := "9f2db8255dd2579b4207a082bf641868ad405d54010af3f4197fbed7ad543de0", func := "gharry/gharrylaw08.WalOpens", spec := "walOpens", inPlace := ["internal/abi.NoEscape", "internal/bytealg.MakeNoZero"], unfollowed := true, recurses := true, apart := false, narrowed := true }
def WalOpensUptoSaid : Prop := walOpensUptoRow.holds Tryz.pinned (OpenSpec.upto walOpensSpec)

/-- 'gharrylaw08.WalStale', WHERE WHAT IT READS IS OF BULK AT MOST 1048576: true; the input reads as it did. -/
def walStaleUptoRow : OpenClaim := { program := "ytaidhghnflnmnaagreat", sum := "9f2db8255dd2579b4207a082bf641868ad405d54010af3f4197fbed7ad543de0", func := "gharry/gharrylaw08.WalStale", spec := "walStale", inPlace := ["internal/abi.NoEscape", "internal/bytealg.MakeNoZero"], unfollowed := true, recurses := true, apart := false, narrowed := true }
def WalStaleUptoSaid : Prop := walStaleUptoRow.holds Tryz.pinned (OpenSpec.upto walStaleSpec)

/-- 'gharrylaw08.WalReads', WHERE WHAT IT READS IS OF BULK AT MOST 1048576: true; the input reads as it did. -/
def walReadsUptoRow : OpenClaim := { program := "ytaidhghnflnmnaagreat", sum := "9f2db8255dd2579b4207a082bf641868ad405d54010af3f4197fbed7ad543de0", func := "gharry/gharrylaw08.WalReads", spec := "walReads", inPlace := ["internal/abi.NoEscape", "internal/bytealg.MakeNoZero"], unfollowed := true, recurses := true, apart := false, narrowed := true }
def WalReadsUptoSaid : Prop := walReadsUptoRow.holds Tryz.pinned (OpenSpec.upto walReadsSpec)

/-- 'gharrylaw08.WalNobody', WHERE WHAT IT READS IS OF BULK AT MOST 1048576: true; the input reads as it did. -/
def walNobodyUptoRow : OpenClaim := { program := "ytaidhghnflnmnaagreat", sum := "9f2db8255dd2579b4207a082bf641868ad405d54010af3f4197fbed7ad543de0", func := "gharry/gharrylaw08.WalNobody", spec := "walNobody", inPlace := ["internal/abi.NoEscape", "internal/bytealg.MakeNoZero"], unfollowed := true, recurses := true, apart := false, narrowed := true }
def WalNobodyUptoSaid : Prop := walNobodyUptoRow.holds Tryz.pinned (OpenSpec.upto walNobodySpec)

/-- 'gharrylaw10.PoolNews', WHERE WHAT IT READS IS OF BULK AT MOST 1048576: true; the input reads as it did. -/
def poolNewsUptoRow : OpenClaim := { program := "ytaidhghnflnmnaagreat", sum := "9f2db8255dd2579b4207a082bf641868ad405d54010af3f4197fbed7ad543de0", func := "gharry/gharrylaw10.PoolNews", spec := "poolNews", inPlace := ["internal/abi.NoEscape", "internal/bytealg.MakeNoZero"], unfollowed := true, recurses := true, apart := false, narrowed := true }
def PoolNewsUptoSaid : Prop := poolNewsUptoRow.holds Tryz.pinned (OpenSpec.upto poolNewsSpec)

/-- 'gharrylaw10.PoolFull', WHERE WHAT IT READS IS OF BULK AT MOST 1048576: true; the input reads as it did. -/
def poolFullUptoRow : OpenClaim := { program := "ytaidhghnflnmnaagreat", sum := "9f2db8255dd2579b4207a082bf641868ad405d54010af3f4197fbed7ad543de0", func := "gharry/gharrylaw10.PoolFull", spec := "poolFull", inPlace := ["internal/abi.NoEscape", "internal/bytealg.MakeNoZero"], unfollowed := true, recurses := true, apart := false, narrowed := true }
def PoolFullUptoSaid : Prop := poolFullUptoRow.holds Tryz.pinned (OpenSpec.upto poolFullSpec)

/-- 'gharrylaw10.PoolSame', WHERE WHAT IT READS IS OF BULK AT MOST 1048576: true; the input reads as it did. -/
def poolSameUptoRow : OpenClaim := { program := "ytaidhghnflnmnaagreat", sum := "9f2db8255dd2579b4207a082bf641868ad405d54010af3f4197fbed7ad543de0", func := "gharry/gharrylaw10.PoolSame", spec := "poolSame", inPlace := ["internal/abi.NoEscape", "internal/bytealg.MakeNoZero"], unfollowed := true, recurses := true, apart := false, narrowed := true }
def PoolSameUptoSaid : Prop := poolSameUptoRow.holds Tryz.pinned (OpenSpec.upto poolSameSpec)

/-- 'gharrylaw10.PoolPlays', WHERE WHAT IT READS IS OF BULK AT MOST 1048576: true; the input reads as it did. -/
def poolPlaysUptoRow : OpenClaim := { program := "ytaidhghnflnmnaagreat", sum := "9f2db8255dd2579b4207a082bf641868ad405d54010af3f4197fbed7ad543de0", func := "gharry/gharrylaw10.PoolPlays", spec := "poolPlays", inPlace := ["internal/abi.NoEscape", "internal/bytealg.MakeNoZero"], unfollowed := true, recurses := true, apart := false, narrowed := true }
def PoolPlaysUptoSaid : Prop := poolPlaysUptoRow.holds Tryz.pinned (OpenSpec.upto poolPlaysSpec)

/-- 'gharrylaw10.PoolNobody', WHERE WHAT IT READS IS OF BULK AT MOST 1048576: true; the input reads as it did. -/
def poolNobodyUptoRow : OpenClaim := { program := "ytaidhghnflnmnaagreat", sum := "9f2db8255dd2579b4207a082bf641868ad405d54010af3f4197fbed7ad543de0", func := "gharry/gharrylaw10.PoolNobody", spec := "poolNobody", inPlace := ["internal/abi.NoEscape", "internal/bytealg.MakeNoZero"], unfollowed := true, recurses := true, apart := false, narrowed := true }
def PoolNobodyUptoSaid : Prop := poolNobodyUptoRow.holds Tryz.pinned (OpenSpec.upto poolNobodySpec)

/-- 'gharrylaw10.PoolLost', WHERE WHAT IT READS IS OF BULK AT MOST 1048576: true; the input reads as it did. -/
def poolLostUptoRow : OpenClaim := { program := "ytaidhghnflnmnaagreat", sum := "9f2db8255dd2579b4207a082bf641868ad405d54010af3f4197fbed7ad543de0", func := "gharry/gharrylaw10.PoolLost", spec := "poolLost", inPlace := ["internal/abi.NoEscape", "internal/bytealg.MakeNoZero"], unfollowed := true, recurses := true, apart := false, narrowed := true }
def PoolLostUptoSaid : Prop := poolLostUptoRow.holds Tryz.pinned (OpenSpec.upto poolLostSpec)

end Rows
end Go.Proofs.YtaidhghnflnmnaaGreat
