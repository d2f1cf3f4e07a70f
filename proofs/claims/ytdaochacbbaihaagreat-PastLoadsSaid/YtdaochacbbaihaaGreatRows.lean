/-
  No cell of these rows narrows 'for every input' (looked for: loops, veiled, ifaces, maps, wideKeys, modest, calm, conditions, laid).
  DERIVED. THE GIVEN ROWS OF THIS SEAT. 3 by the template 'for every input the law returns true; each argument reads behind the call as it read before'; 0 by the template 'total and deterministic' (their statements: YtdaochacbbaihaaGreatTotals.lean).
  GIVEN WITH THE SEED: the statements are not yours to turn. If you find one false, say at which input.
  Laid BY PROGRAM, IN A SANDBOX (cutbox-rows.mjs): the forced cells as the released guide's own fill.sh prints them over the translation 8c4f97b605f2572f… (all of the seat's roots in one cut). By AI agents, Wed Nov 11 2026. No macro, syntax, notation, axiom, sorry.
-/
import Derived.Test.YtdaochacbbaihaaGreatChecked
import GoSem.Claim
import GoSem.ClaimJoined
import GoSem.ClaimMapViews
import Derived.JoinedTies
import Derived.KernelRfl
namespace Go.Proofs.YtdaochacbbaihaaGreat
/- THE CELL 'sum', in the pinned program and in every row, IS THE sha256 OF THE DUMP (.gsa) THAT YtdaochacbbaihaaGreatProg.lean LOADS. Nothing in Lean hashes anything: it is a label: what it is worth is what the hold of that sum in a sandbox is worth. -/
noncomputable def Tryz.pinned : Pinned := { name := "ytdaochacbbaihaagreat", sum := "8c4f97b605f2572fec720e08c84c00c52bd9ad5b26777dda04c85efc26c27c60", checked := Tryz.checked }
namespace Rows
def none {H : Type} : Left H := { results := [], args := [] }

/-- 'gharrylaw14.PastLoads': WHATEVER THE INPUT: true; the input reads as it did. -/
def pastLoadsSpec : ChangeSpec := { name := "pastLoads", fn := fun _ => fun
  | [d] => { results := [.lit (.bool true)], args := [d] }
  | _ => none }
def pastLoadsRow : OpenClaim := { program := "ytdaochacbbaihaagreat", sum := "8c4f97b605f2572fec720e08c84c00c52bd9ad5b26777dda04c85efc26c27c60", func := "gharry/gharrylaw14.PastLoads", spec := "pastLoads", inPlace := ["internal/abi.NoEscape", "internal/bytealg.MakeNoZero"], unfollowed := true, recurses := true, apart := false }
def PastLoadsSaid : Prop := pastLoadsRow.holds Tryz.pinned (OpenSpec.ofChange pastLoadsSpec)

/-- ITS FALSE NEIGHBOUR: 'it returns false'. Refute it at one input. -/
def pastLoadsWrong : ChangeSpec := { name := "pastLoads", fn := fun _ => fun
  | [d] => { results := [.lit (.bool false)], args := [d] }
  | _ => none }
def PastLoadsWrongFalsely : Prop := pastLoadsRow.holds Tryz.pinned (OpenSpec.ofChange pastLoadsWrong)

/-- 'gharrylaw20.ShipCatches': WHATEVER THE INPUT: true; the input reads as it did. -/
def shipCatchesSpec : ChangeSpec := { name := "shipCatches", fn := fun _ => fun
  | [d1, d2] => { results := [.lit (.bool true)], args := [d1, d2] }
  | _ => none }
def shipCatchesRow : OpenClaim := { program := "ytdaochacbbaihaagreat", sum := "8c4f97b605f2572fec720e08c84c00c52bd9ad5b26777dda04c85efc26c27c60", func := "gharry/gharrylaw20.ShipCatches", spec := "shipCatches", inPlace := ["internal/abi.NoEscape", "internal/bytealg.MakeNoZero"], unfollowed := true, recurses := true, apart := false }
def ShipCatchesSaid : Prop := shipCatchesRow.holds Tryz.pinned (OpenSpec.ofChange shipCatchesSpec)

/-- ITS FALSE NEIGHBOUR: 'it returns false'. Refute it at one input. -/
def shipCatchesWrong : ChangeSpec := { name := "shipCatches", fn := fun _ => fun
  | [d1, d2] => { results := [.lit (.bool false)], args := [d1, d2] }
  | _ => none }
def ShipCatchesWrongFalsely : Prop := shipCatchesRow.holds Tryz.pinned (OpenSpec.ofChange shipCatchesWrong)

/-- 'gharrylaw20.ShipNews': WHATEVER THE INPUT: true; the input reads as it did. -/
def shipNewsSpec : ChangeSpec := { name := "shipNews", fn := fun _ => fun
  | [d1, d2, d3] => { results := [.lit (.bool true)], args := [d1, d2, d3] }
  | _ => none }
def shipNewsRow : OpenClaim := { program := "ytdaochacbbaihaagreat", sum := "8c4f97b605f2572fec720e08c84c00c52bd9ad5b26777dda04c85efc26c27c60", func := "gharry/gharrylaw20.ShipNews", spec := "shipNews", inPlace := ["internal/abi.NoEscape", "internal/bytealg.MakeNoZero"], unfollowed := true, recurses := true, apart := false }
def ShipNewsSaid : Prop := shipNewsRow.holds Tryz.pinned (OpenSpec.ofChange shipNewsSpec)

/-- ITS FALSE NEIGHBOUR: 'it returns false'. Refute it at one input. -/
def shipNewsWrong : ChangeSpec := { name := "shipNews", fn := fun _ => fun
  | [d1, d2, d3] => { results := [.lit (.bool false)], args := [d1, d2, d3] }
  | _ => none }
def ShipNewsWrongFalsely : Prop := shipNewsRow.holds Tryz.pinned (OpenSpec.ofChange shipNewsWrong)

/- THE SECOND FORM. 'bulk': how many values and letters a reading holds, each counted each time it is reached (what is shared counts as often as it is met; a slice's spare places count too). A statement '..UptoSaid' is the law's where the arguments, and the package variables that the reading takes, are together of bulk at most 1048576: NARROWER than '..Said'. Prove '..Said' where nothing that the law and all that it calls make is longer than what came in: it says more and counts as full. Else prove '..UptoSaid'. A law counts once. -/
mutual
def uptoBulk {H : Type} : DataW H → Nat
  | .lit (.string bytes) => bytes.length + 1
  | .lit _ => 1
  | .nil => 1
  | .ptr d => uptoBulk d + 1
  | .slice elems spare => uptoBulkAll elems + uptoBulkAll spare + 1
  | .agg parts => uptoBulkAll parts + 1
  | .iface _ d => uptoBulk d + 1
  | .map entries => uptoBulkEntries entries + 1
  | .held _ => 1
def uptoBulkAll {H : Type} : List (DataW H) → Nat
  | [] => 0
  | d :: r => uptoBulk d + uptoBulkAll r
def uptoBulkEntries {H : Type} : List (Lit × DataW H) → Nat
  | [] => 0
  | x :: r => uptoBulkEntry x + uptoBulkEntries r
def uptoBulkEntry {H : Type} : Lit × DataW H → Nat
  | (.string bytes, d) => bytes.length + uptoBulk d + 1
  | (_, d) => uptoBulk d + 1
 end
def uptoSmall : (H : Type) → List (DataW H) → Bool := fun _ ds => decide (uptoBulkAll ds ≤ 1048576)
def OpenSpec.upto (s : _root_.Go.ChangeSpec) : _root_.Go.OpenSpec := { _root_.Go.OpenSpec.ofChange s with cond := some uptoSmall }

/-- 'gharrylaw14.PastLoads', WHERE WHAT IT READS IS OF BULK AT MOST 1048576: true; the input reads as it did. -/
def pastLoadsUptoRow : OpenClaim := { program := "ytdaochacbbaihaagreat", sum := "8c4f97b605f2572fec720e08c84c00c52bd9ad5b26777dda04c85efc26c27c60", func := "gharry/gharrylaw14.PastLoads", spec := "pastLoads", inPlace := ["internal/abi.NoEscape", "internal/bytealg.MakeNoZero"], unfollowed := true, recurses := true, apart := false, narrowed := true }
def PastLoadsUptoSaid : Prop := pastLoadsUptoRow.holds Tryz.pinned (OpenSpec.upto pastLoadsSpec)

/-- 'gharrylaw20.ShipCatches', WHERE WHAT IT READS IS OF BULK AT MOST 1048576: true; the input reads as it did. -/
def shipCatchesUptoRow : OpenClaim := { program := "ytdaochacbbaihaagreat", sum := "8c4f97b605f2572fec720e08c84c00c52bd9ad5b26777dda04c85efc26c27c60", func := "gharry/gharrylaw20.ShipCatches", spec := "shipCatches", inPlace := ["internal/abi.NoEscape", "internal/bytealg.MakeNoZero"], unfollowed := true, recurses := true, apart := false, narrowed := true }
def ShipCatchesUptoSaid : Prop := shipCatchesUptoRow.holds Tryz.pinned (OpenSpec.upto shipCatchesSpec)

/-- 'gharrylaw20.ShipNews', WHERE WHAT IT READS IS OF BULK AT MOST 1048576: true; the input reads as it did. -/
def shipNewsUptoRow : OpenClaim := { program := "ytdaochacbbaihaagreat", sum := "8c4f97b605f2572fec720e08c84c00c52bd9ad5b26777dda04c85efc26c27c60", func := "gharry/gharrylaw20.ShipNews", spec := "shipNews", inPlace := ["internal/abi.NoEscape", "internal/bytealg.MakeNoZero"], unfollowed := true, recurses := true, apart := false, narrowed := true }
def ShipNewsUptoSaid : Prop := shipNewsUptoRow.holds Tryz.pinned (OpenSpec.upto shipNewsSpec)

end Rows
end Go.Proofs.YtdaochacbbaihaaGreat
