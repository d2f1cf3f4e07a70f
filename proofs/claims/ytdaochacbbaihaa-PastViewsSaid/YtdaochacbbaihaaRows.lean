/-
  No cell of these rows narrows 'for every input' (looked for: loops, veiled, ifaces, maps, wideKeys, modest, calm, conditions, laid).
  DERIVED. THE GIVEN ROWS OF THIS SEAT. 2 by the template 'for every input the law returns true; each argument reads behind the call as it read before'; 0 by the template 'total and deterministic' (their statements: YtdaochacbbaihaaTotals.lean).
  GIVEN WITH THE SEED: the statements are not yours to turn. If you find one false, say at which input.
  Laid BY PROGRAM, IN A SANDBOX (cutbox-rows.mjs): the forced cells as the released guide's own fill.sh prints them over the translation 6543de5c23f81577… (all of the seat's roots in one cut). By AI agents, Wed Nov 11 2026. No macro, syntax, notation, axiom, sorry.
-/
import Derived.Test.YtdaochacbbaihaaChecked
import GoSem.Claim
import GoSem.ClaimJoined
import GoSem.ClaimMapViews
import Derived.JoinedTies
import Derived.KernelRfl
namespace Go.Proofs.Ytdaochacbbaihaa
/- THE CELL 'sum', in the pinned program and in every row, IS THE sha256 OF THE DUMP (.gsa) THAT YtdaochacbbaihaaProg.lean LOADS. Nothing in Lean hashes anything: it is a label: what it is worth is what the hold of that sum in a sandbox is worth. -/
noncomputable def Try.pinned : Pinned := { name := "ytdaochacbbaihaa", sum := "6543de5c23f81577cc7533efaaa56f8637445018b19ea2dd1ff75f9662da0529", checked := Try.checked }
namespace Rows
def none {H : Type} : Left H := { results := [], args := [] }

/-- 'gharrylaw14.PastViews': WHATEVER THE INPUT: true; the input reads as it did. -/
def pastViewsSpec : ChangeSpec := { name := "pastViews", fn := fun _ => fun
  | [d1, d2, d3, d4, d5] => { results := [.lit (.bool true)], args := [d1, d2, d3, d4, d5] }
  | _ => none }
def pastViewsRow : OpenClaim := { program := "ytdaochacbbaihaa", sum := "6543de5c23f81577cc7533efaaa56f8637445018b19ea2dd1ff75f9662da0529", func := "gharry/gharrylaw14.PastViews", spec := "pastViews", inPlace := ["internal/bytealg.abigen_runtime_cmpstring"], unfollowed := true, recurses := true, apart := false }
def PastViewsSaid : Prop := pastViewsRow.holds Try.pinned (OpenSpec.ofChange pastViewsSpec)

/-- ITS FALSE NEIGHBOUR: 'it returns false'. Refute it at one input. -/
def pastViewsWrong : ChangeSpec := { name := "pastViews", fn := fun _ => fun
  | [d1, d2, d3, d4, d5] => { results := [.lit (.bool false)], args := [d1, d2, d3, d4, d5] }
  | _ => none }
def PastViewsWrongFalsely : Prop := pastViewsRow.holds Try.pinned (OpenSpec.ofChange pastViewsWrong)

/-- 'gharrylaw14.PastNobody': WHATEVER THE INPUT: true; the input reads as it did. -/
def pastNobodySpec : ChangeSpec := { name := "pastNobody", fn := fun _ => fun
  | [d1, d2] => { results := [.lit (.bool true)], args := [d1, d2] }
  | _ => none }
def pastNobodyRow : OpenClaim := { program := "ytdaochacbbaihaa", sum := "6543de5c23f81577cc7533efaaa56f8637445018b19ea2dd1ff75f9662da0529", func := "gharry/gharrylaw14.PastNobody", spec := "pastNobody", inPlace := ["internal/bytealg.abigen_runtime_cmpstring"], unfollowed := true, recurses := true, apart := false }
def PastNobodySaid : Prop := pastNobodyRow.holds Try.pinned (OpenSpec.ofChange pastNobodySpec)

/-- ITS FALSE NEIGHBOUR: 'it returns false'. Refute it at one input. -/
def pastNobodyWrong : ChangeSpec := { name := "pastNobody", fn := fun _ => fun
  | [d1, d2] => { results := [.lit (.bool false)], args := [d1, d2] }
  | _ => none }
def PastNobodyWrongFalsely : Prop := pastNobodyRow.holds Try.pinned (OpenSpec.ofChange pastNobodyWrong)

/- THE SECOND FORM. 'bulk': how many values and letters a reading holds, each counted each time it is reached (what is shared counts as often as it is met; a slice's spare places count too). A statement '..UptoSaid' is the law's where the arguments, and the package variables that the reading takes, are together of bulk at most 1048576: NARROWER than '..Said'. Prove '..Said' where nothing that the law and all that it calls make is longer than what came in: it says more and counts as full. Else prove '..UptoSaid'. A law counts once. -/
mutual
def uptoBulk {H : Type} : DataW H → Nat
  | .lit (.string bytes) => bytes.length + 1
  | .lit _ => 1
  | .nil => 1
  | .ptr d => uptoBulk d + 1
  | .slice elems spare => uptoBulkAll elems + uptoBulkAll spare + 1
  | .agg parts => uptoBulkAll parts + 1
  | .iface _ d => uptoBulk d + 1
  | .map entries => uptoBulkEntries entries + 1
  | .held _ => 1
def uptoBulkAll {H : Type} : List (DataW H) → Nat
  | [] => 0
  | d :: r => uptoBulk d + uptoBulkAll r
def uptoBulkEntries {H : Type} : List (Lit × DataW H) → Nat
  | [] => 0
  | x :: r => uptoBulkEntry x + uptoBulkEntries r
def uptoBulkEntry {H : Type} : Lit × DataW H → Nat
  | (.string bytes, d) => bytes.length + uptoBulk d + 1
  | (_, d) => uptoBulk d + 1
 end
def uptoSmall : (H : Type) → List (DataW H) → Bool := fun _ ds => decide (uptoBulkAll ds ≤ 1048576)
def OpenSpec.upto (s : _root_.Go.ChangeSpec) : _root_.Go.OpenSpec := { _root_.Go.OpenSpec.ofChange s with cond := some uptoSmall }

/-- 'gharrylaw14.PastViews', WHERE WHAT IT READS IS OF BULK AT MOST 1048576: true; the input reads as it did. -/
def pastViewsUptoRow : OpenClaim := { program := "ytdaochacbbaihaa", sum := "6543de5c23f81577cc7533efaaa56f8637445018b19ea2dd1ff75f9662da0529", func := "gharry/gharrylaw14.PastViews", spec := "pastViews", inPlace := ["internal/bytealg.abigen_runtime_cmpstring"], unfollowed := true, recurses := true, apart := false, narrowed := true }
def PastViewsUptoSaid : Prop := pastViewsUptoRow.holds Try.pinned (OpenSpec.upto pastViewsSpec)

/-- 'gharrylaw14.PastNobody', WHERE WHAT IT READS IS OF BULK AT MOST 1048576: true; the input reads as it did. -/
def pastNobodyUptoRow : OpenClaim := { program := "ytdaochacbbaihaa", sum := "6543de5c23f81577cc7533efaaa56f8637445018b19ea2dd1ff75f9662da0529", func := "gharry/gharrylaw14.PastNobody", spec := "pastNobody", inPlace := ["internal/bytealg.abigen_runtime_cmpstring"], unfollowed := true, recurses := true, apart := false, narrowed := true }
def PastNobodyUptoSaid : Prop := pastNobodyUptoRow.holds Try.pinned (OpenSpec.upto pastNobodySpec)

end Rows
end Go.Proofs.Ytdaochacbbaihaa
