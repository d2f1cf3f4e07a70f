/-
  No cell of these rows narrows 'for every input' (looked for: loops, veiled, ifaces, maps, wideKeys, modest, calm, conditions, laid).
  DERIVED. THE GIVEN ROWS OF THIS SEAT. 12 by the template 'for every input the law returns true; each argument reads behind the call as it read before'; 0 by the template 'total and deterministic' (their statements: YtpcfjoieinobpaaTotals.lean).
  GIVEN WITH THE SEED: the statements are not yours to turn. If you find one false, say at which input.
  Laid BY PROGRAM, IN A SANDBOX (cutbox-rows.mjs): the forced cells as the released guide's own fill.sh prints them over the translation 6b5f4b0245272186… (all of the seat's roots in one cut). By AI agents, Wed Nov 11 2026. No macro, syntax, notation, axiom, sorry.
-/
import Derived.Test.YtpcfjoieinobpaaChecked
import GoSem.Claim
import GoSem.ClaimJoined
import GoSem.ClaimMapViews
import Derived.JoinedTies
import Derived.KernelRfl
namespace Go.Proofs.Ytpcfjoieinobpaa
/- THE CELL 'sum', in the pinned program and in every row, IS THE sha256 OF THE DUMP (.gsa) THAT YtpcfjoieinobpaaProg.lean LOADS. Nothing in Lean hashes anything: it is a label: what it is worth is what the hold of that sum in a sandbox is worth. -/
noncomputable def Try.pinned : Pinned := { name := "ytpcfjoieinobpaa", sum := "6b5f4b0245272186f0f9b872aea9347742f07dfe53b0abf68e99c027f5b62e6f", checked := Try.checked }
namespace Rows
def none {H : Type} : Left H := { results := [], args := [] }

/-- 'gharrylaw09.BasePlans': WHATEVER THE INPUT: true; the input reads as it did. -/
def basePlansSpec : ChangeSpec := { name := "basePlans", fn := fun _ => fun
  | [d] => { results := [.lit (.bool true)], args := [d] }
  | _ => none }
def basePlansRow : OpenClaim := { program := "ytpcfjoieinobpaa", sum := "6b5f4b0245272186f0f9b872aea9347742f07dfe53b0abf68e99c027f5b62e6f", func := "gharry/gharrylaw09.BasePlans", spec := "basePlans", apart := false }
def BasePlansSaid : Prop := basePlansRow.holds Try.pinned (OpenSpec.ofChange basePlansSpec)

/-- ITS FALSE NEIGHBOUR: 'it returns false'. Refute it at one input. -/
def basePlansWrong : ChangeSpec := { name := "basePlans", fn := fun _ => fun
  | [d] => { results := [.lit (.bool false)], args := [d] }
  | _ => none }
def BasePlansWrongFalsely : Prop := basePlansRow.holds Try.pinned (OpenSpec.ofChange basePlansWrong)

/-- 'gharrylaw12.LockRights': WHATEVER THE INPUT: true; the input reads as it did. -/
def lockRightsSpec : ChangeSpec := { name := "lockRights", fn := fun _ => fun
  | [d1, d2] => { results := [.lit (.bool true)], args := [d1, d2] }
  | _ => none }
def lockRightsRow : OpenClaim := { program := "ytpcfjoieinobpaa", sum := "6b5f4b0245272186f0f9b872aea9347742f07dfe53b0abf68e99c027f5b62e6f", func := "gharry/gharrylaw12.LockRights", spec := "lockRights", unfollowed := true, recurses := true, apart := false }
def LockRightsSaid : Prop := lockRightsRow.holds Try.pinned (OpenSpec.ofChange lockRightsSpec)

/-- ITS FALSE NEIGHBOUR: 'it returns false'. Refute it at one input. -/
def lockRightsWrong : ChangeSpec := { name := "lockRights", fn := fun _ => fun
  | [d1, d2] => { results := [.lit (.bool false)], args := [d1, d2] }
  | _ => none }
def LockRightsWrongFalsely : Prop := lockRightsRow.holds Try.pinned (OpenSpec.ofChange lockRightsWrong)

/-- 'gharrylaw12.LockMeets': WHATEVER THE INPUT: true; the input reads as it did. -/
def lockMeetsSpec : ChangeSpec := { name := "lockMeets", fn := fun _ => fun
  | [d1, d2, d3] => { results := [.lit (.bool true)], args := [d1, d2, d3] }
  | _ => none }
def lockMeetsRow : OpenClaim := { program := "ytpcfjoieinobpaa", sum := "6b5f4b0245272186f0f9b872aea9347742f07dfe53b0abf68e99c027f5b62e6f", func := "gharry/gharrylaw12.LockMeets", spec := "lockMeets", unfollowed := true, recurses := true, apart := false }
def LockMeetsSaid : Prop := lockMeetsRow.holds Try.pinned (OpenSpec.ofChange lockMeetsSpec)

/-- ITS FALSE NEIGHBOUR: 'it returns false'. Refute it at one input. -/
def lockMeetsWrong : ChangeSpec := { name := "lockMeets", fn := fun _ => fun
  | [d1, d2, d3] => { results := [.lit (.bool false)], args := [d1, d2, d3] }
  | _ => none }
def LockMeetsWrongFalsely : Prop := lockMeetsRow.holds Try.pinned (OpenSpec.ofChange lockMeetsWrong)

/-- 'gharrylaw12.LockApart': WHATEVER THE INPUT: true; the input reads as it did. -/
def lockApartSpec : ChangeSpec := { name := "lockApart", fn := fun _ => fun
  | [d] => { results := [.lit (.bool true)], args := [d] }
  | _ => none }
def lockApartRow : OpenClaim := { program := "ytpcfjoieinobpaa", sum := "6b5f4b0245272186f0f9b872aea9347742f07dfe53b0abf68e99c027f5b62e6f", func := "gharry/gharrylaw12.LockApart", spec := "lockApart", unfollowed := true, recurses := true, apart := false }
def LockApartSaid : Prop := lockApartRow.holds Try.pinned (OpenSpec.ofChange lockApartSpec)

/-- ITS FALSE NEIGHBOUR: 'it returns false'. Refute it at one input. -/
def lockApartWrong : ChangeSpec := { name := "lockApart", fn := fun _ => fun
  | [d] => { results := [.lit (.bool false)], args := [d] }
  | _ => none }
def LockApartWrongFalsely : Prop := lockApartRow.holds Try.pinned (OpenSpec.ofChange lockApartWrong)

/-- 'gharrylaw12.LockPlays': WHATEVER THE INPUT: true; the input reads as it did. -/
def lockPlaysSpec : ChangeSpec := { name := "lockPlays", fn := fun _ => fun
  | [d] => { results := [.lit (.bool true)], args := [d] }
  | _ => none }
def lockPlaysRow : OpenClaim := { program := "ytpcfjoieinobpaa", sum := "6b5f4b0245272186f0f9b872aea9347742f07dfe53b0abf68e99c027f5b62e6f", func := "gharry/gharrylaw12.LockPlays", spec := "lockPlays", unfollowed := true, recurses := true, apart := false }
def LockPlaysSaid : Prop := lockPlaysRow.holds Try.pinned (OpenSpec.ofChange lockPlaysSpec)

/-- ITS FALSE NEIGHBOUR: 'it returns false'. Refute it at one input. -/
def lockPlaysWrong : ChangeSpec := { name := "lockPlays", fn := fun _ => fun
  | [d] => { results := [.lit (.bool false)], args := [d] }
  | _ => none }
def LockPlaysWrongFalsely : Prop := lockPlaysRow.holds Try.pinned (OpenSpec.ofChange lockPlaysWrong)

/-- 'gharrylaw12.LockNobody': WHATEVER THE INPUT: true; the input reads as it did. -/
def lockNobodySpec : ChangeSpec := { name := "lockNobody", fn := fun _ => fun
  | [d] => { results := [.lit (.bool true)], args := [d] }
  | _ => none }
def lockNobodyRow : OpenClaim := { program := "ytpcfjoieinobpaa", sum := "6b5f4b0245272186f0f9b872aea9347742f07dfe53b0abf68e99c027f5b62e6f", func := "gharry/gharrylaw12.LockNobody", spec := "lockNobody", unfollowed := true, recurses := true, apart := false }
def LockNobodySaid : Prop := lockNobodyRow.holds Try.pinned (OpenSpec.ofChange lockNobodySpec)

/-- ITS FALSE NEIGHBOUR: 'it returns false'. Refute it at one input. -/
def lockNobodyWrong : ChangeSpec := { name := "lockNobody", fn := fun _ => fun
  | [d] => { results := [.lit (.bool false)], args := [d] }
  | _ => none }
def LockNobodyWrongFalsely : Prop := lockNobodyRow.holds Try.pinned (OpenSpec.ofChange lockNobodyWrong)

/-- 'gharrylaw05.PageNeeds': WHATEVER THE INPUT: true; the input reads as it did. -/
def pageNeedsSpec : ChangeSpec := { name := "pageNeeds", fn := fun _ => fun
  | [d] => { results := [.lit (.bool true)], args := [d] }
  | _ => none }
def pageNeedsRow : OpenClaim := { program := "ytpcfjoieinobpaa", sum := "6b5f4b0245272186f0f9b872aea9347742f07dfe53b0abf68e99c027f5b62e6f", func := "gharry/gharrylaw05.PageNeeds", spec := "pageNeeds", apart := false }
def PageNeedsSaid : Prop := pageNeedsRow.holds Try.pinned (OpenSpec.ofChange pageNeedsSpec)

/-- ITS FALSE NEIGHBOUR: 'it returns false'. Refute it at one input. -/
def pageNeedsWrong : ChangeSpec := { name := "pageNeeds", fn := fun _ => fun
  | [d] => { results := [.lit (.bool false)], args := [d] }
  | _ => none }
def PageNeedsWrongFalsely : Prop := pageNeedsRow.holds Try.pinned (OpenSpec.ofChange pageNeedsWrong)

/-- 'gharrylaw05.PageMakes': WHATEVER THE INPUT: true; the input reads as it did. -/
def pageMakesSpec : ChangeSpec := { name := "pageMakes", fn := fun _ => fun
  | [d1, d2, d3] => { results := [.lit (.bool true)], args := [d1, d2, d3] }
  | _ => none }
def pageMakesRow : OpenClaim := { program := "ytpcfjoieinobpaa", sum := "6b5f4b0245272186f0f9b872aea9347742f07dfe53b0abf68e99c027f5b62e6f", func := "gharry/gharrylaw05.PageMakes", spec := "pageMakes", apart := false }
def PageMakesSaid : Prop := pageMakesRow.holds Try.pinned (OpenSpec.ofChange pageMakesSpec)

/-- ITS FALSE NEIGHBOUR: 'it returns false'. Refute it at one input. -/
def pageMakesWrong : ChangeSpec := { name := "pageMakes", fn := fun _ => fun
  | [d1, d2, d3] => { results := [.lit (.bool false)], args := [d1, d2, d3] }
  | _ => none }
def PageMakesWrongFalsely : Prop := pageMakesRow.holds Try.pinned (OpenSpec.ofChange pageMakesWrong)

/-- 'gharrylaw05.PageHalves': WHATEVER THE INPUT: true; the input reads as it did. -/
def pageHalvesSpec : ChangeSpec := { name := "pageHalves", fn := fun _ => fun
  | [d] => { results := [.lit (.bool true)], args := [d] }
  | _ => none }
def pageHalvesRow : OpenClaim := { program := "ytpcfjoieinobpaa", sum := "6b5f4b0245272186f0f9b872aea9347742f07dfe53b0abf68e99c027f5b62e6f", func := "gharry/gharrylaw05.PageHalves", spec := "pageHalves", apart := false }
def PageHalvesSaid : Prop := pageHalvesRow.holds Try.pinned (OpenSpec.ofChange pageHalvesSpec)

/-- ITS FALSE NEIGHBOUR: 'it returns false'. Refute it at one input. -/
def pageHalvesWrong : ChangeSpec := { name := "pageHalves", fn := fun _ => fun
  | [d] => { results := [.lit (.bool false)], args := [d] }
  | _ => none }
def PageHalvesWrongFalsely : Prop := pageHalvesRow.holds Try.pinned (OpenSpec.ofChange pageHalvesWrong)

/-- 'gharrylaw05.PageDeletes': WHATEVER THE INPUT: true; the input reads as it did. -/
def pageDeletesSpec : ChangeSpec := { name := "pageDeletes", fn := fun _ => fun
  | [d1, d2] => { results := [.lit (.bool true)], args := [d1, d2] }
  | _ => none }
def pageDeletesRow : OpenClaim := { program := "ytpcfjoieinobpaa", sum := "6b5f4b0245272186f0f9b872aea9347742f07dfe53b0abf68e99c027f5b62e6f", func := "gharry/gharrylaw05.PageDeletes", spec := "pageDeletes", inPlace := ["internal/bytealg.abigen_runtime_cmpstring"], unfollowed := true, recurses := true, apart := false }
def PageDeletesSaid : Prop := pageDeletesRow.holds Try.pinned (OpenSpec.ofChange pageDeletesSpec)

/-- ITS FALSE NEIGHBOUR: 'it returns false'. Refute it at one input. -/
def pageDeletesWrong : ChangeSpec := { name := "pageDeletes", fn := fun _ => fun
  | [d1, d2] => { results := [.lit (.bool false)], args := [d1, d2] }
  | _ => none }
def PageDeletesWrongFalsely : Prop := pageDeletesRow.holds Try.pinned (OpenSpec.ofChange pageDeletesWrong)

/-- 'gharrylaw05.PageRights': WHATEVER THE INPUT: true; the input reads as it did. -/
def pageRightsSpec : ChangeSpec := { name := "pageRights", fn := fun _ => fun
  | [d1, d2, d3] => { results := [.lit (.bool true)], args := [d1, d2, d3] }
  | _ => none }
def pageRightsRow : OpenClaim := { program := "ytpcfjoieinobpaa", sum := "6b5f4b0245272186f0f9b872aea9347742f07dfe53b0abf68e99c027f5b62e6f", func := "gharry/gharrylaw05.PageRights", spec := "pageRights", inPlace := ["internal/bytealg.abigen_runtime_cmpstring"], unfollowed := true, recurses := true, apart := false }
def PageRightsSaid : Prop := pageRightsRow.holds Try.pinned (OpenSpec.ofChange pageRightsSpec)

/-- ITS FALSE NEIGHBOUR: 'it returns false'. Refute it at one input. -/
def pageRightsWrong : ChangeSpec := { name := "pageRights", fn := fun _ => fun
  | [d1, d2, d3] => { results := [.lit (.bool false)], args := [d1, d2, d3] }
  | _ => none }
def PageRightsWrongFalsely : Prop := pageRightsRow.holds Try.pinned (OpenSpec.ofChange pageRightsWrong)

/-- 'gharrylaw05.PagePlays': WHATEVER THE INPUT: true; the input reads as it did. -/
def pagePlaysSpec : ChangeSpec := { name := "pagePlays", fn := fun _ => fun
  | [d] => { results := [.lit (.bool true)], args := [d] }
  | _ => none }
def pagePlaysRow : OpenClaim := { program := "ytpcfjoieinobpaa", sum := "6b5f4b0245272186f0f9b872aea9347742f07dfe53b0abf68e99c027f5b62e6f", func := "gharry/gharrylaw05.PagePlays", spec := "pagePlays", inPlace := ["internal/bytealg.abigen_runtime_cmpstring"], unfollowed := true, recurses := true, apart := false }
def PagePlaysSaid : Prop := pagePlaysRow.holds Try.pinned (OpenSpec.ofChange pagePlaysSpec)

/-- ITS FALSE NEIGHBOUR: 'it returns false'. Refute it at one input. -/
def pagePlaysWrong : ChangeSpec := { name := "pagePlays", fn := fun _ => fun
  | [d] => { results := [.lit (.bool false)], args := [d] }
  | _ => none }
def PagePlaysWrongFalsely : Prop := pagePlaysRow.holds Try.pinned (OpenSpec.ofChange pagePlaysWrong)

/- THE SECOND FORM. 'bulk': how many values and letters a reading holds, each counted each time it is reached (what is shared counts as often as it is met; a slice's spare places count too). A statement '..UptoSaid' is the law's where the arguments, and the package variables that the reading takes, are together of bulk at most 1048576: NARROWER than '..Said'. Prove '..Said' where nothing that the law and all that it calls make is longer than what came in: it says more and counts as full. Else prove '..UptoSaid'. A law counts once. -/
mutual
def uptoBulk {H : Type} : DataW H → Nat
  | .lit (.string bytes) => bytes.length + 1
  | .lit _ => 1
  | .nil => 1
  | .ptr d => uptoBulk d + 1
  | .slice elems spare => uptoBulkAll elems + uptoBulkAll spare + 1
  | .agg parts => uptoBulkAll parts + 1
  | .iface _ d => uptoBulk d + 1
  | .map entries => uptoBulkEntries entries + 1
  | .held _ => 1
def uptoBulkAll {H : Type} : List (DataW H) → Nat
  | [] => 0
  | d :: r => uptoBulk d + uptoBulkAll r
def uptoBulkEntries {H : Type} : List (Lit × DataW H) → Nat
  | [] => 0
  | x :: r => uptoBulkEntry x + uptoBulkEntries r
def uptoBulkEntry {H : Type} : Lit × DataW H → Nat
  | (.string bytes, d) => bytes.length + uptoBulk d + 1
  | (_, d) => uptoBulk d + 1
 end
def uptoSmall : (H : Type) → List (DataW H) → Bool := fun _ ds => decide (uptoBulkAll ds ≤ 1048576)
def OpenSpec.upto (s : _root_.Go.ChangeSpec) : _root_.Go.OpenSpec := { _root_.Go.OpenSpec.ofChange s with cond := some uptoSmall }

/-- 'gharrylaw09.BasePlans', WHERE WHAT IT READS IS OF BULK AT MOST 1048576: true; the input reads as it did. -/
def basePlansUptoRow : OpenClaim := { program := "ytpcfjoieinobpaa", sum := "6b5f4b0245272186f0f9b872aea9347742f07dfe53b0abf68e99c027f5b62e6f", func := "gharry/gharrylaw09.BasePlans", spec := "basePlans", apart := false, narrowed := true }
def BasePlansUptoSaid : Prop := basePlansUptoRow.holds Try.pinned (OpenSpec.upto basePlansSpec)

/-- 'gharrylaw12.LockRights', WHERE WHAT IT READS IS OF BULK AT MOST 1048576: true; the input reads as it did. -/
def lockRightsUptoRow : OpenClaim := { program := "ytpcfjoieinobpaa", sum := "6b5f4b0245272186f0f9b872aea9347742f07dfe53b0abf68e99c027f5b62e6f", func := "gharry/gharrylaw12.LockRights", spec := "lockRights", unfollowed := true, recurses := true, apart := false, narrowed := true }
def LockRightsUptoSaid : Prop := lockRightsUptoRow.holds Try.pinned (OpenSpec.upto lockRightsSpec)

/-- 'gharrylaw12.LockMeets', WHERE WHAT IT READS IS OF BULK AT MOST 1048576: true; the input reads as it did. -/
def lockMeetsUptoRow : OpenClaim := { program := "ytpcfjoieinobpaa", sum := "6b5f4b0245272186f0f9b872aea9347742f07dfe53b0abf68e99c027f5b62e6f", func := "gharry/gharrylaw12.LockMeets", spec := "lockMeets", unfollowed := true, recurses := true, apart := false, narrowed := true }
def LockMeetsUptoSaid : Prop := lockMeetsUptoRow.holds Try.pinned (OpenSpec.upto lockMeetsSpec)

/-- 'gharrylaw12.LockApart', WHERE WHAT IT READS IS OF BULK AT MOST 1048576: true; the input reads as it did. -/
def lockApartUptoRow : OpenClaim := { program := "ytpcfjoieinobpaa", sum := "6b5f4b0245272186f0f9b872aea9347742f07dfe53b0abf68e99c027f5b62e6f", func := "gharry/gharrylaw12.LockApart", spec := "lockApart", unfollowed := true, recurses := true, apart := false, narrowed := true }
def LockApartUptoSaid : Prop := lockApartUptoRow.holds Try.pinned (OpenSpec.upto lockApartSpec)

/-- 'gharrylaw12.LockPlays', WHERE WHAT IT READS IS OF BULK AT MOST 1048576: true; the input reads as it did. -/
def lockPlaysUptoRow : OpenClaim := { program := "ytpcfjoieinobpaa", sum := "6b5f4b0245272186f0f9b872aea9347742f07dfe53b0abf68e99c027f5b62e6f", func := "gharry/gharrylaw12.LockPlays", spec := "lockPlays", unfollowed := true, recurses := true, apart := false, narrowed := true }
def LockPlaysUptoSaid : Prop := lockPlaysUptoRow.holds Try.pinned (OpenSpec.upto lockPlaysSpec)

/-- 'gharrylaw12.LockNobody', WHERE WHAT IT READS IS OF BULK AT MOST 1048576: true; the input reads as it did. -/
def lockNobodyUptoRow : OpenClaim := { program := "ytpcfjoieinobpaa", sum := "6b5f4b0245272186f0f9b872aea9347742f07dfe53b0abf68e99c027f5b62e6f", func := "gharry/gharrylaw12.LockNobody", spec := "lockNobody", unfollowed := true, recurses := true, apart := false, narrowed := true }
def LockNobodyUptoSaid : Prop := lockNobodyUptoRow.holds Try.pinned (OpenSpec.upto lockNobodySpec)

/-- 'gharrylaw05.PageNeeds', WHERE WHAT IT READS IS OF BULK AT MOST 1048576: true; the input reads as it did. -/
def pageNeedsUptoRow : OpenClaim := { program := "ytpcfjoieinobpaa", sum := "6b5f4b0245272186f0f9b872aea9347742f07dfe53b0abf68e99c027f5b62e6f", func := "gharry/gharrylaw05.PageNeeds", spec := "pageNeeds", apart := false, narrowed := true }
def PageNeedsUptoSaid : Prop := pageNeedsUptoRow.holds Try.pinned (OpenSpec.upto pageNeedsSpec)

/-- 'gharrylaw05.PageMakes', WHERE WHAT IT READS IS OF BULK AT MOST 1048576: true; the input reads as it did. -/
def pageMakesUptoRow : OpenClaim := { program := "ytpcfjoieinobpaa", sum := "6b5f4b0245272186f0f9b872aea9347742f07dfe53b0abf68e99c027f5b62e6f", func := "gharry/gharrylaw05.PageMakes", spec := "pageMakes", apart := false, narrowed := true }
def PageMakesUptoSaid : Prop := pageMakesUptoRow.holds Try.pinned (OpenSpec.upto pageMakesSpec)

/-- 'gharrylaw05.PageHalves', WHERE WHAT IT READS IS OF BULK AT MOST 1048576: true; the input reads as it did. -/
def pageHalvesUptoRow : OpenClaim := { program := "ytpcfjoieinobpaa", sum := "6b5f4b0245272186f0f9b872aea9347742f07dfe53b0abf68e99c027f5b62e6f", func := "gharry/gharrylaw05.PageHalves", spec := "pageHalves", apart := false, narrowed := true }
def PageHalvesUptoSaid : Prop := pageHalvesUptoRow.holds Try.pinned (OpenSpec.upto pageHalvesSpec)

/-- 'gharrylaw05.PageDeletes', WHERE WHAT IT READS IS OF BULK AT MOST 1048576: true; the input reads as it did. -/
def pageDeletesUptoRow : OpenClaim := { program := "ytpcfjoieinobpaa", sum := "6b5f4b0245272186f0f9b872aea9347742f07dfe53b0abf68e99c027f5b62e6f", func := "gharry/gharrylaw05.PageDeletes", spec := "pageDeletes", inPlace := ["internal/bytealg.abigen_runtime_cmpstring"], unfollowed := true, recurses := true, apart := false, narrowed := true }
def PageDeletesUptoSaid : Prop := pageDeletesUptoRow.holds Try.pinned (OpenSpec.upto pageDeletesSpec)

/-- 'gharrylaw05.PageRights', WHERE WHAT IT READS IS OF BULK AT MOST 1048576: true; the input reads as it did. -/
def pageRightsUptoRow : OpenClaim := { program := "ytpcfjoieinobpaa", sum := "6b5f4b0245272186f0f9b872aea9347742f07dfe53b0abf68e99c027f5b62e6f", func := "gharry/gharrylaw05.PageRights", spec := "pageRights", inPlace := ["internal/bytealg.abigen_runtime_cmpstring"], unfollowed := true, recurses := true, apart := false, narrowed := true }
def PageRightsUptoSaid : Prop := pageRightsUptoRow.holds Try.pinned (OpenSpec.upto pageRightsSpec)

/-- 'gharrylaw05.PagePlays', WHERE WHAT IT READS IS OF BULK AT MOST 1048576: true; the input reads as it did. -/
def pagePlaysUptoRow : OpenClaim := { program := "ytpcfjoieinobpaa", sum := "6b5f4b0245272186f0f9b872aea9347742f07dfe53b0abf68e99c027f5b62e6f", func := "gharry/gharrylaw05.PagePlays", spec := "pagePlays", inPlace := ["internal/bytealg.abigen_runtime_cmpstring"], unfollowed := true, recurses := true, apart := false, narrowed := true }
def PagePlaysUptoSaid : Prop := pagePlaysUptoRow.holds Try.pinned (OpenSpec.upto pagePlaysSpec)

end Rows
end Go.Proofs.Ytpcfjoieinobpaa
