/-
  No cell of these rows narrows 'for every input' (looked for: loops, veiled, ifaces, maps, wideKeys, modest, calm, conditions, laid).
  DERIVED. THE GIVEN ROWS OF THIS SEAT. 21 by the template 'for every input the law returns true; each argument reads behind the call as it read before'; 0 by the template 'total and deterministic' (their statements: YtpadmllpdkknnaaTotals.lean).
  GIVEN WITH THE SEED: the statements are not yours to turn. If you find one false, say at which input.
  Laid BY PROGRAM, IN A SANDBOX (cutbox-rows.mjs): the forced cells as the released guide's own fill.sh prints them over the translation e862de49af8987f1… (all of the seat's roots in one cut). By AI agents, Wed Nov 11 2026. No macro, syntax, notation, axiom, sorry.
-/
import Derived.Test.YtpadmllpdkknnaaChecked
import GoSem.Claim
import GoSem.ClaimJoined
import GoSem.ClaimMapViews
import Derived.JoinedTies
import Derived.KernelRfl
namespace Go.Proofs.Ytpadmllpdkknnaa
/- THE CELL 'sum', in the pinned program and in every row, IS THE sha256 OF THE DUMP (.gsa) THAT YtpadmllpdkknnaaProg.lean LOADS. Nothing in Lean hashes anything: it is a label: what it is worth is what the hold of that sum in a sandbox is worth. -/
noncomputable def Try.pinned : Pinned := { name := "ytpadmllpdkknnaa", sum := "e862de49af8987f1d53b27507c9d833555357f9bf8b33ed8bd928f0dc0636e6c", checked := Try.checked }
namespace Rows
def none {H : Type} : Left H := { results := [], args := [] }

/-- 'gharrylaw03.DiskMost': WHATEVER THE INPUT: true; the input reads as it did. -/
def diskMostSpec : ChangeSpec := { name := "diskMost", fn := fun _ => fun
  | [d] => { results := [.lit (.bool true)], args := [d] }
  | _ => none }
def diskMostRow : OpenClaim := { program := "ytpadmllpdkknnaa", sum := "e862de49af8987f1d53b27507c9d833555357f9bf8b33ed8bd928f0dc0636e6c", func := "gharry/gharrylaw03.DiskMost", spec := "diskMost", inPlace := ["internal/abi.NoEscape", "internal/bytealg.MakeNoZero"], recurses := true, apart := false }
def DiskMostSaid : Prop := diskMostRow.holds Try.pinned (OpenSpec.ofChange diskMostSpec)

/-- ITS FALSE NEIGHBOUR: 'it returns false'. Refute it at one input. -/
def diskMostWrong : ChangeSpec := { name := "diskMost", fn := fun _ => fun
  | [d] => { results := [.lit (.bool false)], args := [d] }
  | _ => none }
def DiskMostWrongFalsely : Prop := diskMostRow.holds Try.pinned (OpenSpec.ofChange diskMostWrong)

/-- 'gharrylaw03.DiskLasts': WHATEVER THE INPUT: true; the input reads as it did. -/
def diskLastsSpec : ChangeSpec := { name := "diskLasts", fn := fun _ => fun
  | [d1, d2, d3] => { results := [.lit (.bool true)], args := [d1, d2, d3] }
  | _ => none }
def diskLastsRow : OpenClaim := { program := "ytpadmllpdkknnaa", sum := "e862de49af8987f1d53b27507c9d833555357f9bf8b33ed8bd928f0dc0636e6c", func := "gharry/gharrylaw03.DiskLasts", spec := "diskLasts", inPlace := ["internal/abi.NoEscape", "internal/bytealg.MakeNoZero"], recurses := true, apart := false }
def DiskLastsSaid : Prop := diskLastsRow.holds Try.pinned (OpenSpec.ofChange diskLastsSpec)

/-- ITS FALSE NEIGHBOUR: 'it returns false'. Refute it at one input. -/
def diskLastsWrong : ChangeSpec := { name := "diskLasts", fn := fun _ => fun
  | [d1, d2, d3] => { results := [.lit (.bool false)], args := [d1, d2, d3] }
  | _ => none }
def DiskLastsWrongFalsely : Prop := diskLastsRow.holds Try.pinned (OpenSpec.ofChange diskLastsWrong)

/-- 'gharrylaw09.BaseLoads': WHATEVER THE INPUT: true; the input reads as it did. -/
def baseLoadsSpec : ChangeSpec := { name := "baseLoads", fn := fun _ => fun
  | [d] => { results := [.lit (.bool true)], args := [d] }
  | _ => none }
def baseLoadsRow : OpenClaim := { program := "ytpadmllpdkknnaa", sum := "e862de49af8987f1d53b27507c9d833555357f9bf8b33ed8bd928f0dc0636e6c", func := "gharry/gharrylaw09.BaseLoads", spec := "baseLoads", inPlace := ["internal/abi.NoEscape", "internal/bytealg.MakeNoZero"], recurses := true, apart := false }
def BaseLoadsSaid : Prop := baseLoadsRow.holds Try.pinned (OpenSpec.ofChange baseLoadsSpec)

/-- ITS FALSE NEIGHBOUR: 'it returns false'. Refute it at one input. -/
def baseLoadsWrong : ChangeSpec := { name := "baseLoads", fn := fun _ => fun
  | [d] => { results := [.lit (.bool false)], args := [d] }
  | _ => none }
def BaseLoadsWrongFalsely : Prop := baseLoadsRow.holds Try.pinned (OpenSpec.ofChange baseLoadsWrong)

/-- 'gharrylaw03.DiskPlays': WHATEVER THE INPUT: true; the input reads as it did. -/
def diskPlaysSpec : ChangeSpec := { name := "diskPlays", fn := fun _ => fun
  | [d1, d2] => { results := [.lit (.bool true)], args := [d1, d2] }
  | _ => none }
def diskPlaysRow : OpenClaim := { program := "ytpadmllpdkknnaa", sum := "e862de49af8987f1d53b27507c9d833555357f9bf8b33ed8bd928f0dc0636e6c", func := "gharry/gharrylaw03.DiskPlays", spec := "diskPlays", inPlace := ["internal/abi.NoEscape", "internal/bytealg.MakeNoZero"], recurses := true, apart := false }
def DiskPlaysSaid : Prop := diskPlaysRow.holds Try.pinned (OpenSpec.ofChange diskPlaysSpec)

/-- ITS FALSE NEIGHBOUR: 'it returns false'. Refute it at one input. -/
def diskPlaysWrong : ChangeSpec := { name := "diskPlays", fn := fun _ => fun
  | [d1, d2] => { results := [.lit (.bool false)], args := [d1, d2] }
  | _ => none }
def DiskPlaysWrongFalsely : Prop := diskPlaysRow.holds Try.pinned (OpenSpec.ofChange diskPlaysWrong)

/-- 'gharrylaw03.DiskNobody': WHATEVER THE INPUT: true; the input reads as it did. -/
def diskNobodySpec : ChangeSpec := { name := "diskNobody", fn := fun _ => fun
  | [d1, d2, d3] => { results := [.lit (.bool true)], args := [d1, d2, d3] }
  | _ => none }
def diskNobodyRow : OpenClaim := { program := "ytpadmllpdkknnaa", sum := "e862de49af8987f1d53b27507c9d833555357f9bf8b33ed8bd928f0dc0636e6c", func := "gharry/gharrylaw03.DiskNobody", spec := "diskNobody", inPlace := ["internal/abi.NoEscape", "internal/bytealg.MakeNoZero"], recurses := true, apart := false }
def DiskNobodySaid : Prop := diskNobodyRow.holds Try.pinned (OpenSpec.ofChange diskNobodySpec)

/-- ITS FALSE NEIGHBOUR: 'it returns false'. Refute it at one input. -/
def diskNobodyWrong : ChangeSpec := { name := "diskNobody", fn := fun _ => fun
  | [d1, d2, d3] => { results := [.lit (.bool false)], args := [d1, d2, d3] }
  | _ => none }
def DiskNobodyWrongFalsely : Prop := diskNobodyRow.holds Try.pinned (OpenSpec.ofChange diskNobodyWrong)

/-- 'gharrylaw09.BaseSaves': WHATEVER THE INPUT: true; the input reads as it did. -/
def baseSavesSpec : ChangeSpec := { name := "baseSaves", fn := fun _ => fun
  | [d] => { results := [.lit (.bool true)], args := [d] }
  | _ => none }
def baseSavesRow : OpenClaim := { program := "ytpadmllpdkknnaa", sum := "e862de49af8987f1d53b27507c9d833555357f9bf8b33ed8bd928f0dc0636e6c", func := "gharry/gharrylaw09.BaseSaves", spec := "baseSaves", inPlace := ["internal/abi.NoEscape", "internal/bytealg.MakeNoZero"], unfollowed := true, recurses := true, apart := false }
def BaseSavesSaid : Prop := baseSavesRow.holds Try.pinned (OpenSpec.ofChange baseSavesSpec)

/-- ITS FALSE NEIGHBOUR: 'it returns false'. Refute it at one input. -/
def baseSavesWrong : ChangeSpec := { name := "baseSaves", fn := fun _ => fun
  | [d] => { results := [.lit (.bool false)], args := [d] }
  | _ => none }
def BaseSavesWrongFalsely : Prop := baseSavesRow.holds Try.pinned (OpenSpec.ofChange baseSavesWrong)

/-- 'gharrylaw06.StoreLasts': WHATEVER THE INPUT: true; the input reads as it did. -/
def storeLastsSpec : ChangeSpec := { name := "storeLasts", fn := fun _ => fun
  | [d1, d2, d3] => { results := [.lit (.bool true)], args := [d1, d2, d3] }
  | _ => none }
def storeLastsRow : OpenClaim := { program := "ytpadmllpdkknnaa", sum := "e862de49af8987f1d53b27507c9d833555357f9bf8b33ed8bd928f0dc0636e6c", func := "gharry/gharrylaw06.StoreLasts", spec := "storeLasts", inPlace := ["internal/abi.NoEscape", "internal/bytealg.MakeNoZero"], recurses := true, apart := false }
def StoreLastsSaid : Prop := storeLastsRow.holds Try.pinned (OpenSpec.ofChange storeLastsSpec)

/-- ITS FALSE NEIGHBOUR: 'it returns false'. Refute it at one input. -/
def storeLastsWrong : ChangeSpec := { name := "storeLasts", fn := fun _ => fun
  | [d1, d2, d3] => { results := [.lit (.bool false)], args := [d1, d2, d3] }
  | _ => none }
def StoreLastsWrongFalsely : Prop := storeLastsRow.holds Try.pinned (OpenSpec.ofChange storeLastsWrong)

/-- 'gharrylaw06.StoreGens': WHATEVER THE INPUT: true; the input reads as it did. -/
def storeGensSpec : ChangeSpec := { name := "storeGens", fn := fun _ => fun
  | [d1, d2, d3, d4] => { results := [.lit (.bool true)], args := [d1, d2, d3, d4] }
  | _ => none }
def storeGensRow : OpenClaim := { program := "ytpadmllpdkknnaa", sum := "e862de49af8987f1d53b27507c9d833555357f9bf8b33ed8bd928f0dc0636e6c", func := "gharry/gharrylaw06.StoreGens", spec := "storeGens", inPlace := ["internal/abi.NoEscape", "internal/bytealg.MakeNoZero"], recurses := true, apart := false }
def StoreGensSaid : Prop := storeGensRow.holds Try.pinned (OpenSpec.ofChange storeGensSpec)

/-- ITS FALSE NEIGHBOUR: 'it returns false'. Refute it at one input. -/
def storeGensWrong : ChangeSpec := { name := "storeGens", fn := fun _ => fun
  | [d1, d2, d3, d4] => { results := [.lit (.bool false)], args := [d1, d2, d3, d4] }
  | _ => none }
def StoreGensWrongFalsely : Prop := storeGensRow.holds Try.pinned (OpenSpec.ofChange storeGensWrong)

/-- 'gharrylaw06.StoreWrites': WHATEVER THE INPUT: true; the input reads as it did. -/
def storeWritesSpec : ChangeSpec := { name := "storeWrites", fn := fun _ => fun
  | [d1, d2, d3, d4] => { results := [.lit (.bool true)], args := [d1, d2, d3, d4] }
  | _ => none }
def storeWritesRow : OpenClaim := { program := "ytpadmllpdkknnaa", sum := "e862de49af8987f1d53b27507c9d833555357f9bf8b33ed8bd928f0dc0636e6c", func := "gharry/gharrylaw06.StoreWrites", spec := "storeWrites", inPlace := ["internal/abi.NoEscape", "internal/bytealg.MakeNoZero"], recurses := true, apart := false }
def StoreWritesSaid : Prop := storeWritesRow.holds Try.pinned (OpenSpec.ofChange storeWritesSpec)

/-- ITS FALSE NEIGHBOUR: 'it returns false'. Refute it at one input. -/
def storeWritesWrong : ChangeSpec := { name := "storeWrites", fn := fun _ => fun
  | [d1, d2, d3, d4] => { results := [.lit (.bool false)], args := [d1, d2, d3, d4] }
  | _ => none }
def StoreWritesWrongFalsely : Prop := storeWritesRow.holds Try.pinned (OpenSpec.ofChange storeWritesWrong)

/-- 'gharrylaw06.StoreReads': WHATEVER THE INPUT: true; the input reads as it did. -/
def storeReadsSpec : ChangeSpec := { name := "storeReads", fn := fun _ => fun
  | [d1, d2, d3] => { results := [.lit (.bool true)], args := [d1, d2, d3] }
  | _ => none }
def storeReadsRow : OpenClaim := { program := "ytpadmllpdkknnaa", sum := "e862de49af8987f1d53b27507c9d833555357f9bf8b33ed8bd928f0dc0636e6c", func := "gharry/gharrylaw06.StoreReads", spec := "storeReads", inPlace := ["internal/abi.NoEscape", "internal/bytealg.MakeNoZero"], recurses := true, apart := false }
def StoreReadsSaid : Prop := storeReadsRow.holds Try.pinned (OpenSpec.ofChange storeReadsSpec)

/-- ITS FALSE NEIGHBOUR: 'it returns false'. Refute it at one input. -/
def storeReadsWrong : ChangeSpec := { name := "storeReads", fn := fun _ => fun
  | [d1, d2, d3] => { results := [.lit (.bool false)], args := [d1, d2, d3] }
  | _ => none }
def StoreReadsWrongFalsely : Prop := storeReadsRow.holds Try.pinned (OpenSpec.ofChange storeReadsWrong)

/-- 'gharrylaw09.BaseEither': WHATEVER THE INPUT: true; the input reads as it did. -/
def baseEitherSpec : ChangeSpec := { name := "baseEither", fn := fun _ => fun
  | [d1, d2, d3, d4] => { results := [.lit (.bool true)], args := [d1, d2, d3, d4] }
  | _ => none }
def baseEitherRow : OpenClaim := { program := "ytpadmllpdkknnaa", sum := "e862de49af8987f1d53b27507c9d833555357f9bf8b33ed8bd928f0dc0636e6c", func := "gharry/gharrylaw09.BaseEither", spec := "baseEither", inPlace := ["internal/abi.NoEscape", "internal/bytealg.MakeNoZero"], unfollowed := true, recurses := true, apart := false }
def BaseEitherSaid : Prop := baseEitherRow.holds Try.pinned (OpenSpec.ofChange baseEitherSpec)

/-- ITS FALSE NEIGHBOUR: 'it returns false'. Refute it at one input. -/
def baseEitherWrong : ChangeSpec := { name := "baseEither", fn := fun _ => fun
  | [d1, d2, d3, d4] => { results := [.lit (.bool false)], args := [d1, d2, d3, d4] }
  | _ => none }
def BaseEitherWrongFalsely : Prop := baseEitherRow.holds Try.pinned (OpenSpec.ofChange baseEitherWrong)

/-- 'gharrylaw18.ArbiterOne': WHATEVER THE INPUT: true; the input reads as it did. -/
def arbiterOneSpec : ChangeSpec := { name := "arbiterOne", fn := fun _ => fun
  | [d] => { results := [.lit (.bool true)], args := [d] }
  | _ => none }
def arbiterOneRow : OpenClaim := { program := "ytpadmllpdkknnaa", sum := "e862de49af8987f1d53b27507c9d833555357f9bf8b33ed8bd928f0dc0636e6c", func := "gharry/gharrylaw18.ArbiterOne", spec := "arbiterOne", inPlace := ["internal/abi.NoEscape", "internal/bytealg.MakeNoZero"], unfollowed := true, recurses := true, apart := false }
def ArbiterOneSaid : Prop := arbiterOneRow.holds Try.pinned (OpenSpec.ofChange arbiterOneSpec)

/-- ITS FALSE NEIGHBOUR: 'it returns false'. Refute it at one input. -/
def arbiterOneWrong : ChangeSpec := { name := "arbiterOne", fn := fun _ => fun
  | [d] => { results := [.lit (.bool false)], args := [d] }
  | _ => none }
def ArbiterOneWrongFalsely : Prop := arbiterOneRow.holds Try.pinned (OpenSpec.ofChange arbiterOneWrong)

/-- 'gharrylaw18.ArbiterLast': WHATEVER THE INPUT: true; the input reads as it did. -/
def arbiterLastSpec : ChangeSpec := { name := "arbiterLast", fn := fun _ => fun
  | [d1, d2] => { results := [.lit (.bool true)], args := [d1, d2] }
  | _ => none }
def arbiterLastRow : OpenClaim := { program := "ytpadmllpdkknnaa", sum := "e862de49af8987f1d53b27507c9d833555357f9bf8b33ed8bd928f0dc0636e6c", func := "gharry/gharrylaw18.ArbiterLast", spec := "arbiterLast", inPlace := ["internal/abi.NoEscape", "internal/bytealg.MakeNoZero"], unfollowed := true, recurses := true, apart := false }
def ArbiterLastSaid : Prop := arbiterLastRow.holds Try.pinned (OpenSpec.ofChange arbiterLastSpec)

/-- ITS FALSE NEIGHBOUR: 'it returns false'. Refute it at one input. -/
def arbiterLastWrong : ChangeSpec := { name := "arbiterLast", fn := fun _ => fun
  | [d1, d2] => { results := [.lit (.bool false)], args := [d1, d2] }
  | _ => none }
def ArbiterLastWrongFalsely : Prop := arbiterLastRow.holds Try.pinned (OpenSpec.ofChange arbiterLastWrong)

/-- 'gharrylaw06.StoreNews': WHATEVER THE INPUT: true; the input reads as it did. -/
def storeNewsSpec : ChangeSpec := { name := "storeNews", fn := fun _ => fun
  | [d1, d2, d3, d4] => { results := [.lit (.bool true)], args := [d1, d2, d3, d4] }
  | _ => none }
def storeNewsRow : OpenClaim := { program := "ytpadmllpdkknnaa", sum := "e862de49af8987f1d53b27507c9d833555357f9bf8b33ed8bd928f0dc0636e6c", func := "gharry/gharrylaw06.StoreNews", spec := "storeNews", inPlace := ["internal/abi.NoEscape", "internal/bytealg.MakeNoZero"], recurses := true, apart := false }
def StoreNewsSaid : Prop := storeNewsRow.holds Try.pinned (OpenSpec.ofChange storeNewsSpec)

/-- ITS FALSE NEIGHBOUR: 'it returns false'. Refute it at one input. -/
def storeNewsWrong : ChangeSpec := { name := "storeNews", fn := fun _ => fun
  | [d1, d2, d3, d4] => { results := [.lit (.bool false)], args := [d1, d2, d3, d4] }
  | _ => none }
def StoreNewsWrongFalsely : Prop := storeNewsRow.holds Try.pinned (OpenSpec.ofChange storeNewsWrong)

/-- 'gharrylaw06.StoreWhole': WHATEVER THE INPUT: true; the input reads as it did. -/
def storeWholeSpec : ChangeSpec := { name := "storeWhole", fn := fun _ => fun
  | [d1, d2, d3] => { results := [.lit (.bool true)], args := [d1, d2, d3] }
  | _ => none }
def storeWholeRow : OpenClaim := { program := "ytpadmllpdkknnaa", sum := "e862de49af8987f1d53b27507c9d833555357f9bf8b33ed8bd928f0dc0636e6c", func := "gharry/gharrylaw06.StoreWhole", spec := "storeWhole", inPlace := ["internal/abi.NoEscape", "internal/bytealg.MakeNoZero"], recurses := true, apart := false }
def StoreWholeSaid : Prop := storeWholeRow.holds Try.pinned (OpenSpec.ofChange storeWholeSpec)

/-- ITS FALSE NEIGHBOUR: 'it returns false'. Refute it at one input. -/
def storeWholeWrong : ChangeSpec := { name := "storeWhole", fn := fun _ => fun
  | [d1, d2, d3] => { results := [.lit (.bool false)], args := [d1, d2, d3] }
  | _ => none }
def StoreWholeWrongFalsely : Prop := storeWholeRow.holds Try.pinned (OpenSpec.ofChange storeWholeWrong)

/-- 'gharrylaw06.StoreNobody': WHATEVER THE INPUT: true; the input reads as it did. -/
def storeNobodySpec : ChangeSpec := { name := "storeNobody", fn := fun _ => fun
  | [d1, d2] => { results := [.lit (.bool true)], args := [d1, d2] }
  | _ => none }
def storeNobodyRow : OpenClaim := { program := "ytpadmllpdkknnaa", sum := "e862de49af8987f1d53b27507c9d833555357f9bf8b33ed8bd928f0dc0636e6c", func := "gharry/gharrylaw06.StoreNobody", spec := "storeNobody", inPlace := ["internal/abi.NoEscape", "internal/bytealg.MakeNoZero"], recurses := true, apart := false }
def StoreNobodySaid : Prop := storeNobodyRow.holds Try.pinned (OpenSpec.ofChange storeNobodySpec)

/-- ITS FALSE NEIGHBOUR: 'it returns false'. Refute it at one input. -/
def storeNobodyWrong : ChangeSpec := { name := "storeNobody", fn := fun _ => fun
  | [d1, d2] => { results := [.lit (.bool false)], args := [d1, d2] }
  | _ => none }
def StoreNobodyWrongFalsely : Prop := storeNobodyRow.holds Try.pinned (OpenSpec.ofChange storeNobodyWrong)

/-- 'gharrylaw09.BaseStarts': WHATEVER THE INPUT: true; the input reads as it did. -/
def baseStartsSpec : ChangeSpec := { name := "baseStarts", fn := fun _ => fun
  | [d1, d2, d3] => { results := [.lit (.bool true)], args := [d1, d2, d3] }
  | _ => none }
def baseStartsRow : OpenClaim := { program := "ytpadmllpdkknnaa", sum := "e862de49af8987f1d53b27507c9d833555357f9bf8b33ed8bd928f0dc0636e6c", func := "gharry/gharrylaw09.BaseStarts", spec := "baseStarts", inPlace := ["internal/abi.NoEscape", "internal/bytealg.MakeNoZero"], unfollowed := true, recurses := true, apart := false }
def BaseStartsSaid : Prop := baseStartsRow.holds Try.pinned (OpenSpec.ofChange baseStartsSpec)

/-- ITS FALSE NEIGHBOUR: 'it returns false'. Refute it at one input. -/
def baseStartsWrong : ChangeSpec := { name := "baseStarts", fn := fun _ => fun
  | [d1, d2, d3] => { results := [.lit (.bool false)], args := [d1, d2, d3] }
  | _ => none }
def BaseStartsWrongFalsely : Prop := baseStartsRow.holds Try.pinned (OpenSpec.ofChange baseStartsWrong)

/-- 'gharrylaw18.ArbiterStarts': WHATEVER THE INPUT: true; the input reads as it did. -/
def arbiterStartsSpec : ChangeSpec := { name := "arbiterStarts", fn := fun _ => fun
  | [d] => { results := [.lit (.bool true)], args := [d] }
  | _ => none }
def arbiterStartsRow : OpenClaim := { program := "ytpadmllpdkknnaa", sum := "e862de49af8987f1d53b27507c9d833555357f9bf8b33ed8bd928f0dc0636e6c", func := "gharry/gharrylaw18.ArbiterStarts", spec := "arbiterStarts", inPlace := ["internal/abi.NoEscape", "internal/bytealg.MakeNoZero"], unfollowed := true, recurses := true, apart := false }
def ArbiterStartsSaid : Prop := arbiterStartsRow.holds Try.pinned (OpenSpec.ofChange arbiterStartsSpec)

/-- ITS FALSE NEIGHBOUR: 'it returns false'. Refute it at one input. -/
def arbiterStartsWrong : ChangeSpec := { name := "arbiterStarts", fn := fun _ => fun
  | [d] => { results := [.lit (.bool false)], args := [d] }
  | _ => none }
def ArbiterStartsWrongFalsely : Prop := arbiterStartsRow.holds Try.pinned (OpenSpec.ofChange arbiterStartsWrong)

/-- 'gharrylaw18.ArbiterFormats': WHATEVER THE INPUT: true; the input reads as it did. -/
def arbiterFormatsSpec : ChangeSpec := { name := "arbiterFormats", fn := fun _ => fun
  | [d1, d2] => { results := [.lit (.bool true)], args := [d1, d2] }
  | _ => none }
def arbiterFormatsRow : OpenClaim := { program := "ytpadmllpdkknnaa", sum := "e862de49af8987f1d53b27507c9d833555357f9bf8b33ed8bd928f0dc0636e6c", func := "gharry/gharrylaw18.ArbiterFormats", spec := "arbiterFormats", inPlace := ["internal/abi.NoEscape", "internal/bytealg.MakeNoZero"], unfollowed := true, recurses := true, apart := false }
def ArbiterFormatsSaid : Prop := arbiterFormatsRow.holds Try.pinned (OpenSpec.ofChange arbiterFormatsSpec)

/-- ITS FALSE NEIGHBOUR: 'it returns false'. Refute it at one input. -/
def arbiterFormatsWrong : ChangeSpec := { name := "arbiterFormats", fn := fun _ => fun
  | [d1, d2] => { results := [.lit (.bool false)], args := [d1, d2] }
  | _ => none }
def ArbiterFormatsWrongFalsely : Prop := arbiterFormatsRow.holds Try.pinned (OpenSpec.ofChange arbiterFormatsWrong)

/-- 'gharrylaw18.ArbiterNobody': WHATEVER THE INPUT: true; the input reads as it did. -/
def arbiterNobodySpec : ChangeSpec := { name := "arbiterNobody", fn := fun _ => fun
  | [d1, d2] => { results := [.lit (.bool true)], args := [d1, d2] }
  | _ => none }
def arbiterNobodyRow : OpenClaim := { program := "ytpadmllpdkknnaa", sum := "e862de49af8987f1d53b27507c9d833555357f9bf8b33ed8bd928f0dc0636e6c", func := "gharry/gharrylaw18.ArbiterNobody", spec := "arbiterNobody", inPlace := ["internal/abi.NoEscape", "internal/bytealg.MakeNoZero"], unfollowed := true, recurses := true, apart := false }
def ArbiterNobodySaid : Prop := arbiterNobodyRow.holds Try.pinned (OpenSpec.ofChange arbiterNobodySpec)

/-- ITS FALSE NEIGHBOUR: 'it returns false'. Refute it at one input. -/
def arbiterNobodyWrong : ChangeSpec := { name := "arbiterNobody", fn := fun _ => fun
  | [d1, d2] => { results := [.lit (.bool false)], args := [d1, d2] }
  | _ => none }
def ArbiterNobodyWrongFalsely : Prop := arbiterNobodyRow.holds Try.pinned (OpenSpec.ofChange arbiterNobodyWrong)

/-- 'gharrylaw18.ArbiterGrants': WHATEVER THE INPUT: true; the input reads as it did. -/
def arbiterGrantsSpec : ChangeSpec := { name := "arbiterGrants", fn := fun _ => fun
  | [d1, d2, d3] => { results := [.lit (.bool true)], args := [d1, d2, d3] }
  | _ => none }
def arbiterGrantsRow : OpenClaim := { program := "ytpadmllpdkknnaa", sum := "e862de49af8987f1d53b27507c9d833555357f9bf8b33ed8bd928f0dc0636e6c", func := "gharry/gharrylaw18.ArbiterGrants", spec := "arbiterGrants", inPlace := ["internal/abi.NoEscape", "internal/bytealg.MakeNoZero"], unfollowed := true, recurses := true, apart := false }
def ArbiterGrantsSaid : Prop := arbiterGrantsRow.holds Try.pinned (OpenSpec.ofChange arbiterGrantsSpec)

/-- ITS FALSE NEIGHBOUR: 'it returns false'. Refute it at one input. -/
def arbiterGrantsWrong : ChangeSpec := { name := "arbiterGrants", fn := fun _ => fun
  | [d1, d2, d3] => { results := [.lit (.bool false)], args := [d1, d2, d3] }
  | _ => none }
def ArbiterGrantsWrongFalsely : Prop := arbiterGrantsRow.holds Try.pinned (OpenSpec.ofChange arbiterGrantsWrong)

/- THE SECOND FORM. 'bulk': how many values and letters a reading holds, each counted each time it is reached (what is shared counts as often as it is met; a slice's spare places count too). A statement '..UptoSaid' is the law's where the arguments, and the package variables that the reading takes, are together of bulk at most 1048576: NARROWER than '..Said'. Prove '..Said' where nothing that the law and all that it calls make is longer than what came in: it says more and counts as full. Else prove '..UptoSaid'. A law counts once. -/
mutual
def uptoBulk {H : Type} : DataW H → Nat
  | .lit (.string bytes) => bytes.length + 1
  | .lit _ => 1
  | .nil => 1
  | .ptr d => uptoBulk d + 1
  | .slice elems spare => uptoBulkAll elems + uptoBulkAll spare + 1
  | .agg parts => uptoBulkAll parts + 1
  | .iface _ d => uptoBulk d + 1
  | .map entries => uptoBulkEntries entries + 1
  | .held _ => 1
def uptoBulkAll {H : Type} : List (DataW H) → Nat
  | [] => 0
  | d :: r => uptoBulk d + uptoBulkAll r
def uptoBulkEntries {H : Type} : List (Lit × DataW H) → Nat
  | [] => 0
  | x :: r => uptoBulkEntry x + uptoBulkEntries r
def uptoBulkEntry {H : Type} : Lit × DataW H → Nat
  | (.string bytes, d) => bytes.length + uptoBulk d + 1
  | (_, d) => uptoBulk d + 1
 end
def uptoSmall : (H : Type) → List (DataW H) → Bool := fun _ ds => decide (uptoBulkAll ds ≤ 1048576)
def OpenSpec.upto (s : _root_.Go.ChangeSpec) : _root_.Go.OpenSpec := { _root_.Go.OpenSpec.ofChange s with cond := some uptoSmall }

/-- 'gharrylaw03.DiskMost', WHERE WHAT IT READS IS OF BULK AT MOST 1048576: true; the input reads as it did. -/
def diskMostUptoRow : OpenClaim := { program := "ytpadmllpdkknnaa", sum := "e862de49af8987f1d53b27507c9d833555357f9bf8b33ed8bd928f0dc0636e6c", func := "gharry/gharrylaw03.DiskMost", spec := "diskMost", inPlace := ["internal/abi.NoEscape", "internal/bytealg.MakeNoZero"], recurses := true, apart := false, narrowed := true }
def DiskMostUptoSaid : Prop := diskMostUptoRow.holds Try.pinned (OpenSpec.upto diskMostSpec)

/-- 'gharrylaw03.DiskLasts', WHERE WHAT IT READS IS OF BULK AT MOST 1048576: true; the input reads as it did. -/
def diskLastsUptoRow : OpenClaim := { program := "ytpadmllpdkknnaa", sum := "e862de49af8987f1d53b27507c9d833555357f9bf8b33ed8bd928f0dc0636e6c", func := "gharry/gharrylaw03.DiskLasts", spec := "diskLasts", inPlace := ["internal/abi.NoEscape", "internal/bytealg.MakeNoZero"], recurses := true, apart := false, narrowed := true }
def DiskLastsUptoSaid : Prop := diskLastsUptoRow.holds Try.pinned (OpenSpec.upto diskLastsSpec)

/-- 'gharrylaw09.BaseLoads', WHERE WHAT IT READS IS OF BULK AT MOST 1048576: true; the input reads as it did. -/
def baseLoadsUptoRow : OpenClaim := { program := "ytpadmllpdkknnaa", sum := "e862de49af8987f1d53b27507c9d833555357f9bf8b33ed8bd928f0dc0636e6c", func := "gharry/gharrylaw09.BaseLoads", spec := "baseLoads", inPlace := ["internal/abi.NoEscape", "internal/bytealg.MakeNoZero"], recurses := true, apart := false, narrowed := true }
def BaseLoadsUptoSaid : Prop := baseLoadsUptoRow.holds Try.pinned (OpenSpec.upto baseLoadsSpec)

/-- 'gharrylaw03.DiskPlays', WHERE WHAT IT READS IS OF BULK AT MOST 1048576: true; the input reads as it did. -/
def diskPlaysUptoRow : OpenClaim := { program := "ytpadmllpdkknnaa", sum := "e862de49af8987f1d53b27507c9d833555357f9bf8b33ed8bd928f0dc0636e6c", func := "gharry/gharrylaw03.DiskPlays", spec := "diskPlays", inPlace := ["internal/abi.NoEscape", "internal/bytealg.MakeNoZero"], recurses := true, apart := false, narrowed := true }
def DiskPlaysUptoSaid : Prop := diskPlaysUptoRow.holds Try.pinned (OpenSpec.upto diskPlaysSpec)

/-- 'gharrylaw03.DiskNobody', WHERE WHAT IT READS IS OF BULK AT MOST 1048576: true; the input reads as it did. -/
def diskNobodyUptoRow : OpenClaim := { program := "ytpadmllpdkknnaa", sum := "e862de49af8987f1d53b27507c9d833555357f9bf8b33ed8bd928f0dc0636e6c", func := "gharry/gharrylaw03.DiskNobody", spec := "diskNobody", inPlace := ["internal/abi.NoEscape", "internal/bytealg.MakeNoZero"], recurses := true, apart := false, narrowed := true }
def DiskNobodyUptoSaid : Prop := diskNobodyUptoRow.holds Try.pinned (OpenSpec.upto diskNobodySpec)

/-- 'gharrylaw09.BaseSaves', WHERE WHAT IT READS IS OF BULK AT MOST 1048576: true; the input reads as it did. -/
def baseSavesUptoRow : OpenClaim := { program := "ytpadmllpdkknnaa", sum := "e862de49af8987f1d53b27507c9d833555357f9bf8b33ed8bd928f0dc0636e6c", func := "gharry/gharrylaw09.BaseSaves", spec := "baseSaves", inPlace := ["internal/abi.NoEscape", "internal/bytealg.MakeNoZero"], unfollowed := true, recurses := true, apart := false, narrowed := true }
def BaseSavesUptoSaid : Prop := baseSavesUptoRow.holds Try.pinned (OpenSpec.upto baseSavesSpec)

/-- 'gharrylaw06.StoreLasts', WHERE WHAT IT READS IS OF BULK AT MOST 1048576: true; the input reads as it did. -/
def storeLastsUptoRow : OpenClaim := { program := "ytpadmllpdkknnaa", sum := "e862de49af8987f1d53b27507c9d833555357f9bf8b33ed8bd928f0dc0636e6c", func := "gharry/gharrylaw06.StoreLasts", spec := "storeLasts", inPlace := ["internal/abi.NoEscape", "internal/bytealg.MakeNoZero"], recurses := true, apart := false, narrowed := true }
def StoreLastsUptoSaid : Prop := storeLastsUptoRow.holds Try.pinned (OpenSpec.upto storeLastsSpec)

/-- 'gharrylaw06.StoreGens', WHERE WHAT IT READS IS OF BULK AT MOST 1048576: true; the input reads as it did. -/
def storeGensUptoRow : OpenClaim := { program := "ytpadmllpdkknnaa", sum := "e862de49af8987f1d53b27507c9d833555357f9bf8b33ed8bd928f0dc0636e6c", func := "gharry/gharrylaw06.StoreGens", spec := "storeGens", inPlace := ["internal/abi.NoEscape", "internal/bytealg.MakeNoZero"], recurses := true, apart := false, narrowed := true }
def StoreGensUptoSaid : Prop := storeGensUptoRow.holds Try.pinned (OpenSpec.upto storeGensSpec)

/-- 'gharrylaw06.StoreWrites', WHERE WHAT IT READS IS OF BULK AT MOST 1048576: true; the input reads as it did. -/
def storeWritesUptoRow : OpenClaim := { program := "ytpadmllpdkknnaa", sum := "e862de49af8987f1d53b27507c9d833555357f9bf8b33ed8bd928f0dc0636e6c", func := "gharry/gharrylaw06.StoreWrites", spec := "storeWrites", inPlace := ["internal/abi.NoEscape", "internal/bytealg.MakeNoZero"], recurses := true, apart := false, narrowed := true }
def StoreWritesUptoSaid : Prop := storeWritesUptoRow.holds Try.pinned (OpenSpec.upto storeWritesSpec)

/-- 'gharrylaw06.StoreReads', WHERE WHAT IT READS IS OF BULK AT MOST 1048576: true; the input reads as it did. -/
def storeReadsUptoRow : OpenClaim := { program := "ytpadmllpdkknnaa", sum := "e862de49af8987f1d53b27507c9d833555357f9bf8b33ed8bd928f0dc0636e6c", func := "gharry/gharrylaw06.StoreReads", spec := "storeReads", inPlace := ["internal/abi.NoEscape", "internal/bytealg.MakeNoZero"], recurses := true, apart := false, narrowed := true }
def StoreReadsUptoSaid : Prop := storeReadsUptoRow.holds Try.pinned (OpenSpec.upto storeReadsSpec)

/-- 'gharrylaw09.BaseEither', WHERE WHAT IT READS IS OF BULK AT MOST 1048576: true; the input reads as it did. -/
def baseEitherUptoRow : OpenClaim := { program := "ytpadmllpdkknnaa", sum := "e862de49af8987f1d53b27507c9d833555357f9bf8b33ed8bd928f0dc0636e6c", func := "gharry/gharrylaw09.BaseEither", spec := "baseEither", inPlace := ["internal/abi.NoEscape", "internal/bytealg.MakeNoZero"], unfollowed := true, recurses := true, apart := false, narrowed := true }
def BaseEitherUptoSaid : Prop := baseEitherUptoRow.holds Try.pinned (OpenSpec.upto baseEitherSpec)

/-- 'gharrylaw18.ArbiterOne', WHERE WHAT IT READS IS OF BULK AT MOST 1048576: true; the input reads as it did. -/
def arbiterOneUptoRow : OpenClaim := { program := "ytpadmllpdkknnaa", sum := "e862de49af8987f1d53b27507c9d833555357f9bf8b33ed8bd928f0dc0636e6c", func := "gharry/gharrylaw18.ArbiterOne", spec := "arbiterOne", inPlace := ["internal/abi.NoEscape", "internal/bytealg.MakeNoZero"], unfollowed := true, recurses := true, apart := false, narrowed := true }
def ArbiterOneUptoSaid : Prop := arbiterOneUptoRow.holds Try.pinned (OpenSpec.upto arbiterOneSpec)

/-- 'gharrylaw18.ArbiterLast', WHERE WHAT IT READS IS OF BULK AT MOST 1048576: true; the input reads as it did. -/
def arbiterLastUptoRow : OpenClaim := { program := "ytpadmllpdkknnaa", sum := "e862de49af8987f1d53b27507c9d833555357f9bf8b33ed8bd928f0dc0636e6c", func := "gharry/gharrylaw18.ArbiterLast", spec := "arbiterLast", inPlace := ["internal/abi.NoEscape", "internal/bytealg.MakeNoZero"], unfollowed := true, recurses := true, apart := false, narrowed := true }
def ArbiterLastUptoSaid : Prop := arbiterLastUptoRow.holds Try.pinned (OpenSpec.upto arbiterLastSpec)

/-- 'gharrylaw06.StoreNews', WHERE WHAT IT READS IS OF BULK AT MOST 1048576: true; the input reads as it did. -/
def storeNewsUptoRow : OpenClaim := { program := "ytpadmllpdkknnaa", sum := "e862de49af8987f1d53b27507c9d833555357f9bf8b33ed8bd928f0dc0636e6c", func := "gharry/gharrylaw06.StoreNews", spec := "storeNews", inPlace := ["internal/abi.NoEscape", "internal/bytealg.MakeNoZero"], recurses := true, apart := false, narrowed := true }
def StoreNewsUptoSaid : Prop := storeNewsUptoRow.holds Try.pinned (OpenSpec.upto storeNewsSpec)

/-- 'gharrylaw06.StoreWhole', WHERE WHAT IT READS IS OF BULK AT MOST 1048576: true; the input reads as it did. -/
def storeWholeUptoRow : OpenClaim := { program := "ytpadmllpdkknnaa", sum := "e862de49af8987f1d53b27507c9d833555357f9bf8b33ed8bd928f0dc0636e6c", func := "gharry/gharrylaw06.StoreWhole", spec := "storeWhole", inPlace := ["internal/abi.NoEscape", "internal/bytealg.MakeNoZero"], recurses := true, apart := false, narrowed := true }
def StoreWholeUptoSaid : Prop := storeWholeUptoRow.holds Try.pinned (OpenSpec.upto storeWholeSpec)

/-- 'gharrylaw06.StoreNobody', WHERE WHAT IT READS IS OF BULK AT MOST 1048576: true; the input reads as it did. -/
def storeNobodyUptoRow : OpenClaim := { program := "ytpadmllpdkknnaa", sum := "e862de49af8987f1d53b27507c9d833555357f9bf8b33ed8bd928f0dc0636e6c", func := "gharry/gharrylaw06.StoreNobody", spec := "storeNobody", inPlace := ["internal/abi.NoEscape", "internal/bytealg.MakeNoZero"], recurses := true, apart := false, narrowed := true }
def StoreNobodyUptoSaid : Prop := storeNobodyUptoRow.holds Try.pinned (OpenSpec.upto storeNobodySpec)

/-- 'gharrylaw09.BaseStarts', WHERE WHAT IT READS IS OF BULK AT MOST 1048576: true; the input reads as it did. -/
def baseStartsUptoRow : OpenClaim := { program := "ytpadmllpdkknnaa", sum := "e862de49af8987f1d53b27507c9d833555357f9bf8b33ed8bd928f0dc0636e6c", func := "gharry/gharrylaw09.BaseStarts", spec := "baseStarts", inPlace := ["internal/abi.NoEscape", "internal/bytealg.MakeNoZero"], unfollowed := true, recurses := true, apart := false, narrowed := true }
def BaseStartsUptoSaid : Prop := baseStartsUptoRow.holds Try.pinned (OpenSpec.upto baseStartsSpec)

/-- 'gharrylaw18.ArbiterStarts', WHERE WHAT IT READS IS OF BULK AT MOST 1048576: true; the input reads as it did. -/
def arbiterStartsUptoRow : OpenClaim := { program := "ytpadmllpdkknnaa", sum := "e862de49af8987f1d53b27507c9d833555357f9bf8b33ed8bd928f0dc0636e6c", func := "gharry/gharrylaw18.ArbiterStarts", spec := "arbiterStarts", inPlace := ["internal/abi.NoEscape", "internal/bytealg.MakeNoZero"], unfollowed := true, recurses := true, apart := false, narrowed := true }
def ArbiterStartsUptoSaid : Prop := arbiterStartsUptoRow.holds Try.pinned (OpenSpec.upto arbiterStartsSpec)

/-- 'gharrylaw18.ArbiterFormats', WHERE WHAT IT READS IS OF BULK AT MOST 1048576: true; the input reads as it did. -/
def arbiterFormatsUptoRow : OpenClaim := { program := "ytpadmllpdkknnaa", sum := "e862de49af8987f1d53b27507c9d833555357f9bf8b33ed8bd928f0dc0636e6c", func := "gharry/gharrylaw18.ArbiterFormats", spec := "arbiterFormats", inPlace := ["internal/abi.NoEscape", "internal/bytealg.MakeNoZero"], unfollowed := true, recurses := true, apart := false, narrowed := true }
def ArbiterFormatsUptoSaid : Prop := arbiterFormatsUptoRow.holds Try.pinned (OpenSpec.upto arbiterFormatsSpec)

/-- 'gharrylaw18.ArbiterNobody', WHERE WHAT IT READS IS OF BULK AT MOST 1048576: true; the input reads as it did. -/
def arbiterNobodyUptoRow : OpenClaim := { program := "ytpadmllpdkknnaa", sum := "e862de49af8987f1d53b27507c9d833555357f9bf8b33ed8bd928f0dc0636e6c", func := "gharry/gharrylaw18.ArbiterNobody", spec := "arbiterNobody", inPlace := ["internal/abi.NoEscape", "internal/bytealg.MakeNoZero"], unfollowed := true, recurses := true, apart := false, narrowed := true }
def ArbiterNobodyUptoSaid : Prop := arbiterNobodyUptoRow.holds Try.pinned (OpenSpec.upto arbiterNobodySpec)

/-- 'gharrylaw18.ArbiterGrants', WHERE WHAT IT READS IS OF BULK AT MOST 1048576: true; the input reads as it did. -/
def arbiterGrantsUptoRow : OpenClaim := { program := "ytpadmllpdkknnaa", sum := "e862de49af8987f1d53b27507c9d833555357f9bf8b33ed8bd928f0dc0636e6c", func := "gharry/gharrylaw18.ArbiterGrants", spec := "arbiterGrants", inPlace := ["internal/abi.NoEscape", "internal/bytealg.MakeNoZero"], unfollowed := true, recurses := true, apart := false, narrowed := true }
def ArbiterGrantsUptoSaid : Prop := arbiterGrantsUptoRow.holds Try.pinned (OpenSpec.upto arbiterGrantsSpec)

end Rows
end Go.Proofs.Ytpadmllpdkknnaa
