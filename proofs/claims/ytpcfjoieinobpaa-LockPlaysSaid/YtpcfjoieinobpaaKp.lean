/- The script of LockPlays as an argument. -/
import Derived.Test.YtpcfjoieinobpaaKo
import Derived.Test.YtpcfjoieinobpaaPl11
namespace Go.Sp
open Go
theorem f7L {w : World} {s : SlV} {sc : List gharrylaw12_Op} (hR : Rs (old w) s 6 (sc.flatMap cO)) (hl : sc.length ≤ maxLen) : Fn eB Go.Proofs.Try.prog 7 #[.slice s.1 s.2.1 s.2.2] [old w] fun y X => X = [old w] ∧ y = true := f7 hR hl
end Go.Sp
