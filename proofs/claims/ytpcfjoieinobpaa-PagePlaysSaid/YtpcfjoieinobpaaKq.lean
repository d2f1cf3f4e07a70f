/- Calls of a page as arguments. -/
import Derived.Test.YtpcfjoieinobpaaK14
import Derived.Test.YtpcfjoieinobpaaPp19
namespace Go.Sp
open Go
set_option maxRecDepth 10000
theorem pop_of {cs : List Value} (h : lfs [.i .i64, .s, .s] cs) : ∃ x : gharrylaw05_Op, cs = cPO x ∧ True := by
  rcases cs with _ | ⟨v0, _ | ⟨v1, _ | ⟨v2, _ | ⟨v3, r⟩⟩⟩⟩ <;> try (simp [lfs] at h; done)
  obtain ⟨⟨k, rfl, _⟩, ⟨t, rfl, _⟩, ⟨m, rfl, _⟩, _⟩ := h
  exact ⟨⟨k, ⟨t, m⟩⟩, rfl, trivial⟩
theorem f14L {w : World} {s : SlV} {sc : List gharrylaw05_Op} (hR : Rs (old w) s 3 (sc.flatMap cPO)) (hl : sc.length ≤ maxLen) : Fn eB Go.Proofs.Try.prog 14 #[.slice s.1 s.2.1 s.2.2] [old w] fun y X => X = [old w] ∧ y = true := f14 hR hl
end Go.Sp
