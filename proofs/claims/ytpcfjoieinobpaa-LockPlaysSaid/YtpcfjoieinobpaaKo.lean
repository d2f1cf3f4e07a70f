/- Calls of a table as arguments. -/
import Derived.Test.YtpcfjoieinobpaaK14
import Derived.Test.YtpcfjoieinobpaaPl10
namespace Go.Sp
open Go
set_option maxRecDepth 10000
theorem op_of {cs : List Value} (h : lfs [.i .i64, .i .i64, .i .i64, .s, .s, .b] cs) : ∃ x : gharrylaw12_Op, cs = cO x ∧ True := by
  rcases cs with _ | ⟨v0, _ | ⟨v1, _ | ⟨v2, _ | ⟨v3, _ | ⟨v4, _ | ⟨v5, _ | ⟨v6, r⟩⟩⟩⟩⟩⟩⟩ <;> try (simp [lfs] at h; done)
  obtain ⟨⟨k, rfl, _⟩, ⟨t, rfl, _⟩, ⟨m, rfl, _⟩, ⟨lo, rfl, _⟩, ⟨hi, rfl, _⟩, ⟨o, rfl⟩, _⟩ := h
  exact ⟨⟨k, ⟨t, m, lo, hi, o⟩⟩, rfl, trivial⟩
theorem f6L {w : World} {s : SlV} {sc : List gharrylaw12_Op} (hR : Rs (old w) s 6 (sc.flatMap cO)) (hl : sc.length ≤ maxLen) : Fn eB Go.Proofs.Try.prog 6 #[.slice s.1 s.2.1 s.2.2] [old w] fun y X => X = [old w] ∧ y = true := f6 hR hl
end Go.Sp
