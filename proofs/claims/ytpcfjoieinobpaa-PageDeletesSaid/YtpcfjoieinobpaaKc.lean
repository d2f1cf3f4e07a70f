/- Cells as arguments. -/
import Derived.Test.YtpcfjoieinobpaaPp1
import Derived.Test.YtpcfjoieinobpaaK14
namespace Go.Sp
open Go
set_option maxRecDepth 10000
theorem apiCell_of {cs : List Value} (h : lfs [.s, .s] cs) : ∃ x : api_Cell, cs = cC x ∧ True := by
  rcases cs with _ | ⟨v0, _ | ⟨v1, _ | ⟨v2, r⟩⟩⟩ <;> try (simp [lfs] at h; done)
  obtain ⟨⟨k, rfl, _⟩, ⟨v, rfl, _⟩, _⟩ := h
  exact ⟨⟨k, v⟩, rfl, trivial⟩
end Go.Sp
