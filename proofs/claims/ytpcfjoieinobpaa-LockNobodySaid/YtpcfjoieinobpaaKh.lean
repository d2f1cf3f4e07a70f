/- Holds as arguments. -/
import Derived.Test.YtpcfjoieinobpaaK14
import Derived.Test.YtpcfjoieinobpaaPl2
namespace Go.Sp
open Go
set_option maxRecDepth 10000
theorem hold_of {cs : List Value} (h : lfs [.i .i64, .i .i64, .s, .s, .b] cs) : ∃ x : lock_Hold, cs = cH x ∧ True := by
  rcases cs with _ | ⟨v0, _ | ⟨v1, _ | ⟨v2, _ | ⟨v3, _ | ⟨v4, _ | ⟨v5, r⟩⟩⟩⟩⟩⟩ <;> try (simp [lfs] at h; done)
  obtain ⟨⟨t, rfl, _⟩, ⟨m, rfl, _⟩, ⟨lo, rfl, _⟩, ⟨hi, rfl, _⟩, ⟨o, rfl⟩, _⟩ := h
  exact ⟨⟨t, m, lo, hi, o⟩, rfl, trivial⟩
end Go.Sp
