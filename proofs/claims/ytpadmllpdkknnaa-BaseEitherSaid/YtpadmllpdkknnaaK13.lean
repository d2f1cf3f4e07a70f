/- The order of texts. -/
import Derived.Test.YtpadmllpdkknnaaK12
namespace Go.Sp
open Go
/-- Texts in their order. -/
def le (a b : List UInt8) : Bool := Op.bytesLess a b || a == b
theorem less_irrefl : ∀ a : List UInt8, Op.bytesLess a a = false
  | [] => rfl
  | x :: a => by simp [Op.bytesLess, less_irrefl a]
theorem less_trans : ∀ {a b c : List UInt8}, Op.bytesLess a b = true → Op.bytesLess b c = true → Op.bytesLess a c = true
  | [], [], _, h, _ => by simp [Op.bytesLess] at h
  | [], y :: b, [], _, h' => by simp [Op.bytesLess] at h'
  | [], y :: b, z :: c, _, _ => rfl
  | x :: a, [], _, h, _ => by simp [Op.bytesLess] at h
  | x :: a, y :: b, [], _, h' => by simp [Op.bytesLess] at h'
  | x :: a, y :: b, z :: c, h, h' => by
    simp only [Op.bytesLess, Bool.or_eq_true, Bool.and_eq_true, decide_eq_true_eq, beq_iff_eq] at *
    rcases h with h | ⟨rfl, h⟩ <;> rcases h' with h' | ⟨rfl, h'⟩
    · exact .inl (UInt8.lt_trans h h')
    · exact .inl h
    · exact .inl h'
    · exact .inr ⟨rfl, less_trans h h'⟩
theorem less_total : ∀ (a b : List UInt8), Op.bytesLess a b = true ∨ a = b ∨ Op.bytesLess b a = true
  | [], [] => .inr (.inl rfl)
  | [], y :: b => .inl rfl
  | x :: a, [] => .inr (.inr rfl)
  | x :: a, y :: b => by
    simp only [Op.bytesLess, Bool.or_eq_true, Bool.and_eq_true, decide_eq_true_eq, beq_iff_eq, List.cons.injEq]
    rcases UInt8.lt_or_lt_of_ne (a := x) (b := y) |> fun f => Classical.em (x = y) |>.imp id f with rfl | h | h
    · rcases less_total a b with h | h | h
      · exact .inl (.inr ⟨rfl, h⟩)
      · exact .inr (.inl ⟨rfl, h⟩)
      · exact .inr (.inr (.inr ⟨rfl, h⟩))
    · exact .inl (.inl h)
    · exact .inr (.inr (.inl h))
theorem less_le (a b : List UInt8) : Op.bytesLess a b = !(le b a) := by
  unfold le
  rcases less_total a b with h | rfl | h
  · have h1 : Op.bytesLess b a = false := by
      cases h2 : Op.bytesLess b a with
      | false => rfl
      | true => have := less_trans h h2; rw [less_irrefl] at this; cases this
    have h3 : (b == a) = false := by
      cases h2 : b == a with
      | false => rfl
      | true => rw [beq_iff_eq] at h2; subst h2; rw [less_irrefl] at h; cases h
    simp [h, h1, h3]
  · simp [less_irrefl]
  · have h1 : Op.bytesLess a b = false := by
      cases h2 : Op.bytesLess a b with
      | false => rfl
      | true => have := less_trans h h2; rw [less_irrefl] at this; cases this
    simp [h, h1]
theorem le_refl' (a : List UInt8) : le a a = true := by simp [le]
theorem le_trans' {a b c : List UInt8} (h : le a b = true) (h' : le b c = true) : le a c = true := by
  simp only [le, Bool.or_eq_true, beq_iff_eq] at *
  rcases h with h | rfl
  · rcases h' with h' | rfl
    · exact .inl (less_trans h h')
    · exact .inl h
  · exact h'
theorem le_total' (a b : List UInt8) : le a b = true ∨ le b a = true := by
  simp only [le, Bool.or_eq_true, beq_iff_eq]
  rcases less_total a b with h | rfl | h
  · exact .inl (.inl h)
  · exact .inl (.inr rfl)
  · exact .inr (.inl h)
theorem le_anti' {a b : List UInt8} (h : le a b = true) (h' : le b a = true) : a = b := by
  simp only [le, Bool.or_eq_true, beq_iff_eq] at *
  rcases h with h | rfl
  · rcases h' with h' | rfl
    · have := less_trans h h'; rw [less_irrefl] at this; cases this
    · rfl
  · rfl
end Go.Sp
