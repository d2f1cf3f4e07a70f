/- Lists of bytes, place by place. -/
import Derived.Test.YtpcfjoieinobpaaK16
namespace Go.Sp
open Go
variable {l a b : List UInt8} {i j n o : Nat} {x : UInt8}
theorem gd_set (h : i < l.length) : (l.set i x).getD j 0 = if j = i then x else l.getD j 0 := by
  simp only [List.getD_eq_getElem?_getD, List.getElem?_set]
  by_cases e : j = i
  · subst e; simp [h]
  · simp [e, Ne.symm e]
theorem gd_app : (a ++ b).getD j 0 = if j < a.length then a.getD j 0 else b.getD (j - a.length) 0 := by
  simp only [List.getD_eq_getElem?_getD]
  split
  · rw [List.getElem?_append_left (by assumption)]
  · rw [List.getElem?_append_right (by omega)]
theorem gd_take : (l.take n).getD j 0 = if j < n then l.getD j 0 else 0 := by
  simp only [List.getD_eq_getElem?_getD, List.getElem?_take]
  split <;> rfl
theorem gd_drop : (l.drop n).getD j 0 = l.getD (n + j) 0 := by simp [List.getD_eq_getElem?_getD]
theorem gd_cons : (x :: l).getD j 0 = if j = 0 then x else l.getD (j - 1) 0 := by
  cases j <;> simp
theorem gd_nil : ([] : List UInt8).getD j 0 = 0 := by simp
theorem gd_rep : (List.replicate n (0 : UInt8)).getD j 0 = 0 := by
  simp only [List.getD_eq_getElem?_getD, List.getElem?_replicate]
  split <;> rfl
theorem gd_ovl (h : o + a.length ≤ l.length) : (ovl l o a).getD j 0 = if j < o then l.getD j 0 else if j < o + a.length then a.getD (j - o) 0 else l.getD j 0 := by
  unfold ovl
  simp only [gd_app, gd_take, gd_drop, List.length_append, List.length_take]
  rw [Nat.min_eq_left (by omega)]
  repeat' split
  all_goals first | rfl | omega | (congr 1; omega)
theorem gd_ge (h : l.length ≤ j) : l.getD j 0 = 0 := by
  simp [List.getD_eq_getElem?_getD, List.getElem?_eq_none h]
theorem ext_gd (h : a.length = b.length) (hg : ∀ j, j < a.length → a.getD j 0 = b.getD j 0) : a = b := by
  apply List.ext_getElem h
  intro j h1 h2
  have := hg j h1
  simpa [List.getD_eq_getElem?_getD, h1, h2] using this
end Go.Sp
