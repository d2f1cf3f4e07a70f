/- append of a part of a slice, which may be none. -/
import Derived.Test.YtpadmllpdkknnaaK16
namespace Go.Sp
open Go
theorem r_apps {P : Program} {L L' L2 : List HP} {A : HP} {tt t : TypeId} {sz : Nat} {s : SlV} {p : Option Addr} {m c : Nat} {xs news : List Value} {k : SlV → W} (bt : Nat) (hk : apOk P tt t sz bt = true) (ho : At L (ow t sz s xs) L') (ha : At L A L2) (hr : Rs A (p, m, c) sz news) (hn : p = none → c = 0) (h1 : news.all one = true)
    (h63 : s.2.1 + m ≤ maxLen) (hbytes : (s.2.1 + m) * bt ≤ 140737488355328)
    (h : ∀ s' : SlV, s'.2.1 = s.2.1 + m → E (ow t sz s' (xs ++ news) :: L') (k s')) : E L (val eSl P (oB_append #[tt, tt] tt #[.slice s.1 s.2.1 s.2.2, .slice p m c]) k) := by
  cases p with
  | some a => exact r_app bt hk ho ha hr h1 h63 hbytes fun s' h2 _ => h s' h2
  | none =>
    have hm : m = 0 := by
      rcases Nat.eq_zero_or_pos m with h | h
      · exact h
      · exact absurd rfl (hr.2.1 (by simp only; omega))
    have hc := hn rfl
    subst hm; subst hc
    have hnews : news = [] := List.eq_nil_of_length_eq_zero (by have := hr.1; simpa using this)
    subst hnews
    unfold apOk at hk
    split at hk
    · rename_i t' i ht hi
      simp only [Bool.and_eq_true] at hk
      obtain ⟨⟨⟨⟨h1', h2⟩, h3⟩, h4⟩, h5⟩ := hk
      have e1 := Nat.eq_of_beq_eq_true h1'
      subst e1
      intro w hw
      have hO := ho.hs hw
      have hW := ow_world hO 0 (fun _ _ => Nat.zero_le _)
      have := run_append_owned_none (P := P) (w := w) 0 tt tt t' i sz ht hi _ _ _ hW
      have hh := h s (by omega)
      rw [List.append_nil] at hh
      exact ⟨s, w, this, hh w hO⟩
    · cases hk
theorem slp_nil {p : Option Addr} {lo c : Int} {sz : Nat} (h : slp p lo c sz = none) : p = none := by
  unfold slp at h
  split at h
  · exact h
  · cases p with
    | none => rfl
    | some a => simp at h
/-- l[:i] and l[i:] of a readable slice of values. -/
theorem Rs.pre {α : Type} {cel : α → List Value} {A : HP} {sp : Option Addr} {m sc c' sz : Nat} {l : List α} (hR : Rs A (sp, m, sc) sz (l.flatMap cel)) (hc : ∀ x, (cel x).length = sz) (hm : m = l.length) {i : Nat} (hi : i ≤ m) (hcap : m ≤ sc) : Rs A (slp sp 0 (sc : Int) sz, i, c') sz ((l.take i).flatMap cel) := by
  have h := hR.cut (c' := c') (lo := 0) (n := i) (by omega) hcap
  refine h.eqn ?_
  rw [Nat.zero_mul, List.drop_zero]
  have h1 : l.flatMap cel = (l.take i).flatMap cel ++ (l.drop i).flatMap cel := by rw [← List.flatMap_append, List.take_append_drop]
  rw [h1, List.take_append_of_le_length (by rw [flat_len hc]; simp; rw [Nat.min_eq_left (by omega)]; exact Nat.le_refl _), List.take_of_length_le (by rw [flat_len hc]; simp; exact Nat.mul_le_mul_right _ (by omega))]
theorem Rs.suf {α : Type} {cel : α → List Value} {A : HP} {sp : Option Addr} {m sc c' sz : Nat} {l : List α} (hR : Rs A (sp, m, sc) sz (l.flatMap cel)) (hc : ∀ x, (cel x).length = sz) (hm : m = l.length) {i : Nat} (hi : i ≤ m) (hcap : m ≤ sc) : Rs A (slp sp (i : Int) (sc : Int) sz, m - i, c') sz ((l.drop i).flatMap cel) := by
  have h := hR.cut (c' := c') (lo := i) (n := m - i) (by omega) hcap
  refine h.eqn ?_
  have h1 : l.flatMap cel = (l.take i).flatMap cel ++ (l.drop i).flatMap cel := by rw [← List.flatMap_append, List.take_append_drop]
  have h2 : ((l.take i).flatMap cel).length = i * sz := by rw [flat_len hc]; simp; rw [Nat.min_eq_left (by omega)]
  rw [h1, ← h2, List.drop_left, List.take_of_length_le (by rw [flat_len hc]; simp [hm])]
/-- What is owned has room for itself. -/
theorem ow_cap {t : TypeId} {sz : Nat} {s : SlV} {xs : List Value} {h : PH} (x : ow t sz s xs h) : s.2.1 ≤ s.2.2 ∧ (s.1 = none → s.2.2 = 0) := by
  obtain ⟨_, h2⟩ := x
  rcases h2 with rfl | ⟨g, cap, cur, hs, _, hn, _⟩
  · simp
  · rw [hs]; exact ⟨hn, fun h => by cases h⟩
/-- A struct that lies in an element. -/
theorem r_skn {α : Type} {cel : α → List Value} {A : HP} {a : Addr} {n c sz i j m : Nat} {xs : List α} {x : α} {e : Enc} {L L' : List HP} {k : e.α → W} {y : e.α} {cs : List Value} (hR : Rs A (some a, n, c) sz (xs.flatMap cel)) (hc : ∀ x, (cel x).length = sz) (hx : xs[i]? = some x) (ha : At L A L') (he : e.enc y = .agg cs.toArray) (hm : cs.length = m) (hv : ((cel x).drop j).take m = cs) (hj : Nat.blt 0 j = true) (h : E L (k y)) :
    E L (ldn e m ⟨(a.add (i * sz)).block, (a.add (i * sz)).off + j, none⟩ k) := by
  have := Nat.le_of_ble_eq_true hj
  rw [add_nz _ _ (by omega)]
  refine r_ldnA ha he hm (fun q hq u v hu => ?_) h
  rw [Deep.add_add]
  refine hR.elem hc hx q hq (j + u) v ?_
  rw [← hv, List.getElem?_take] at hu
  split at hu
  · rwa [List.getElem?_drop] at hu
  · cases hu
end Go.Sp
