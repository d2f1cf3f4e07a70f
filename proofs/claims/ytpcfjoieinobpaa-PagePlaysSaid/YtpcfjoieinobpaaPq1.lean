/- The layer page: what a page has, behind lay and drop. -/
import Derived.Test.YtpcfjoieinobpaaPp5
namespace Go.Sp
open Go
set_option linter.unusedVariables false
set_option maxRecDepth 10000
theorem seg_eq {x y : List UInt8} {a n : Nat} (hx : x.length = 224) (hy : y.length = 224) (hle : a + n ≤ 224) (h : ∀ j, a ≤ j → j < a + n → x.getD j 0 = y.getD j 0) : (x.drop a).take n = (y.drop a).take n := by
  refine ext_gd (by simp [hx, hy]) fun j hj => ?_
  have hj' : j < n := by simp at hj; omega
  rw [gd_take, gd_take, if_pos hj', if_pos hj', gd_drop, gd_drop]
  exact h (a + j) (by omega) (by omega)
theorem cellAt_congr {x y : List UInt8} {a : Nat} (hx : x.length = 224) (hy : y.length = 224) (hle : a + 2 + bt x a + bt x (a + 1) ≤ 224) (h : ∀ j, a ≤ j → j < a + 2 + bt x a + bt x (a + 1) → x.getD j 0 = y.getD j 0) : cellAt y a = cellAt x a := by
  have e0 : bt y a = bt x a := by unfold bt; rw [h a (by omega) (by omega)]
  have e1 : bt y (a + 1) = bt x (a + 1) := by
    have := h (a + 1) (by omega) (by omega)
    unfold bt; rw [this]
  unfold cellAt
  rw [e0, e1, seg_eq hy hx (by omega) (fun j h1 h2 => (h j (by omega) (by omega)).symm), seg_eq hy hx (by omega) (fun j h1 h2 => (h j (by omega) (by omega)).symm)]
/-- All slots tell cells. -/
def wf (m : List UInt8) : Prop := m.length = 224 ∧ 4 ≤ bt m 3 ∧ bt m 3 + bt m 2 ≤ 224 ∧ ∀ i, i < bt m 2 → slOk m i = true
theorem wf.inn {m : List UInt8} (h : wf m) : inn m := ⟨h.1, by have := h.2.1; have := h.2.2.1; omega, fun i hi => by have := slOk_iff.1 (h.2.2.2 i hi); have := h.2.2.1; omega⟩
/-- What lay needs. -/
def fit (m : List UInt8) (i : Nat) (c : api_Cell) : Prop := i ≤ bt m 2 ∧ bt m 3 + bt m 2 + need c ≤ 224
section
variable {m : List UInt8} {i : Nat} {c : api_Cell}
theorem lay_bt (hw : wf m) (hf : fit m i c) (j : Nat) (hj : j < 224) : bt (layB m i c) j = (layF m i c j).toNat := by
  unfold bt; rw [layB_gd hw.1 hw.2.1 hf.1 hf.2 j hj]
theorem lay_2 (hw : wf m) (hf : fit m i c) : bt (layB m i c) 2 = bt m 2 + 1 := by
  have h1 := hw.2.1
  have h2 := hf.2
  unfold need at h2
  rw [lay_bt hw hf 2 (by omega)]
  unfold layF
  rw [if_neg (by omega), if_pos rfl, of_lt (by omega)]
theorem lay_3 (hw : wf m) (hf : fit m i c) : bt (layB m i c) 3 = bt m 3 + 2 + c.Key.length + c.Val.length := by
  have h2 := hf.2
  unfold need at h2
  rw [lay_bt hw hf 3 (by omega)]
  unfold layF
  rw [if_pos rfl, of_lt (by omega)]
theorem lay_lo (hw : wf m) (hf : fit m i c) (j : Nat) (hj : j < 2) : bt (layB m i c) j = bt m j := by
  have h1 := hw.2.1
  rw [lay_bt hw hf j (by omega)]
  unfold layF
  rw [if_neg (by omega), if_neg (by omega), if_pos (by omega)]; rfl
theorem lay_slot (hw : wf m) (hf : fit m i c) (t : Nat) (ht : t ≤ bt m 2) : bt (layB m i c) (223 - t) = if t < i then bt m (223 - t) else if t = i then bt m 3 else bt m (224 - t) := by
  have h1 := hw.2.1
  have h2 := hf.2
  have h3 := hf.1
  unfold need at h2
  rw [lay_bt hw hf _ (by omega)]
  unfold layF
  rw [if_neg (by omega), if_neg (by omega), if_neg (by omega), if_neg (by omega), if_neg (by omega), if_neg (by omega), if_neg (by omega), if_neg (by omega)]
  by_cases e : t < i
  · rw [if_pos e, if_neg (by omega), if_neg (by omega)]; rfl
  · by_cases e' : t = i
    · rw [if_neg e, if_pos e', if_neg (by omega), if_pos (by omega), of_lt (by omega)]
    · rw [if_neg e, if_neg e', if_pos (by omega)]
      show _ = (m.getD _ 0).toNat
      congr 2; omega
theorem lay_old (hw : wf m) (hf : fit m i c) (a : Nat) (h4 : 4 ≤ a) (ha : a + 2 + bt m a + bt m (a + 1) ≤ bt m 3) : cellAt (layB m i c) a = cellAt m a := by
  have h1 := hw.2.2.1
  refine cellAt_congr hw.1 (layB_len hw.1 hw.2.1 hf.1 hf.2) (by omega) fun j h2 h3 => ?_
  rw [layB_gd hw.1 hw.2.1 hf.1 hf.2 j (by omega)]
  unfold layF
  rw [if_neg (by omega), if_neg (by omega), if_pos (by omega)]
theorem lay_new (hw : wf m) (hf : fit m i c) : cellAt (layB m i c) (bt m 3) = c := by
  have h1 := hw.2.1
  have h2 := hf.2
  unfold need at h2
  have hl := layB_len hw.1 hw.2.1 hf.1 hf.2
  have e0 : bt (layB m i c) (bt m 3) = c.Key.length := by
    rw [lay_bt hw hf _ (by omega)]
    unfold layF
    rw [if_neg (by omega), if_neg (by omega), if_neg (by omega), if_pos rfl, of_lt (by omega)]
  have e1 : bt (layB m i c) (bt m 3 + 1) = c.Val.length := by
    rw [lay_bt hw hf _ (by omega)]
    unfold layF
    rw [if_neg (by omega), if_neg (by omega), if_neg (by omega), if_neg (by omega), if_pos rfl, of_lt (by omega)]
  unfold cellAt
  rw [e0, e1]
  have k1 : ((layB m i c).drop (bt m 3 + 2)).take c.Key.length = c.Key := by
    refine ext_gd (by simp [hl]; omega) fun j hj => ?_
    have hj' : j < c.Key.length := by simp at hj; omega
    rw [gd_take, if_pos hj', gd_drop, layB_gd hw.1 hw.2.1 hf.1 hf.2 _ (by omega)]
    unfold layF
    rw [if_neg (by omega), if_neg (by omega), if_neg (by omega), if_neg (by omega), if_neg (by omega), if_pos (by omega)]
    congr 1; omega
  have k2 : ((layB m i c).drop (bt m 3 + 2 + c.Key.length)).take c.Val.length = c.Val := by
    refine ext_gd (by simp [hl]; omega) fun j hj => ?_
    have hj' : j < c.Val.length := by simp at hj; omega
    rw [gd_take, if_pos hj', gd_drop, layB_gd hw.1 hw.2.1 hf.1 hf.2 _ (by omega)]
    unfold layF
    rw [if_neg (by omega), if_neg (by omega), if_neg (by omega), if_neg (by omega), if_neg (by omega), if_neg (by omega), if_pos (by omega)]
    congr 1; omega
  rw [k1, k2]
theorem sl_of (h : slOk m i = true) : 4 ≤ bt m (223 - i) ∧ bt m (223 - i) + 2 + bt m (bt m (223 - i)) + bt m (bt m (223 - i) + 1) ≤ bt m 3 := by
  have := slOk_iff.1 h; omega
/-- Behind lay the page has one cell more. -/
theorem cels_lay (hw : wf m) (hf : fit m i c) : cels (layB m i c) (bt m 2 + 1) = (cels m (bt m 2)).take i ++ c :: (cels m (bt m 2)).drop i := by
  have h3 := hf.1
  have hl : (cels m (bt m 2)).length = bt m 2 := cels_len _ _
  apply List.ext_getElem?
  intro t
  rcases Nat.lt_or_ge t (bt m 2 + 1) with ht | ht
  · rw [cels_get ht]
    have hs := lay_slot hw hf t (by omega)
    unfold cel
    rw [hs]
    by_cases e : t < i
    · rw [if_pos e, List.getElem?_append_left (by simp [hl]; omega), List.getElem?_take, if_pos e, cels_get (by omega)]
      have := sl_of (hw.2.2.2 t (by omega))
      rw [lay_old hw hf _ this.1 this.2]
    · rw [if_neg e, List.getElem?_append_right (by simp [hl]; omega)]
      rw [List.length_take, hl, Nat.min_eq_left h3]
      by_cases e' : t = i
      · rw [if_pos e', e', Nat.sub_self, List.getElem?_cons_zero, lay_new hw hf]
      · rw [if_neg e', show t - i = (t - 1 - i) + 1 by omega, List.getElem?_cons_succ, List.getElem?_drop, show i + (t - 1 - i) = t - 1 by omega, cels_get (by omega)]
        have := sl_of (hw.2.2.2 (t - 1) (by omega))
        rw [show 223 - (t - 1) = 224 - t by omega] at this
        rw [lay_old hw hf _ this.1 this.2]
        unfold cel
        rw [show 223 - (t - 1) = 224 - t by omega]
  · rw [List.getElem?_eq_none (by rw [cels_len]; omega), List.getElem?_eq_none (by simp [hl]; omega)]
theorem wf_lay (hw : wf m) (hf : fit m i c) (hk : c.Key.length ≤ 16) (hv : c.Val.length ≤ 32) : wf (layB m i c) := by
  have h1 := hw.2.1
  have h2 := hf.2
  have h3 := hf.1
  unfold need at h2
  have e2 := lay_2 hw hf
  have e3 := lay_3 hw hf
  refine ⟨layB_len hw.1 hw.2.1 hf.1 hf.2, by omega, by omega, fun t ht => ?_⟩
  rw [e2] at ht
  have hs := lay_slot hw hf t (by omega)
  rw [slOk_iff, hs, e3]
  have old : ∀ u, u < bt m 2 → 4 ≤ bt m (223 - u) ∧ bt m (223 - u) + 2 ≤ bt m 3 + 2 + c.Key.length + c.Val.length ∧ bt (layB m i c) (bt m (223 - u)) ≤ 16 ∧ bt (layB m i c) (bt m (223 - u) + 1) ≤ 32 ∧ bt m (223 - u) + 2 + bt (layB m i c) (bt m (223 - u)) + bt (layB m i c) (bt m (223 - u) + 1) ≤ bt m 3 + 2 + c.Key.length + c.Val.length := by
    intro u hu
    have hsl := slOk_iff.1 (hw.2.2.2 u hu)
    have same : ∀ j, 4 ≤ j → j < bt m 3 → bt (layB m i c) j = bt m j := by
      intro j hj hj2
      rw [lay_bt hw hf _ (by omega)]
      unfold layF
      rw [if_neg (by omega), if_neg (by omega), if_pos (by omega)]; rfl
    rw [same _ (by omega) (by omega), same _ (by omega) (by omega)]
    omega
  by_cases e : t < i
  · rw [if_pos e]; exact old t (by omega)
  · by_cases e' : t = i
    · rw [if_neg e, if_pos e']
      have e0 : bt (layB m i c) (bt m 3) = c.Key.length := by
        rw [lay_bt hw hf _ (by omega)]
        unfold layF
        rw [if_neg (by omega), if_neg (by omega), if_neg (by omega), if_pos rfl, of_lt (by omega)]
      have e1 : bt (layB m i c) (bt m 3 + 1) = c.Val.length := by
        rw [lay_bt hw hf _ (by omega)]
        unfold layF
        rw [if_neg (by omega), if_neg (by omega), if_neg (by omega), if_neg (by omega), if_pos rfl, of_lt (by omega)]
      rw [e0, e1]; omega
    · rw [if_neg e, if_neg e']
      have := old (t - 1) (by omega)
      rwa [show 223 - (t - 1) = 224 - t by omega] at this
end
end Go.Sp
