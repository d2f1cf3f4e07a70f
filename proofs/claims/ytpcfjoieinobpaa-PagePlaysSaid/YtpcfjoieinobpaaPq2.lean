/- The layer page: what a page has behind a drop, packed; pages in whole. -/
import Derived.Test.YtpcfjoieinobpaaPq1
namespace Go.Sp
open Go
set_option linter.unusedVariables false
set_option maxRecDepth 10000
section
variable {m : List UInt8} {i : Nat} {c : api_Cell}
theorem dropB_len (hm : m.length = 224) (hn : bt m 2 ≤ 220) (hi : i < bt m 2) : (dropB m i).length = 224 := by
  unfold dropB
  simp only [List.length_append, List.length_take, List.length_drop, List.length_cons, List.length_nil, hm]
  omega
theorem dropB_gd (hm : m.length = 224) (hn : bt m 2 ≤ 220) (hi : i < bt m 2) (j : Nat) (hj : j < 224) : (dropB m i).getD j 0 = if j = 2 then UInt8.ofNat (bt m 2 - 1) else if j < 224 - bt m 2 then m.getD j 0 else if j = 224 - bt m 2 then 0 else if j < 224 - i then m.getD (j - 1) 0 else m.getD j 0 := by
  unfold dropB
  simp only [gd_app, gd_take, gd_drop, gd_cons, gd_nil, List.length_append, List.length_take, List.length_drop, List.length_cons, List.length_nil, hm]
  generalize bt m 2 = n at *
  simp only [Nat.min_eq_left (show n - 1 - i ≤ 224 - (224 - n) by omega), Nat.min_eq_left (show 224 - n - 3 ≤ 224 - 3 by omega), Nat.min_eq_left (show 2 ≤ 224 by omega)]
  have hcs : j = 2 ∨ j < 2 ∨ (3 ≤ j ∧ j < 224 - n) ∨ j = 224 - n ∨ (224 - n < j ∧ j < 224 - i) ∨ (224 - i ≤ j ∧ j < 224) := by omega
  rcases hcs with h | h | h | h | h | h
  all_goals simp (disch := omega) only [if_pos, if_neg]
  all_goals try (congr 1; omega)
theorem drop_2 (hw : wf m) (hi : i < bt m 2) : bt (dropB m i) 2 = bt m 2 - 1 := by
  have h1 := hw.2.1
  have h2 := hw.2.2.1
  unfold bt
  rw [dropB_gd hw.1 (by omega) hi 2 (by omega), if_pos rfl]
  exact of_lt (by omega)
theorem drop_same (hw : wf m) (hi : i < bt m 2) (j : Nat) (hj : j < 224 - bt m 2) (h : j ≠ 2) : bt (dropB m i) j = bt m j := by
  have h1 := hw.2.1
  have h2 := hw.2.2.1
  unfold bt
  rw [dropB_gd hw.1 (by omega) hi j (by omega), if_neg h, if_pos hj]
theorem drop_slot (hw : wf m) (hi : i < bt m 2) (t : Nat) (ht : t < bt m 2 - 1) : bt (dropB m i) (223 - t) = if t < i then bt m (223 - t) else bt m (222 - t) := by
  have h1 := hw.2.1
  have h2 := hw.2.2.1
  unfold bt at *
  rw [dropB_gd hw.1 (by unfold bt; omega) hi (223 - t) (by omega)]
  unfold bt
  rw [if_neg (by omega), if_neg (by omega), if_neg (by omega)]
  by_cases e : t < i
  · rw [if_pos e, if_neg (by omega)]
  · rw [if_neg e, if_pos (by omega)]; congr 2; omega
theorem cels_drop (hw : wf m) (hi : i < bt m 2) : cels (dropB m i) (bt m 2 - 1) = (cels m (bt m 2)).take i ++ (cels m (bt m 2)).drop (i + 1) := by
  have h1 := hw.2.1
  have h2 := hw.2.2.1
  have hl : (cels m (bt m 2)).length = bt m 2 := cels_len _ _
  have old : ∀ u, u < bt m 2 → cellAt (dropB m i) (bt m (223 - u)) = cellAt m (bt m (223 - u)) := by
    intro u hu
    have := sl_of (hw.2.2.2 u hu)
    refine cellAt_congr hw.1 (dropB_len hw.1 (by omega) hi) (by omega) fun j h3 h4 => ?_
    rw [dropB_gd hw.1 (by omega) hi j (by omega), if_neg (by omega), if_pos (by omega)]
  apply List.ext_getElem?
  intro t
  rcases Nat.lt_or_ge t (bt m 2 - 1) with ht | ht
  · rw [cels_get ht]
    unfold cel
    rw [drop_slot hw hi t ht]
    by_cases e : t < i
    · rw [if_pos e, List.getElem?_append_left (by simp [hl]; omega), List.getElem?_take, if_pos e, cels_get (by omega), old t (by omega)]
    · rw [if_neg e, List.getElem?_append_right (by simp [hl]; omega), List.length_take, hl, Nat.min_eq_left (by omega), List.getElem?_drop, show i + 1 + (t - i) = t + 1 by omega, cels_get (by omega)]
      have := old (t + 1) (by omega)
      rw [show 223 - (t + 1) = 222 - t by omega] at this
      rw [this]
      unfold cel
      rw [show 223 - (t + 1) = 222 - t by omega]
  · rw [List.getElem?_eq_none (by rw [cels_len]; omega), List.getElem?_eq_none (by simp [hl]; omega)]
theorem wf_drop (hw : wf m) (hi : i < bt m 2) : wf (dropB m i) := by
  have h1 := hw.2.1
  have h2 := hw.2.2.1
  have e2 := drop_2 hw hi
  have e3 := drop_same hw hi 3 (by omega) (by omega)
  refine ⟨dropB_len hw.1 (by omega) hi, by omega, by omega, fun t ht => ?_⟩
  rw [e2] at ht
  rw [slOk_iff, drop_slot hw hi t ht, e3]
  have old : ∀ u, u < bt m 2 → 4 ≤ bt m (223 - u) ∧ bt m (223 - u) + 2 ≤ bt m 3 ∧ bt (dropB m i) (bt m (223 - u)) ≤ 16 ∧ bt (dropB m i) (bt m (223 - u) + 1) ≤ 32 ∧ bt m (223 - u) + 2 + bt (dropB m i) (bt m (223 - u)) + bt (dropB m i) (bt m (223 - u) + 1) ≤ bt m 3 := by
    intro u hu
    have hsl := slOk_iff.1 (hw.2.2.2 u hu)
    rw [drop_same hw hi _ (by omega) (by omega), drop_same hw hi _ (by omega) (by omega)]
    omega
  by_cases e : t < i
  · rw [if_pos e]; exact old t (by omega)
  · rw [if_neg e]
    have := old (t + 1) (by omega)
    rwa [show 223 - (t + 1) = 222 - t by omega] at this
theorem packed_wf {k lv : Nat} {l : List api_Cell} (ht : tot l ≤ 220) (hc : ∀ c ∈ l, okC c) (hk : k < 256) (hlv : lv < 256) : wf (packedB k lv l) ∧ cels (packedB k lv l) l.length = l := by
  have go : ∀ n, n ≤ l.length → wf (packedB k lv (l.take n)) ∧ cels (packedB k lv (l.take n)) n = l.take n := by
    intro n
    induction n with
    | zero =>
      intro _
      have h2 : bt (packedB k lv []) 2 = 0 := rfl
      exact ⟨⟨packedB_len (by simp [tot]), Nat.le_refl 4, (by show 4 + 0 ≤ 224; decide), fun i hi => by rw [List.take_zero, h2] at hi; omega⟩, rfl⟩
    | succ n ih =>
      intro hn
      obtain ⟨h1, h2⟩ := ih (by omega)
      have e := tot_take (l := l) (i := n) (by omega)
      have hle : tot (l.take (n + 1)) ≤ tot l := by
        have := tot_app (l.take (n + 1)) (l.drop (n + 1))
        rw [List.take_append_drop] at this; omega
      have e2 := packedB_2 (k := k) (lv := lv) (l := l.take n) (by omega)
      have e3 := packedB_3 (k := k) (lv := lv) (l := l.take n) (by omega)
      have e4 := heapB_len (l.take n)
      have hln : (l.take n).length = n := by simp; omega
      rw [hln] at e2 e4
      have hf : fit (packedB k lv (l.take n)) n l[n] := ⟨by omega, by omega⟩
      have hlay := packedB_lay (k := k) (lv := lv) (l := l.take n) (c := l[n]) (by omega)
      rw [hln, ← List.take_succ_eq_append_getElem (by omega)] at hlay
      have hok := hc l[n] (List.getElem_mem _)
      refine ⟨by rw [← hlay]; exact wf_lay h1 hf hok.1 hok.2, ?_⟩
      have hcl := cels_lay h1 hf
      rw [hlay, e2, h2] at hcl
      rw [hcl, List.take_of_length_le (by omega), List.drop_of_length_le (by omega), List.take_succ_eq_append_getElem (by omega)]
  have := go l.length (Nat.le_refl _)
  rwa [List.take_length] at this
theorem cel_ok (hw : wf m) {n : Nat} (hn : n ≤ bt m 2) : ∀ c ∈ cels m n, okC c := by
  intro c hc
  obtain ⟨i, hi, rfl⟩ := List.mem_map.1 hc
  have hi' : i < bt m 2 := by have := List.mem_range.1 hi; omega
  have h := slOk_iff.1 (hw.2.2.2 i hi')
  have h2 := hw.2.2.1
  exact ⟨by rw [cel, cellAt_key hw.1 (by omega)]; omega, by rw [cel, cellAt_val hw.1 (by omega)]; omega⟩
/-- Keys rise. -/
def rise (l : List api_Cell) : Prop := l.Pairwise fun a b => Op.bytesLess a.Key b.Key = true
theorem rise_succ {l : List api_Cell} {c : api_Cell} : rise (l ++ [c]) ↔ rise l ∧ ∀ a ∈ l, Op.bytesLess a.Key c.Key = true := by
  unfold rise
  rw [List.pairwise_append]
  simp
theorem ky_rise (m : List UInt8) : ∀ n, (∀ i, i < n → kyOk m i = true) ↔ rise (cels m n)
  | 0 => by simp [cels, rise]
  | n + 1 => by
    rw [cels_succ, rise_succ, ← ky_rise m n]
    constructor
    · intro h
      refine ⟨fun i hi => h i (by omega), fun a ha => ?_⟩
      have hr := (ky_rise m n).1 fun i hi => h i (by omega)
      have hn := h n (by omega)
      cases n with
      | zero => simp [cels] at ha
      | succ n =>
        simp only [kyOk, Nat.add_one_ne_zero, decide_false, Bool.false_or, Nat.add_sub_cancel] at hn
        rw [cels_succ] at ha
        rcases List.mem_append.1 ha with ha | ha
        · rw [cels_succ, rise_succ] at hr
          exact less_trans (hr.2 a ha) hn
        · rw [List.mem_singleton.1 ha]; exact hn
    · rintro ⟨h1, h2⟩ i hi
      rcases Nat.lt_or_ge i n with h | h
      · exact h1 i h
      · have : i = n := by omega
        subst this
        unfold kyOk
        rw [Bool.or_eq_true, decide_eq_true_eq]
        rcases Nat.eq_zero_or_pos i with h0 | h0
        · exact .inl h0
        · right
          apply h2
          exact List.mem_map.2 ⟨i - 1, by simp; omega, rfl⟩
theorem fits_iff (hm : m.length = 224) : fitsB m = true ↔ wf m ∧ (bt m 0 = 0 → bt m 2 = 0) ∧ (bt m 0 ≠ 2 → bt m 1 = 0) ∧ rise (cels m (bt m 2)) ∧ tot (cels m (bt m 2)) ≤ 220 := by
  unfold fitsB
  simp only [Bool.and_eq_true, decide_eq_true_eq]
  rw [hdOk_iff]
  constructor
  · rintro ⟨⟨⟨h1, h2, h3, h4⟩, h5⟩, h6⟩
    exact ⟨⟨hm, h1, h2, fun i hi => (allOk_sl h5 hi).1⟩, h3, h4, (ky_rise m _).1 fun i hi => (allOk_sl h5 hi).2, h6⟩
  · rintro ⟨⟨_, h1, h2, h3⟩, h4, h5, h6, h7⟩
    refine ⟨⟨⟨h1, h2, h4, h5⟩, ?_⟩, h7⟩
    unfold allOk
    rw [List.all_eq_true]
    intro i hi
    have hi' := List.mem_range.1 hi
    rw [h3 i hi', (ky_rise m _).2 h6 i hi']; rfl
end
end Go.Sp
