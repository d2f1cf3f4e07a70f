/- The disk and the law's own disk: they go together. -/
import Derived.Test.YtpadmllpdkknnaaD14
namespace Go.Sp
open Go Go.Proofs
set_option linter.unusedSimpArgs false
set_option linter.unusedVariables false
set_option maxRecDepth 10000
theorem and1 {n : Int} (h0 : 0 ≤ n) (h1 : n ≤ 18446744073709551615) : bits .and .u64 n 1 = n % 2 :=
  bits_mask .u64 64 (by decide) (fun n a b => wU64 a (by have : (2 : Int) ^ 64 = 18446744073709551616 := by decide
                                                         omega)) 1 (by decide) n h0 (by have : (2 : Int) ^ 64 = 18446744073709551616 := by decide
                                                                                        omega)
theorem hv_pow (keep : Int) (h : 0 ≤ keep) : ∀ j, hv keep j = keep / 2 ^ j
  | 0 => by simp [hv]
  | j + 1 => by
    unfold hv
    rw [td (hv_nn keep h j).1, hv_pow keep h j, Int.ediv_ediv_of_nonneg (Int.pow_nonneg (by decide)), Int.pow_succ]
theorem kb_bit {keep : Int} (h : 0 ≤ keep ∧ keep ≤ 18446744073709551615) (k : Nat) : kb keep k = bitOf keep k := by
  unfold kb bitOf
  have e1 : ((k : Int).tmod 64) = ((k % 64 : Nat) : Int) := by rw [tm (by omega)]; omega
  have e2 : min ((k % 64 : Nat) : Int).toNat 64 = k % 64 := by omega
  rw [e1, e2]
  have e3 : keep.fdiv (2 ^ (k % 64)) = hv keep (k % 64) := by
    rw [hv_pow keep h.1, Int.fdiv_eq_ediv_of_nonneg _ (Int.pow_nonneg (by decide))]
  have hn := hv_nn keep h.1 (k % 64)
  rw [e3, and1 hn.1 (by omega), tm hn.1]
/-! ### The waiting sectors, by their numbers -/
def wt (D : Dk) (j : Nat) : Bool := (gk D.es (j : Int)).isSome
def wl (D : Dk) (n : Nat) : List Nat := (List.range n).filter (wt D)
theorem wl_sort (D : Dk) (n : Nat) : ((wl D n).map fun (j : Nat) => (j : Int)).Pairwise fun a b => decide (a ≤ b) = true := by
  rw [List.pairwise_map]
  refine List.Pairwise.filter _ ?_
  refine List.Pairwise.imp (R := fun a b => a < b) ?_ List.pairwise_lt_range
  intro a b h
  simp; omega
theorem keys_wl {D : Dk} (h : D.ok) : D.keys = (wl D D.sure.length).map fun (j : Nat) => (j : Int) := by
  have tr : ∀ a b c : Int, decide (a ≤ b) = true → decide (b ≤ c) = true → decide (a ≤ c) = true := by intro a b c h1 h2; simp at *; omega
  have tt : ∀ a b : Int, (decide (a ≤ b) || decide (b ≤ a)) = true := by intro a b; simp; omega
  unfold Dk.keys
  refine List.Perm.eq_of_pairwise (le := fun a b => decide (a ≤ b) = true) ?_ (List.pairwise_mergeSort tr tt _) (wl_sort D _) ((List.mergeSort_perm _ _).trans ?_)
  · intro a b _ _ h1 h2
    simp at h1 h2
    omega
  · refine (List.perm_ext_iff_of_nodup h.kn ?_).2 fun a => ?_
    · refine List.Pairwise.map (R := fun a b : Nat => a ≠ b) _ (fun a b hab e => hab ?_) (List.Pairwise.filter _ List.nodup_range)
      exact Int.ofNat.inj e
    · simp only [List.mem_map, wl, List.mem_filter, List.mem_range, wt]
      constructor
      · rintro ⟨x, hx, rfl⟩
        have hr : (0 : Int) ≤ x.1 ∧ (x.1 : Int) < (D.sure.length : Int) := h.ei x hx
        refine ⟨x.1.toNat, ⟨(Int.toNat_lt hr.1).2 hr.2, ?_⟩, Int.toNat_of_nonneg hr.1⟩
        rw [show ((x.1.toNat : Nat) : Int) = (x.1 : Int) from Int.toNat_of_nonneg hr.1]
        cases hg : gk D.es x.1 with
        | none => exact absurd rfl (gk_none hg x hx)
        | some v => rfl
      · rintro ⟨j, ⟨hj, hw⟩, rfl⟩
        have hg : ¬ gk D.es (j : Int) = none := by intro e; rw [e] at hw; cases hw
        have := gk_some hg
        obtain ⟨x, hx, e⟩ := List.mem_map.1 this
        exact ⟨x, hx, e⟩
theorem wl_split (D : Dk) {j n : Nat} (hj : j < n) (hw : wt D j = true) : ∃ r, wl D n = wl D j ++ j :: r := by
  have e : List.range n = List.range j ++ j :: ((List.range (n - j - 1)).map fun i => j + 1 + i) := by
    have h1 : n = j + (1 + (n - j - 1)) := by omega
    have h2 := List.range_add (n := j) (m := 1 + (n - j - 1))
    rw [← h1] at h2
    rw [h2, List.range_add]
    simp [Nat.add_assoc]
  refine ⟨((List.range (n - j - 1)).map fun i => j + 1 + i).filter (wt D), ?_⟩
  unfold wl
  rw [e, List.filter_append, List.filter_cons, if_pos hw]
theorem keys_at {D : Dk} (h : D.ok) {j : Nat} (hj : j < D.sure.length) (hw : wt D j = true) : (wl D j).length < D.keys.length ∧ D.keys.getD (wl D j).length 0 = (j : Int) := by
  obtain ⟨r, hr⟩ := wl_split D hj hw
  rw [keys_wl h, hr]
  simp
theorem nodup_at {α : Type} {l : List α} (h : l.Nodup) {i j : Nat} (hi : i < l.length) (hj : j < l.length) (e : l[i] = l[j]) : i = j := by
  rcases Nat.lt_trichotomy i j with h1 | h1 | h1
  · exact absurd e (List.pairwise_iff_getElem.1 h i j hi hj h1)
  · exact h1
  · exact absurd e.symm (List.pairwise_iff_getElem.1 h j i hj hi h1)
theorem keys_of {D : Dk} (h : D.ok) {r : Nat} (hr : r < D.keys.length) : ∃ j, j < D.sure.length ∧ wt D j = true ∧ D.keys.getD r 0 = (j : Int) ∧ r = (wl D j).length := by
  have hr' := hr
  rw [keys_wl h, List.length_map] at hr
  have hm : (wl D D.sure.length)[r] ∈ wl D D.sure.length := List.getElem_mem hr
  obtain ⟨h1, h2⟩ := List.mem_filter.1 hm
  have h1 := List.mem_range.1 h1
  have e : D.keys.getD r 0 = (((wl D D.sure.length)[r] : Nat) : Int) := by rw [keys_wl h]; simp [hr]
  refine ⟨_, h1, h2, e, ?_⟩
  obtain ⟨k1, k2⟩ := keys_at h h1 h2
  have hd : (D.keys).Nodup := by
    unfold Dk.keys
    exact (List.mergeSort_perm _ _).nodup_iff.2 h.kn
  rw [List.getD_eq_getElem?_getD, List.getElem?_eq_getElem hr'] at e
  rw [List.getD_eq_getElem?_getD, List.getElem?_eq_getElem k1] at k2
  simp only [Option.getD_some] at e k2
  exact nodup_at hd hr' k1 (e.trans k2.symm)
/-- What lasts behind a loss, sector by sector. -/
theorem cutn_at {D : Dk} (h : D.ok) (keep : Int) : ∀ (n : Nat) (_ : n ≤ D.keys.length) (j : Nat) (_ : j < D.sure.length), (D.cutn keep n).getD j [] = if wt D j = true ∧ (wl D j).length < n ∧ kb keep (wl D j).length = true then (gk D.es (j : Int)).getD [] else D.sure.getD j []
  | 0, _, j, _ => by rw [if_neg (by omega)]; rfl
  | n + 1, hn, j, hj => by
    have ih := cutn_at h keep n (by omega) j hj
    obtain ⟨i, i1, i2, i3, i4⟩ := keys_of h (r := n) (by omega)
    have hlen := Dk.cutn_len D keep n
    unfold Dk.cutn
    split
    · rename_i hb
      rw [i3]
      simp only [Int.toNat_natCast]
      by_cases e : i = j
      · subst e
        rw [if_pos ⟨i2, by omega, by rw [← i4]; exact hb⟩]
        simp [List.getD_eq_getElem?_getD, List.getElem?_set, hlen, hj]
      · have e1 : ((D.cutn keep n).set i ((gk D.es (i : Int)).getD [])).getD j [] = (D.cutn keep n).getD j [] := by
          simp [List.getD_eq_getElem?_getD, List.getElem?_set, e]
        rw [e1, ih]
        have ne : wt D j = true → (wl D j).length ≠ n := by
          intro hw hh
          obtain ⟨k1, k2⟩ := keys_at h hj hw
          rw [hh, i3] at k2
          omega
        by_cases hc : wt D j = true ∧ (wl D j).length < n ∧ kb keep (wl D j).length = true
        · rw [if_pos hc, if_pos ⟨hc.1, by omega, hc.2.2⟩]
        · rw [if_neg hc, if_neg (fun hc' => hc ⟨hc'.1, by have := ne hc'.1; omega, hc'.2.2⟩)]
    · rename_i hb
      rw [ih]
      by_cases hc : wt D j = true ∧ (wl D j).length < n ∧ kb keep (wl D j).length = true
      · rw [if_pos hc, if_pos ⟨hc.1, by omega, hc.2.2⟩]
      · rw [if_neg hc, if_neg (fun hc' => hc ⟨hc'.1, by
          rcases Nat.lt_or_ge (wl D j).length n with h' | h'
          · exact h'
          · have : (wl D j).length = n := by omega
            rw [this] at hc'; exact absurd hc'.2.2 hb, hc'.2.2⟩)]
/-! ### The relation -/
structure Rel (D : Dk) (p : Pl) : Prop where
  ok : D.ok
  n : p.l.length = D.sure.length
  sec : ∀ j, j < p.l.length → p.l.getD j zSec = ⟨wh (D.sure.getD j []), D.get (j : Int), wt D j⟩
  down : p.down = !D.up
  armed : p.armed = decide (0 ≤ D.fuse)
  left : 0 ≤ D.fuse → p.left = D.fuse
  kp : 0 ≤ D.fuse → p.keep = D.keep
  ac : p.acts = D.acts
  dn : p.downs = D.downs
  kr : 0 ≤ p.keep ∧ p.keep ≤ 18446744073709551615
theorem rank_wl {D : Dk} {p : Pl} (h : Rel D p) : ∀ {j : Nat}, j ≤ p.l.length → rank p.l j = (wl D j).length
  | 0, _ => rfl
  | j + 1, hj => by
    rw [rank_succ p.l (by omega), h.sec j (by omega), rank_wl h (by omega)]
    unfold wl
    rw [List.range_succ, List.filter_append, List.length_append]
    cases hw : wt D j <;> simp [hw]
theorem get_wt {D : Dk} (h : D.ok) {j : Nat} (hw : wt D j = true) : ∃ v, gk D.es (j : Int) = some v ∧ v.length = 64 ∧ D.get (j : Int) = v := by
  unfold wt at hw
  cases hg : gk D.es (j : Int) with
  | none => rw [hg] at hw; cases hw
  | some v =>
    obtain ⟨x, hx, _, rfl⟩ := gk_mem hg
    exact ⟨_, rfl, h.e64 x hx, by simp [Dk.get, hg]⟩
theorem get_nwt {D : Dk} {j : Nat} (hw : wt D j = false) : D.get (j : Int) = wh (D.sure.getD j []) := by
  unfold wt at hw
  cases hg : gk D.es (j : Int) with
  | none => simp [Dk.get, hg]
  | some v => rw [hg] at hw; cases hw
theorem Rel.off {D : Dk} {p : Pl} (h : Rel D p) {keep : Int} (hk : 0 ≤ keep ∧ keep ≤ 18446744073709551615) : Rel (D.off keep) (p.off keep) := by
  have hlen : (p.off keep).l.length = p.l.length := offl_len _ _ _
  have hcl := Dk.cutn_len D keep D.keys.length
  refine ⟨Dk.off_ok h.ok keep, ?_, ?_, rfl, rfl, fun h' => absurd h' (by decide : ¬ (0 : Int) ≤ -1), fun h' => absurd h' (by decide : ¬ (0 : Int) ≤ -1), h.ac, ?_, h.kr⟩
  · rw [hlen, h.n]; exact hcl.symm
  · intro j hj
    rw [hlen] at hj
    have hj' : j < D.sure.length := by rw [← h.n]; exact hj
    have e1 : wt (D.off keep) j = false := rfl
    rw [get_nwt e1, e1]
    have e2 : (D.off keep).sure.getD j [] = (D.cutn keep D.keys.length).getD j [] := rfl
    have e3 : (p.off keep).l.getD j zSec = (offl p.l keep p.l.length).getD j zSec := rfl
    rw [e2, e3, cutn_at h.ok keep _ (Nat.le_refl _) j hj', offl_get p.l keep _ j hj, h.sec j hj, rank_wl h (by omega)]
    cases hw : wt D j
    · simp only [Bool.false_eq_true, and_false, false_and, if_false]
      rw [get_nwt hw]
    · obtain ⟨k1, k2⟩ := keys_at h.ok hj' hw
      obtain ⟨v, v1, v2, v3⟩ := get_wt h.ok hw
      simp only [and_true, hj, k1, true_and, if_true, v3, v1, Option.getD_some]
      unfold offOne
      rw [← kb_bit hk]
      cases hb : kb keep (wl D j).length
      · simp
      · simp [wh_full v2]
  · show IntKind.wrap .i64 (p.downs + 1) = IntKind.wrap .i64 (D.downs + 1)
    rw [h.dn]
theorem Rel.act {D : Dk} {p : Pl} (h : Rel D p) : Rel D.act.2 p.act.2 ∧ (p.act.1 = true → D.act.1 = 0) ∧ (p.act.1 = false → D.act.1 = 9) := by
  have hok := Dk.act_ok h.ok
  have hfu := h.ok.fu
  unfold Dk.act Pl.act at *
  by_cases h0 : D.fuse = 0
  · have ha : p.armed = true := by rw [h.armed, h0]; rfl
    have hl : p.left = 0 := by rw [h.left (by omega), h0]
    have hkp : p.keep = D.keep := h.kp (by omega)
    rw [if_pos h0, if_pos ⟨ha, hl⟩, hkp]
    exact ⟨h.off (by rw [← hkp]; exact h.kr), fun h => (by cases h), fun _ => rfl⟩
  · have hn : ¬ (p.armed = true ∧ p.left = 0) := by
      rintro ⟨a, b⟩
      rw [h.armed] at a
      have a' : 0 ≤ D.fuse := by simpa using a
      rw [h.left a'] at b
      exact h0 b
    rw [if_neg h0] at hok ⊢
    rw [if_neg hn]
    refine ⟨⟨hok, h.n, h.sec, h.down, ?_, ?_, ?_, ?_, h.dn, h.kr⟩, fun _ => rfl, fun h => (by cases h)⟩
    · show p.armed = decide (0 ≤ if 0 < D.fuse then D.fuse - 1 else D.fuse)
      rw [h.armed]
      by_cases h1 : 0 < D.fuse
      · rw [if_pos h1, decide_eq_true (by omega), decide_eq_true (by omega)]
      · rw [if_neg h1]
    · show (0 ≤ if 0 < D.fuse then D.fuse - 1 else D.fuse) → (if p.armed then IntKind.wrap .i64 (p.left - 1) else p.left) = if 0 < D.fuse then D.fuse - 1 else D.fuse
      intro h2
      by_cases h1 : 0 < D.fuse
      · rw [if_pos h1, if_pos (by rw [h.armed]; simp; omega), h.left (by omega), w64 (by omega) (by omega)]
      · rw [if_neg h1] at h2 ⊢
        omega
    · show (0 ≤ if 0 < D.fuse then D.fuse - 1 else D.fuse) → p.keep = D.keep
      intro h2
      refine h.kp ?_
      split at h2 <;> omega
    · show IntKind.wrap .i64 (p.acts + 1) = IntKind.wrap .i64 (D.acts + 1)
      rw [h.ac]
end Go.Sp
