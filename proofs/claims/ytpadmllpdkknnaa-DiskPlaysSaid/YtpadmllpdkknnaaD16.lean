/- The disk and the law's own disk: each call. -/
import Derived.Test.YtpadmllpdkknnaaD15
namespace Go.Sp
open Go Go.Proofs
set_option linter.unusedSimpArgs false
set_option linter.unusedVariables false
set_option maxRecDepth 10000
theorem Rel.chk {D : Dk} {p : Pl} (h : Rel D p) (i : Int) : D.chk i = if p.down then 9 else if i < 0 ∨ (p.l.length : Int) ≤ i then 6 else 0 := by
  unfold Dk.chk
  rw [h.n, h.down]
  cases D.up <;> simp
theorem Rel.put {D : Dk} {p : Pl} (h : Rel D p) {i : Nat} (hi : i < p.l.length) {s : List UInt8} (hs : s.length = 64) : Rel (D.put (i : Int) s) (p.put i s) := by
  have hj : i < D.sure.length := by rw [← h.n]; exact hi
  refine ⟨Dk.put_ok h.ok (by omega) (by omega) hs, ?_, ?_, h.down, h.armed, h.left, h.kp, h.ac, h.dn, h.kr⟩
  · show (p.l.set i _).length = _
    rw [List.length_set]; exact h.n
  · intro j hj
    have hl : (p.put i s).l.length = p.l.length := by simp [Pl.put]
    rw [hl] at hj
    have hw : wt (D.put (i : Int) s) j = if i = j then true else wt D j := by
      show (gk (pk D.es (i : Int) s D.c) (j : Int)).isSome = _
      rw [gk_pk]
      by_cases e : i = j
      · subst e; simp
      · rw [if_neg (by omega), if_neg e]; rfl
    have hg : (D.put (i : Int) s).get (j : Int) = if i = j then s else D.get (j : Int) := by
      rw [Dk.get_put]
      by_cases e : i = j
      · subst e; simp
      · rw [if_neg (by omega), if_neg e]
    have e1 : (D.put (i : Int) s).sure = D.sure := rfl
    rw [hw, hg, e1]
    show (p.l.set i _).getD j zSec = _
    by_cases e : i = j
    · subst e
      have := h.sec i hi
      simp [List.getD_eq_getElem?_getD, hi] at this ⊢
      rw [this]
    · rw [if_neg e, if_neg e, ← h.sec j hj]
      simp [List.getD_eq_getElem?_getD, List.getElem?_set, e]
theorem Rel.write {D : Dk} {p : Pl} (h : Rel D p) (i : Int) (s : List UInt8) : Rel (D.write i s).2 (p.write i s).2 ∧ (D.write i s).1 = (p.write i s).1 := by
  have hc := h.chk i
  obtain ⟨a1, a2, a3⟩ := h.act
  have al := p.act_same.1
  unfold Dk.write Pl.write
  cases hd : p.down
  · simp only [hd, Bool.false_eq_true, if_false] at hc ⊢
    by_cases h1 : i < 0 ∨ (p.l.length : Int) ≤ i
    · rw [if_pos h1] at hc ⊢
      rw [hc]
      exact ⟨h, rfl⟩
    · rw [if_neg h1] at hc ⊢
      rw [hc, if_pos rfl]
      by_cases h2 : 64 < s.length
      · rw [if_pos h2, if_pos h2]; exact ⟨h, rfl⟩
      · rw [if_neg h2, if_neg h2]
        cases ht : p.act.1
        · rw [a3 ht]
          exact ⟨a1, rfl⟩
        · rw [a2 ht]
          obtain ⟨j, rfl⟩ : ∃ j : Nat, i = (j : Int) := ⟨i.toNat, by omega⟩
          simp only [Int.toNat_natCast, if_true]
          exact ⟨a1.put (by omega) (wh_len (by omega)), trivial⟩
  · simp only [hd, if_true] at hc ⊢
    rw [hc]
    exact ⟨h, rfl⟩
theorem Rel.flush {D : Dk} {p : Pl} (h : Rel D p) : Rel D.flush p.flush := by
  have hl : p.flush.l.length = p.l.length := syl_len _ _
  have hl2 : D.flush.sure.length = D.sure.length := sy_len _ _
  refine ⟨Dk.flush_ok h.ok, by rw [hl, hl2]; exact h.n, ?_, h.down, h.armed, h.left, h.kp, h.ac, h.dn, h.kr⟩
  intro j hj
  rw [hl] at hj
  have hj' : j < D.sure.length := by rw [← h.n]; exact hj
  have e1 : wt D.flush j = false := rfl
  have e2 : p.flush.l.getD j zSec = (syl p.l p.l.length).getD j zSec := rfl
  have e3 := Dk.flush_get h.ok hj'
  rw [e1, ← get_nwt e1, e3, e2, syl_get p.l _ j hj, if_pos hj, h.sec j hj]
theorem Rel.sync {D : Dk} {p : Pl} (h : Rel D p) (hn : 0 < p.l.length) : Rel D.sync.2 p.sync.2 ∧ D.sync.1 = p.sync.1 := by
  have hc := h.chk 0
  obtain ⟨a1, a2, a3⟩ := h.act
  unfold Dk.sync Pl.sync
  cases hd : p.down
  · simp only [hd, Bool.false_eq_true, if_false] at hc ⊢
    rw [if_neg (by omega)] at hc
    rw [hc, if_pos rfl]
    cases ht : p.act.1
    · rw [a3 ht]; exact ⟨a1, rfl⟩
    · rw [a2 ht]; exact ⟨a1.flush, rfl⟩
  · simp only [hd, if_true] at hc ⊢
    rw [hc]
    exact ⟨h, rfl⟩
theorem Rel.arm {D : Dk} {p : Pl} (h : Rel D p) {n k : Int} (hn : 0 ≤ n ∧ n ≤ 9223372036854775807) (hk : 0 ≤ k ∧ k ≤ 18446744073709551615) : Rel { D with fuse := n, keep := k } { p with armed := true, left := n, keep := k } := by
  obtain ⟨g1, g2, g3, g4, g5, g6, g7, g8, g9, g10⟩ := h.ok
  exact ⟨⟨g1, g2, g3, g4, g5, g6, g7, g8, ⟨by show -1 ≤ n; omega, hn.2⟩, hk⟩, h.n, h.sec, h.down, (decide_eq_true hn.1).symm, fun _ => rfl, fun _ => rfl, h.ac, h.dn, hk⟩
theorem Rel.calm {D : Dk} {p : Pl} (h : Rel D p) : Rel { D with fuse := -1 } { p with armed := false } := by
  obtain ⟨g1, g2, g3, g4, g5, g6, g7, g8, g9, g10⟩ := h.ok
  exact ⟨⟨g1, g2, g3, g4, g5, g6, g7, g8, (by decide : -1 ≤ (-1 : Int) ∧ (-1 : Int) ≤ 9223372036854775807), g10⟩, h.n, h.sec, h.down, rfl, fun h' => absurd h' (by decide : ¬ (0 : Int) ≤ -1), fun h' => absurd h' (by decide : ¬ (0 : Int) ≤ -1), h.ac, h.dn, h.kr⟩
theorem Rel.on {D : Dk} {p : Pl} (h : Rel D p) : Rel D.on { p with down := false } :=
  ⟨Dk.on_ok h.ok, h.n, h.sec, rfl, h.armed, h.left, h.kp, h.ac, h.dn, h.kr⟩
theorem Rel.on_up {D : Dk} {p : Pl} (h : Rel D p) (hd : p.down = false) : Rel D.on p := by
  have := h.on
  rw [← hd] at this
  exact this
end Go.Sp
