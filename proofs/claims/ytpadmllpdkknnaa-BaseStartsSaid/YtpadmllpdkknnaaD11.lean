/- The disk: many writes, a sync, many writes, a loss of power. -/
import Derived.Test.YtpadmllpdkknnaaD10
namespace Go.Sp
open Go Go.Proofs
set_option linter.unusedSimpArgs false
set_option linter.unusedVariables false
/-- The first texts of a list are written, each that has room. -/
def Dk.wr (D : Dk) (l : List (List UInt8)) : Nat → Dk
  | 0 => D
  | i + 1 => if (l.getD i []).length ≤ 64 then ((D.wr l i).write (i : Int) (l.getD i [])).2 else D.wr l i
/-- A disk that nothing lets go. -/
structure Dk.calm (D : Dk) (sb : Nat) (n : Nat) : Prop where
  ok : D.ok
  sb : D.sb = sb
  up : D.up = true
  fu : D.fuse < 0
  n : D.sure.length = n
theorem Dk.calm.chk {D : Dk} {sb n : Nat} (h : D.calm sb n) {i : Nat} (hi : i < n) : D.chk (i : Int) = 0 := by
  unfold Dk.chk
  rw [h.up, h.n, if_neg (by simp), if_neg (by omega)]
theorem Dk.calm.write {D : Dk} {sb n : Nat} (h : D.calm sb n) {i : Nat} (hi : i < n) {s : List UInt8} (hs : s.length ≤ 64) :
    (D.write (i : Int) s).1 = 0 ∧ (D.write (i : Int) s).2.calm sb n ∧ (D.write (i : Int) s).2.sure = D.sure ∧ (D.write (i : Int) s).2.downs = D.downs ∧ ∀ j : Int, gk (D.write (i : Int) s).2.es j = if (i : Int) = j then some (wh s) else gk D.es j := by
  have hok := Dk.write_ok h.ok (i : Int) s
  rw [Dk.write_go (h.chk hi) hs h.fu] at hok ⊢
  exact ⟨rfl, ⟨hok, h.sb, h.up, h.fu, h.n⟩, rfl, rfl, fun j => gk_pk _ _ _ _ _⟩
theorem Dk.calm.wr {D : Dk} {sb n : Nat} (h : D.calm sb n) (l : List (List UInt8)) : ∀ i, i ≤ n → (D.wr l i).calm sb n ∧ (D.wr l i).sure = D.sure ∧ ∀ j : Nat, gk (D.wr l i).es (j : Int) = if j < i ∧ (l.getD j []).length ≤ 64 then some (wh (l.getD j [])) else gk D.es (j : Int)
  | 0, _ => ⟨h, rfl, fun j => by simp [Dk.wr]⟩
  | i + 1, hi => by
    obtain ⟨h1, h2, h3⟩ := Dk.calm.wr h l i (by omega)
    unfold Dk.wr
    split
    · rename_i hs
      obtain ⟨_, w2, w3, _, w5⟩ := h1.write (by omega : i < n) hs
      refine ⟨w2, w3.trans h2, fun j => ?_⟩
      rw [w5, h3]
      by_cases hj : i = j
      · subst hj
        rw [if_pos rfl, if_pos ⟨by omega, hs⟩]
      · rw [if_neg (by omega)]
        by_cases hc : j < i ∧ (l.getD j []).length ≤ 64
        · rw [if_pos hc, if_pos ⟨by omega, hc.2⟩]
        · rw [if_neg hc, if_neg (fun hc' => hc ⟨by omega, hc'.2⟩)]
    · rename_i hs
      refine ⟨h1, h2, fun j => ?_⟩
      rw [h3]
      by_cases hj : i = j
      · subst hj
        rw [if_neg (by omega), if_neg (fun hc => hs hc.2)]
      · by_cases hc : j < i ∧ (l.getD j []).length ≤ 64
        · rw [if_pos hc, if_pos ⟨by omega, hc.2⟩]
        · rw [if_neg hc, if_neg (fun hc' => hc ⟨by omega, hc'.2⟩)]
theorem Dk.calm.sync {D : Dk} {sb n : Nat} (h : D.calm sb n) (hn : 0 < n) : D.sync.1 = 0 ∧ D.sync.2.calm sb n ∧ D.sync.2.es = [] ∧ D.sync.2.downs = D.downs ∧ ∀ j : Nat, j < n → D.sync.2.get (j : Int) = D.get (j : Int) := by
  have hok := Dk.sync_ok h.ok
  have hc := h.chk hn
  rw [Dk.sync_go hc h.fu] at hok ⊢
  have hA : ({ D with acts := IntKind.wrap .i64 (D.acts + 1) } : Dk).ok := by
    obtain ⟨g1, g2, g3, g4, g5, g6, g7, g8, g9, g10⟩ := h.ok
    exact ⟨g1, g2, g3, g4, g5, g6, g7, g8, g9, g10⟩
  refine ⟨rfl, ⟨hok, h.sb, h.up, h.fu, ?_⟩, rfl, rfl, fun j hj => ?_⟩
  · show (sy D.es D.sure).length = n
    rw [sy_len]; exact h.n
  · exact Dk.flush_get hA (by rw [← h.n] at hj; exact hj)
theorem Dk.calm.new {sb bb mb n : Nat} (h0 : 0 < n) (h1 : n ≤ 8192) : (Dk.new sb bb mb n).calm sb n := ⟨Dk.new_ok h0 h1, rfl, rfl, (by decide : (-1 : Int) < 0), by simp [Dk.new]⟩
theorem Dk.calm.off {D : Dk} {sb n : Nat} (h : D.calm sb n) (keep : Int) : (D.off keep).on.calm sb n ∧ (D.off keep).up = false ∧ (D.off keep).ok ∧ (D.off keep).sb = sb ∧
    ∀ j : Nat, (D.off keep).on.get (j : Int) = wh (D.sure.getD j []) ∨ ∃ v, gk D.es (j : Int) = some v ∧ v.length = 64 ∧ (D.off keep).on.get (j : Int) = v := by
  have hok := Dk.off_ok h.ok keep
  refine ⟨⟨Dk.on_ok hok, h.sb, rfl, (by decide : (-1 : Int) < 0), ?_⟩, rfl, hok, h.sb, fun j => ?_⟩
  · show (D.cutn keep D.keys.length).length = n
    rw [Dk.cutn_len]; exact h.n
  · have e : (D.off keep).on.get (j : Int) = wh ((D.cutn keep D.keys.length).getD j []) := rfl
    rw [e]
    rcases Dk.cut_or h.ok keep D.keys.length (Nat.le_refl _) j with h1 | h1
    · left; rw [h1]
    · right
      obtain ⟨x, hx, _, hv⟩ := gk_mem h1
      have h64 := h.ok.e64 x hx
      rw [hv] at h64
      exact ⟨_, h1, h64, wh_full h64⟩
/-- What is to be read of a list's place. -/
def was (l : List (List UInt8)) (j : Nat) : List UInt8 := if j < l.length ∧ (l.getD j []).length ≤ 64 then wh (l.getD j []) else wh []
theorem wh_len64 (s : List UInt8) : 64 ≤ (wh s).length := by simp [wh]; omega
theorem was_get {D : Dk} {sb n : Nat} (h : D.calm sb n) (he : D.es = []) (hs : D.sure = List.replicate n []) (l : List (List UInt8)) {k : Nat} (hk : k ≤ n) (hl : k = min l.length n) {j : Nat} (hj : j < n) : (D.wr l k).get (j : Int) = was l j := by
  obtain ⟨h1, h2, h3⟩ := h.wr l k hk
  unfold Dk.get was
  rw [h3, h2, he, hs]
  by_cases hc : j < l.length ∧ (l.getD j []).length ≤ 64
  · rw [if_pos hc, if_pos ⟨by omega, hc.2⟩]; rfl
  · rw [if_neg hc, if_neg (fun hc' => hc ⟨by omega, hc'.2⟩)]
    simp [gk, hj]
theorem lasts {D : Dk} {sb n : Nat} (h : D.calm sb n) (he : D.es = []) (hn : 0 < n) (m : List (List UInt8)) {k : Nat} (hk : k ≤ n) (hm : k ≤ m.length) (keep : Int) {j : Nat} (hj : j < n) :
    ((D.wr m k).off keep).on.get (j : Int) = D.get (j : Int) ∨ (j < m.length ∧ (m.getD j []).length ≤ 64 ∧ ((D.wr m k).off keep).on.get (j : Int) = wh (m.getD j [])) := by
  obtain ⟨h1, h2, h3⟩ := h.wr m k hk
  obtain ⟨_, _, _, _, h4⟩ := h1.off keep
  rcases h4 j with h5 | ⟨v, h5, h6, h7⟩
  · left
    rw [h5, h2]
    unfold Dk.get
    rw [he]
    simp [gk]
  · right
    rw [h3] at h5
    by_cases hc : j < k ∧ (m.getD j []).length ≤ 64
    · rw [if_pos hc] at h5
      exact ⟨by omega, hc.2, by rw [h7]; simpa using h5.symm⟩
    · rw [if_neg hc, he] at h5
      cases h5
theorem Dk.write_sb (D : Dk) (i : Int) (s : List UInt8) : (D.write i s).2.sb = D.sb := by
  have := Dk.act_sb D
  unfold Dk.write
  split
  · split
    · rfl
    · split
      · exact this
      · exact this
  · rfl
theorem Dk.sync_sb (D : Dk) : D.sync.2.sb = D.sb := by
  have := Dk.act_sb D
  unfold Dk.sync
  split
  · split
    · exact this
    · exact this
  · rfl
end Go.Sp
