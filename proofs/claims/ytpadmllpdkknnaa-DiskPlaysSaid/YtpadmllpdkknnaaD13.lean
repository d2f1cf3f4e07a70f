/- The law's own disk: what its functions do. -/
import Derived.Test.YtpadmllpdkknnaaD10
import Derived.Test.YtpadmllpdkknnaaK23
namespace Go.Sp
open Go Go.Proofs
set_option linter.unusedSimpArgs false
set_option linter.unusedVariables false
set_option maxRecDepth 10000
theorem flat_getT {α : Type} {cel : α → List Value} {sz : Nat} (hc : ∀ x, (cel x).length = sz) {xs : List α} {tl : List Value} {i : Nat} {x : α} (hx : xs[i]? = some x) {j : Nat} {v : Value} (hj : (cel x)[j]? = some v) : (xs.flatMap cel ++ tl)[i * sz + j]? = some v := by
  have h := flat_get hc xs i x hx j v hj
  have hl : i * sz + j < (xs.flatMap cel).length := by
    rcases Nat.lt_or_ge (i * sz + j) (xs.flatMap cel).length with h' | h'
    · exact h'
    · rw [List.getElem?_eq_none h'] at h; cases h
  rw [List.getElem?_append_left hl]; exact h
theorem flat_set {α : Type} {cel : α → List Value} {sz : Nat} (hc : ∀ x, (cel x).length = sz) : ∀ (xs : List α) (i : Nat) (x x' : α) (_ : xs[i]? = some x) (j : Nat) (v : Value) (_ : j < sz) (_ : cel x' = (cel x).set j v), (xs.flatMap cel).set (i * sz + j) v = (xs.set i x').flatMap cel
  | y :: r, 0, x, x', hx, j, v, hj, he => by
    simp only [List.getElem?_cons_zero, Option.some.injEq] at hx
    subst hx
    simp only [Nat.zero_mul, Nat.zero_add, List.flatMap_cons, List.set_cons_zero]
    rw [List.set_append_left _ _ (by rw [hc]; exact hj), he]
  | y :: r, i + 1, x, x', hx, j, v, hj, he => by
    simp only [List.getElem?_cons_succ] at hx
    have ih := flat_set hc r i x x' hx j v hj he
    simp only [List.flatMap_cons, List.set_cons_succ]
    rw [List.set_append_right _ _ (by rw [hc, Nat.add_mul]; omega), hc, ← ih]
    congr 2
    rw [Nat.add_mul]; omega
  | [], i, x, x', hx, _, _, _, _ => by simp at hx
theorem flat_setT {α : Type} {cel : α → List Value} {sz : Nat} (hc : ∀ x, (cel x).length = sz) {xs : List α} {tl : List Value} {i : Nat} {x : α} (x' : α) (hx : xs[i]? = some x) {j : Nat} {v : Value} (hj : j < sz) (he : cel x' = (cel x).set j v) : (xs.flatMap cel ++ tl).set (i * sz + j) v = (xs.set i x').flatMap cel ++ tl := by
  have hi : i < xs.length := by
    rcases Nat.lt_or_ge i xs.length with h' | h'
    · exact h'
    · rw [List.getElem?_eq_none h'] at hx; cases hx
  have hle : (i + 1) * sz ≤ xs.length * sz := Nat.mul_le_mul_right _ hi
  rw [Nat.add_mul] at hle
  rw [List.set_append_left _ _ (by rw [flat_len hc]; omega), flat_set hc xs i x x' hx j v hj he]
theorem flat_lt {α : Type} {cel : α → List Value} {sz : Nat} (hc : ∀ x, (cel x).length = sz) {xs : List α} {tl : List Value} {i j : Nat} (hi : i < xs.length) (hj : j < sz) : i * sz + j < (xs.flatMap cel ++ tl).length := by
  have hle : (i + 1) * sz ≤ xs.length * sz := Nat.mul_le_mul_right _ hi
  rw [Nat.add_mul] at hle
  rw [List.length_append, flat_len hc]; omega
/-! ### The law's disk -/
abbrev Sec := gharrylaw03_sector
abbrev cSec (x : Sec) : List Value := [str x.sure, str x.now, .bool x.waits]
theorem cSec_len (x : Sec) : (cSec x).length = 3 := rfl
section
variable {q : List Sec} {tl : List Value} {i : Nat} {x : Sec}
theorem sec_ld0 (hx : q[i]? = some x) : (q.flatMap cSec ++ tl)[i * 3]? = some (eS.enc x.sure) := flat_getT cSec_len hx (j := 0) rfl
theorem sec_ld1 (hx : q[i]? = some x) : (q.flatMap cSec ++ tl)[i * 3 + 1]? = some (eS.enc x.now) := flat_getT cSec_len hx (j := 1) rfl
theorem sec_ld2 (hx : q[i]? = some x) : (q.flatMap cSec ++ tl)[i * 3 + 2]? = some (eB.enc x.waits) := flat_getT cSec_len hx (j := 2) rfl
theorem sec_st0 (v : List UInt8) (hx : q[i]? = some x) : (q.flatMap cSec ++ tl).set (i * 3) (str v) = (q.set i ⟨v, x.now, x.waits⟩).flatMap cSec ++ tl := flat_setT cSec_len (⟨v, x.now, x.waits⟩ : Sec) hx (j := 0) (by decide) rfl
theorem sec_st1 (v : List UInt8) (hx : q[i]? = some x) : (q.flatMap cSec ++ tl).set (i * 3 + 1) (str v) = (q.set i ⟨x.sure, v, x.waits⟩).flatMap cSec ++ tl := flat_setT cSec_len (⟨x.sure, v, x.waits⟩ : Sec) hx (j := 1) (by decide) rfl
theorem sec_st2 (v : Bool) (hx : q[i]? = some x) : (q.flatMap cSec ++ tl).set (i * 3 + 2) (.bool v) = (q.set i ⟨x.sure, x.now, v⟩).flatMap cSec ++ tl := flat_setT cSec_len (⟨x.sure, x.now, v⟩ : Sec) hx (j := 2) (by decide) rfl
theorem sec_lt0 (hi : i < q.length) : i * 3 < (q.flatMap cSec ++ tl).length := flat_lt cSec_len hi (j := 0) (by decide)
theorem sec_lt1 (hi : i < q.length) : i * 3 + 1 < (q.flatMap cSec ++ tl).length := flat_lt cSec_len hi (j := 1) (by decide)
theorem sec_lt2 (hi : i < q.length) : i * 3 + 2 < (q.flatMap cSec ++ tl).length := flat_lt cSec_len hi (j := 2) (by decide)
theorem set_get {α : Type} {l : List α} (i : Nat) (x : α) (h : i < l.length) : (l.set i x)[i]? = some x := by simp [h]
end
def zSec : Sec := ⟨[], [], false⟩
structure Pl where
  b : Nat
  g : Nat
  c : Nat
  l : List Sec
  tl : List Value
  down : Bool
  armed : Bool
  left : Int
  keep : Int
  acts : Int
  downs : Int
abbrev pll (p : Pl) : List HP := [ar p.b 49 [.slice (some ⟨p.g, 0, none⟩) p.l.length p.c, .bool p.down, .bool p.armed, .int .i64 p.left, .int .u64 p.keep, .int .i64 p.acts, .int .i64 p.downs], ar p.g 51 (p.l.flatMap cSec ++ p.tl)]
def Pl.p (p : Pl) : Value := .pointer (some ⟨p.b, 0, none⟩)
def rank (l : List Sec) (i : Nat) : Nat := ((l.take i).filter (·.waits)).length
def hv (keep : Int) : Nat → Int
  | 0 => keep
  | j + 1 => (hv keep j).tdiv 2
def bitOf (keep : Int) (k : Nat) : Bool := (hv keep (k % 64)).tmod 2 == 1
def offOne (keep : Int) (k : Nat) (x : Sec) : Sec := let s := if bitOf keep k then x.now else x.sure; ⟨s, s, false⟩
def offl (l : List Sec) (keep : Int) : Nat → List Sec
  | 0 => l
  | i + 1 => if (l.getD i zSec).waits then (offl l keep i).set i (offOne keep (rank l i) (l.getD i zSec)) else offl l keep i
theorem offl_len (l : List Sec) (keep : Int) : ∀ i, (offl l keep i).length = l.length
  | 0 => rfl
  | i + 1 => by unfold offl; split <;> simp [offl_len l keep i]
theorem offl_get (l : List Sec) (keep : Int) : ∀ (i j : Nat), j < l.length → (offl l keep i).getD j zSec = if j < i ∧ (l.getD j zSec).waits then offOne keep (rank l j) (l.getD j zSec) else l.getD j zSec
  | 0, j, hj => by simp [offl]
  | i + 1, j, hj => by
    have ih := offl_get l keep i j hj
    unfold offl
    split
    · rename_i hw
      by_cases h : i = j
      · subst h
        rw [if_pos ⟨by omega, hw⟩]
        simp [List.getD_eq_getElem?_getD, List.getElem?_set, offl_len, hj]
      · have e : ((offl l keep i).set i (offOne keep (rank l i) (l.getD i zSec))).getD j zSec = (offl l keep i).getD j zSec := by
          simp [List.getD_eq_getElem?_getD, List.getElem?_set, h]
        rw [e, ih]
        by_cases hc : j < i ∧ (l.getD j zSec).waits = true
        · rw [if_pos hc, if_pos ⟨by omega, hc.2⟩]
        · rw [if_neg hc, if_neg (fun hc' => hc ⟨by omega, hc'.2⟩)]
    · rename_i hw
      rw [ih]
      by_cases hc : j < i ∧ (l.getD j zSec).waits = true
      · rw [if_pos hc, if_pos ⟨by omega, hc.2⟩]
      · rw [if_neg hc, if_neg (fun hc' => hc ⟨by
          rcases Nat.lt_or_ge j i with h | h
          · exact h
          · have : j = i := by omega
            subst this; exact absurd hc'.2 hw, hc'.2⟩)]
theorem offl_at (l : List Sec) (keep : Int) {i : Nat} (hi : i < l.length) : (offl l keep i)[i]? = some (l.getD i zSec) := by
  have h := offl_get l keep i i hi
  rw [if_neg (by omega)] at h
  rw [← h]
  have hl := offl_len l keep i
  rw [List.getD_eq_getElem?_getD, List.getElem?_eq_getElem (by omega)]
  rfl
theorem rank_succ (l : List Sec) {i : Nat} (hi : i < l.length) : rank l (i + 1) = if (l.getD i zSec).waits then rank l i + 1 else rank l i := by
  unfold rank
  rw [List.take_succ_eq_append_getElem hi, List.filter_append]
  have : l.getD i zSec = l[i] := by simp [hi]
  rw [this]
  cases h : l[i].waits <;> simp [h]
theorem rank_le (l : List Sec) (i : Nat) : rank l i ≤ i := by
  unfold rank
  exact Nat.le_trans (List.length_filter_le _ _) (by simp; omega)
def Pl.off (p : Pl) (keep : Int) : Pl := { p with l := offl p.l keep p.l.length, down := true, armed := false, downs := IntKind.wrap .i64 (p.downs + 1) }
theorem hv_nn (keep : Int) (h : 0 ≤ keep) : ∀ j, 0 ≤ hv keep j ∧ hv keep j ≤ keep
  | 0 => ⟨h, Int.le_refl _⟩
  | j + 1 => by
    have ih := hv_nn keep h j
    unfold hv
    rw [td ih.1]
    omega
theorem wU64 {n : Int} (h : 0 ≤ n) (h' : n ≤ 18446744073709551615) : IntKind.wrap .u64 n = n := by
  rw [IntKind.wrap_u64]; omega
end Go.Sp
