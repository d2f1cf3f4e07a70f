/- The layer page: a cell is laid, a slot is dropped. -/
import Derived.Test.YtpcfjoieinobpaaPp2
import Derived.Test.YtpcfjoieinobpaaKb
namespace Go.Sp
open Go Go.Proofs
set_option linter.unusedVariables false
set_option linter.unusedSimpArgs false
set_option maxRecDepth 10000
/-- A cell laid behind the heap, in a slot. -/
def layB (m : List UInt8) (i : Nat) (c : api_Cell) : List UInt8 :=
  m.take 2 ++ [UInt8.ofNat (bt m 2 + 1), UInt8.ofNat (bt m 3 + 2 + c.Key.length + c.Val.length)] ++ (m.drop 4).take (bt m 3 - 4) ++ [UInt8.ofNat c.Key.length, UInt8.ofNat c.Val.length] ++ c.Key ++ c.Val ++
  (m.drop (bt m 3 + 2 + c.Key.length + c.Val.length)).take (223 - bt m 2 - (bt m 3 + 2 + c.Key.length + c.Val.length)) ++ (m.drop (224 - bt m 2)).take (bt m 2 - i) ++ [UInt8.ofNat (bt m 3)] ++ m.drop (224 - i)
/-- Slots moved on, down to a place. -/
def shB (m : List UInt8) (n k : Nat) : List UInt8 := m.take (223 - n) ++ (m.drop (224 - n)).take (n - k) ++ m.drop (223 - k)
theorem shB_len {m : List UInt8} {n k : Nat} (hm : m.length = 224) (hn : n ≤ 223) (hk : k ≤ n) : (shB m n k).length = 224 := by
  simp [shB, hm]; omega
theorem shB_top (m : List UInt8) (n : Nat) : shB m n n = m := by
  simp [shB]
theorem shB_step {m : List UInt8} {n k : Nat} (hm : m.length = 224) (hn : n ≤ 223) (hk : k ≤ n) (h0 : 0 < k) : (shB m n k).set (223 - k) ((shB m n k).getD (224 - k) 0) = shB m n (k - 1) := by
  have h1 := shB_len hm hn hk
  refine ext_gd (by rw [List.length_set, h1, shB_len hm hn (by omega)]) fun j hj => ?_
  rw [List.length_set, h1] at hj
  rw [gd_set (by rw [h1]; omega)]
  unfold shB
  simp only [gd_app, gd_take, gd_drop, List.length_append, List.length_take, List.length_drop, hm]
  simp only [Nat.min_eq_left (show 223 - n ≤ 224 by omega), Nat.min_eq_left (show n - k ≤ 224 - (224 - n) by omega), Nat.min_eq_left (show n - (k - 1) ≤ 224 - (224 - n) by omega)]
  repeat' split
  all_goals first | rfl | omega | (congr 1; omega)
/-- What lay does, step by step. -/
def layS (m : List UInt8) (i : Nat) (c : api_Cell) : List UInt8 :=
  ((((shB (ovl (ovl ((m.set (bt m 3) (UInt8.ofNat c.Key.length)).set (bt m 3 + 1) (UInt8.ofNat c.Val.length)) (bt m 3 + 2) c.Key) (bt m 3 + 2 + c.Key.length) c.Val) (bt m 2) i).set (223 - i) (UInt8.ofNat (bt m 3))).set 2 (UInt8.ofNat (bt m 2 + 1))).set 3 (UInt8.ofNat (bt m 3 + 2 + c.Key.length + c.Val.length)))
/-- What lies where, behind lay. -/
def layF (m : List UInt8) (i : Nat) (c : api_Cell) (j : Nat) : UInt8 :=
  if j = 3 then UInt8.ofNat (bt m 3 + 2 + c.Key.length + c.Val.length) else if j = 2 then UInt8.ofNat (bt m 2 + 1) else if j < bt m 3 then m.getD j 0 else if j = bt m 3 then UInt8.ofNat c.Key.length else if j = bt m 3 + 1 then UInt8.ofNat c.Val.length
    else if j < bt m 3 + 2 + c.Key.length then c.Key.getD (j - (bt m 3 + 2)) 0 else if j < bt m 3 + 2 + c.Key.length + c.Val.length then c.Val.getD (j - (bt m 3 + 2 + c.Key.length)) 0
    else if j < 223 - bt m 2 then m.getD j 0 else if j < 223 - i then m.getD (j + 1) 0 else if j = 223 - i then UInt8.ofNat (bt m 3) else m.getD j 0
theorem layB_len {m : List UInt8} {i : Nat} {c : api_Cell} (hm : m.length = 224) (h4 : 4 ≤ bt m 3) (hi : i ≤ bt m 2) (hf : bt m 3 + bt m 2 + need c ≤ 224) : (layB m i c).length = 224 := by
  unfold need at hf
  unfold layB
  simp only [List.length_append, List.length_take, List.length_drop, List.length_cons, List.length_nil, hm]
  omega
set_option maxHeartbeats 2000000 in
theorem layB_gd {m : List UInt8} {i : Nat} {c : api_Cell} (hm : m.length = 224) (h4 : 4 ≤ bt m 3) (hi : i ≤ bt m 2) (hf : bt m 3 + bt m 2 + need c ≤ 224) (j : Nat) (hj' : j < 224) : (layB m i c).getD j 0 = layF m i c j := by
  unfold need at hf
  unfold layB layF
  simp only [gd_app, gd_take, gd_drop, gd_cons, gd_nil, List.length_append, List.length_take, List.length_drop, List.length_cons, List.length_nil, hm]
  have e1 : min 2 224 = 2 := rfl
  have e2 : min (bt m 3 - 4) (224 - 4) = bt m 3 - 4 := by omega
  have e3 : min (223 - bt m 2 - (bt m 3 + 2 + c.Key.length + c.Val.length)) (224 - (bt m 3 + 2 + c.Key.length + c.Val.length)) = 223 - bt m 2 - (bt m 3 + 2 + c.Key.length + c.Val.length) := by omega
  have e4 : min (bt m 2 - i) (224 - (224 - bt m 2)) = bt m 2 - i := by omega
  simp only [e1, e2, e3, e4]
  clear e1 e2 e3 e4
  generalize bt m 3 = h3 at *
  generalize bt m 2 = n at *
  generalize c.Key.length = kl at *
  generalize c.Val.length = vl at *
  simp only [Nat.reduceAdd, Nat.zero_add]
  have hcs : j = 3 ∨ j = 2 ∨ j = 0 ∨ j = 1 ∨ (4 ≤ j ∧ j < h3) ∨ j = h3 ∨ j = h3 + 1 ∨ (h3 + 2 ≤ j ∧ j < h3 + 2 + kl) ∨ (h3 + 2 + kl ≤ j ∧ j < h3 + 2 + kl + vl) ∨
      (h3 + 2 + kl + vl ≤ j ∧ j < 223 - n) ∨ (223 - n ≤ j ∧ j < 223 - i) ∨ j = 223 - i ∨ 223 - i < j := by omega
  rcases hcs with h | h | h | h | h | h | h | h | h | h | h | h | h
  all_goals simp (disch := omega) only [if_pos, if_neg]
  all_goals try (congr 1; omega)
theorem layS_len {m : List UInt8} {i : Nat} {c : api_Cell} (hm : m.length = 224) (hi : i ≤ bt m 2) (hf : bt m 3 + bt m 2 + need c ≤ 224) : (layS m i c).length = 224 := by
  unfold need at hf
  have l1 : ((m.set (bt m 3) (UInt8.ofNat c.Key.length)).set (bt m 3 + 1) (UInt8.ofNat c.Val.length)).length = 224 := by simp [hm]
  have l2 := ovl_len (l := ((m.set (bt m 3) (UInt8.ofNat c.Key.length)).set (bt m 3 + 1) (UInt8.ofNat c.Val.length))) (o := bt m 3 + 2) (s := c.Key) (by omega)
  have l3 := ovl_len (l := ovl ((m.set (bt m 3) (UInt8.ofNat c.Key.length)).set (bt m 3 + 1) (UInt8.ofNat c.Val.length)) (bt m 3 + 2) c.Key) (o := bt m 3 + 2 + c.Key.length) (s := c.Val) (by omega)
  unfold layS
  simp only [List.length_set]
  exact shB_len (by omega) (by omega) hi
set_option maxHeartbeats 2000000 in
theorem layS_gd {m : List UInt8} {i : Nat} {c : api_Cell} (hm : m.length = 224) (h4 : 4 ≤ bt m 3) (hi : i ≤ bt m 2) (hf : bt m 3 + bt m 2 + need c ≤ 224) (j : Nat) (hj' : j < 224) : (layS m i c).getD j 0 = layF m i c j := by
  unfold need at hf
  have l1 : ((m.set (bt m 3) (UInt8.ofNat c.Key.length)).set (bt m 3 + 1) (UInt8.ofNat c.Val.length)).length = 224 := by simp [hm]
  have l2 := ovl_len (l := ((m.set (bt m 3) (UInt8.ofNat c.Key.length)).set (bt m 3 + 1) (UInt8.ofNat c.Val.length))) (o := bt m 3 + 2) (s := c.Key) (by omega)
  have l3 := ovl_len (l := ovl ((m.set (bt m 3) (UInt8.ofNat c.Key.length)).set (bt m 3 + 1) (UInt8.ofNat c.Val.length)) (bt m 3 + 2) c.Key) (o := bt m 3 + 2 + c.Key.length) (s := c.Val) (by omega)
  rw [l2, l1] at l3
  rw [l1] at l2
  have l4 := shB_len (n := bt m 2) (k := i) l3 (by omega) hi
  unfold layS
  rw [gd_set (by simp only [List.length_set]; omega), gd_set (by simp only [List.length_set]; omega), gd_set (by omega)]
  have hO : ∀ k, (ovl (ovl ((m.set (bt m 3) (UInt8.ofNat c.Key.length)).set (bt m 3 + 1) (UInt8.ofNat c.Val.length)) (bt m 3 + 2) c.Key) (bt m 3 + 2 + c.Key.length) c.Val).getD k 0 =
      if k < bt m 3 then m.getD k 0 else if k = bt m 3 then UInt8.ofNat c.Key.length else if k = bt m 3 + 1 then UInt8.ofNat c.Val.length else if k < bt m 3 + 2 + c.Key.length then c.Key.getD (k - (bt m 3 + 2)) 0
        else if k < bt m 3 + 2 + c.Key.length + c.Val.length then c.Val.getD (k - (bt m 3 + 2 + c.Key.length)) 0 else m.getD k 0 := by
    intro k
    rw [gd_ovl (by omega), gd_ovl (by omega), gd_set (by simp only [List.length_set]; omega), gd_set (by omega)]
    repeat' split
    all_goals first | rfl | omega
  generalize (ovl (ovl ((m.set (bt m 3) (UInt8.ofNat c.Key.length)).set (bt m 3 + 1) (UInt8.ofNat c.Val.length)) (bt m 3 + 2) c.Key) (bt m 3 + 2 + c.Key.length) c.Val) = M at *
  have hS : (shB M (bt m 2) i).getD j 0 = if j < 223 - bt m 2 then M.getD j 0 else if j < 223 - i then M.getD (j + 1) 0 else M.getD j 0 := by
    unfold shB
    simp only [gd_app, gd_take, gd_drop, List.length_append, List.length_take, List.length_drop, l3]
    repeat' split
    all_goals first | rfl | omega | (congr 1; omega)
  rw [hS, hO, hO]
  clear hS hO l1 l2 l3 l4
  unfold layF
  generalize bt m 3 = h3 at *
  generalize bt m 2 = n at *
  generalize c.Key.length = kl at *
  generalize c.Val.length = vl at *
  have hcs : j = 3 ∨ j = 2 ∨ (j < h3 ∧ j ≠ 2 ∧ j ≠ 3) ∨ j = h3 ∨ j = h3 + 1 ∨ (h3 + 2 ≤ j ∧ j < h3 + 2 + kl) ∨ (h3 + 2 + kl ≤ j ∧ j < h3 + 2 + kl + vl) ∨
      (h3 + 2 + kl + vl ≤ j ∧ j < 223 - n) ∨ (223 - n ≤ j ∧ j < 223 - i) ∨ j = 223 - i ∨ 223 - i < j := by omega
  rcases hcs with h | h | h | h | h | h | h | h | h | h | h
  all_goals simp (disch := omega) only [if_pos, if_neg]
theorem layS_eq {m : List UInt8} {i : Nat} {c : api_Cell} (hm : m.length = 224) (h4 : 4 ≤ bt m 3) (hi : i ≤ bt m 2) (hf : bt m 3 + bt m 2 + need c ≤ 224) : layS m i c = layB m i c := by
  have e1 := layS_len hm hi hf
  refine ext_gd (by rw [e1, layB_len hm h4 hi hf]) fun j hj => ?_
  rw [layS_gd hm h4 hi hf j (by omega), layB_gd hm h4 hi hf j (by omega)]
end Go.Sp
