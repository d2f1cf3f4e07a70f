/- Bytes that are numbers, and back. -/
import Derived.Test.YtpadmllpdkknnaaE5
namespace Go.Sp
open Go Go.Proofs
set_option linter.unusedSimpArgs false
set_option linter.unusedVariables false
theorem fold_eq : ∀ (l : List UInt8) (n : Nat), l.foldl (fun n c => n * 256 + c.toNat) n = n * 256 ^ l.length + be l
  | [], n => by simp [be]
  | c :: l, n => by
    have h1 := fold_eq l (n * 256 + c.toNat)
    have h2 : be (c :: l) = c.toNat * 256 ^ l.length + be l := by
      have := fold_eq l c.toNat
      simpa [be] using this
    rw [h2, List.foldl_cons, h1, List.length_cons, Nat.pow_succ, Nat.add_mul, Nat.mul_assoc, Nat.mul_comm 256 (256 ^ l.length), Nat.add_assoc]
theorem lowb_fold : ∀ (l : List UInt8) (n : Nat), lowb ((l.foldl (fun n c => n * 256 + c.toNat) n : Nat) : Int) l.length = l
  | [], n => rfl
  | c :: l, n => by
    have h := lowb_fold l (n * 256 + c.toNat)
    simp only [List.foldl_cons, List.length_cons, lowb]
    rw [h]
    have e := fold_eq l (n * 256 + c.toNat)
    have hb := be_lt l
    have hd : (l.foldl (fun n c => n * 256 + c.toNat) (n * 256 + c.toNat)) / 256 ^ l.length = n * 256 + c.toNat := by
      rw [e, Nat.mul_comm, Nat.mul_add_div (Nat.pow_pos (by decide)), Nat.div_eq_of_lt hb]; omega
    have hc := c.toNat_lt
    have h3 : ((((l.foldl (fun n c => n * 256 + c.toNat) (n * 256 + c.toNat) : Nat) : Int) / 256 ^ l.length) % 256).toNat = c.toNat := by
      generalize l.foldl (fun n c => n * 256 + c.toNat) (n * 256 + c.toNat) = X at *
      have h4 : ((X : Int) / 256 ^ l.length) = ((X / 256 ^ l.length : Nat) : Int) := by simp
      rw [h4, hd]; omega
    rw [h3]
    simp
theorem lowb_be {l : List UInt8} {w : Nat} (h : l.length = w) : lowb (be l : Int) w = l := by subst h; exact lowb_fold l 0
theorem be_fit {l : List UInt8} {w : Nat} (h : l.length = w) : ((be l : Int) / 256 ^ w == 0) = true := by
  subst h
  have hb := be_lt l
  have : be l / 256 ^ l.length = 0 := Nat.div_eq_of_lt hb
  have h4 : ((be l : Int) / 256 ^ l.length) = ((be l / 256 ^ l.length : Nat) : Int) := by simp
  rw [h4, this]; rfl
theorem bof_ft (s : List UInt8) (hs : s.length = 64) : ft (bof s) 7 = true := by
  have f : ∀ a w : Nat, a + w ≤ 64 → ((be ((s.drop a).take w) : Int) / 256 ^ w == 0) = true := fun a w h => be_fit (by simp; omega)
  simp only [ft, ns, wds, bof, List.getD_cons_zero, List.getD_cons_succ]
  rw [f 9 1 (by omega), f 10 4 (by omega), f 14 2 (by omega), f 16 6 (by omega), f 22 6 (by omega), f 28 4 (by omega), f 32 4 (by omega)]
  simp
theorem bof_eb (s : List UInt8) (hs : s.length = 64) (h9 : s.take 9 = 0 :: 7 :: sg) : eb (bof s) 7 = s.take 36 := by
  have f : ∀ a w : Nat, a + w ≤ 64 → lowb (be ((s.drop a).take w) : Int) w = (s.drop a).take w := fun a w h => lowb_be (by simp; omega)
  have g : ∀ a w : Nat, s.take a ++ (s.drop a).take w = s.take (a + w) := fun a w => by rw [List.take_add]
  simp only [eb, ns, wds, bof, List.getD_cons_zero, List.getD_cons_succ]
  rw [f 9 1 (by omega), f 10 4 (by omega), f 14 2 (by omega), f 16 6 (by omega), f 22 6 (by omega), f 28 4 (by omega), f 32 4 (by omega)]
  have h0 : ([0, 7, 103, 104, 97, 114, 114, 121, 49] : List UInt8) = s.take 9 := h9.symm
  rw [h0, g, g, g, g, g, g, g]
end Go.Sp
