/- A text's bytes as a slice; numbers of bytes. -/
import Derived.Test.YtpadmllpdkknnaaK21
import Derived.Lib.ConvBytes
namespace Go.Sp
open Go
/-- A block whose first cells are a text's bytes. -/
def sb (b : Nat) (s : List UInt8) : HP := fun h => ∃ cs e fr, h (b + 1) = some (.inl (.cells cs e fr)) ∧ cs.toList.take s.length = cb s
class S1 (L : List HP) (b : Nat) (s : outParam (List UInt8)) (R : outParam (List HP)) : Prop where p : At L (sb b s) R
section
variable {P : Program} {L R : List HP} {b : Nat} {s : List UInt8} {y : HP}
instance S1.there [h : S1 L b s R] : S1 (y :: L) b s (y :: R) := ⟨.there h.p⟩
instance S1.here : S1 (sb b s :: L) b s L := ⟨.here⟩
theorem i_sb {k : Int → W} {i : Nat} [hs : S1 L b s R] (hi : i < s.length) (h : E L (k (bt s i : Int))) : E L (ld eU8 ⟨b, i, none⟩ k) :=
  r_ldA hs.p (fun h' ⟨cs, e, fr, h1, h2⟩ => by
    have h3 : (cs.toList.take s.length)[i]? = (cb s)[i]? := by rw [h2]
    rw [List.getElem?_take, if_pos hi, cb_get hi] at h3
    have h4 : cs[i]? = some (.int .u8 ((s.getD i 0).toNat : Int)) := by simpa using h3
    simp only [pc, h1, Option.isSome_none, Bool.false_eq_true, if_false]
    exact h4) h
def cvsOk (P : Program) (src dst : TypeId) : Bool := match P.underlying src, P.underlying dst with
  | some .string, some (.slice e) => (match P.underlying e with
    | some (.int .u8) => true
    | _ => false)
  | _, _ => false
theorem r_cvs {src dst : TypeId} {k : SlV → W} (hk : cvsOk P src dst = true) (h : ∀ b c, E (sb b s :: L) (k (some ⟨b, 0, none⟩, s.length, c))) : E L (val eSl P (oConv src dst (str s)) k) := fun w hw => by
  unfold cvsOk at hk
  split at hk
  case h_2 => cases hk
  rename_i e h1 h2
  split at hk
  case h_2 => cases hk
  rename_i h3
  have hr := Lib.run_convert_string_bytes w src dst e ⟨s.toArray⟩ h1 h2 h3
  have hsz : (⟨s.toArray⟩ : ByteArray).size = s.length := rfl
  refine ⟨(some ⟨w.heap.size, 0, none⟩, s.length, _), _, hr, h _ _ _ ?_⟩
  have hnew := Lib.bytesWorld_at_new w e ⟨s.toArray⟩
  have hold := Lib.bytesWorld_at_old w e ⟨s.toArray⟩
  have hos : (Lib.bytesWorld w e ⟨s.toArray⟩).os = w.os ∧ (Lib.bytesWorld w e ⟨s.toArray⟩).output = w.output ∧ (Lib.bytesWorld w e ⟨s.toArray⟩).tape = w.tape := by
    unfold Lib.bytesWorld World.freeze
    split <;> exact ⟨rfl, rfl, rfl⟩
  generalize Lib.bytesWorld w e ⟨s.toArray⟩ = w' at *
  refine ⟨fun n => if n = w.heap.size + 1 then some (.inl (.cells (Lib.bytesCells w e ⟨s.toArray⟩) e ((Lib.bytesCells w e ⟨s.toArray⟩).size, (Lib.bytesCells w e ⟨s.toArray⟩).size + 1))) else none, hp w, ?_, ?_, ?_, ⟨_, e, _, by simp; exact ⟨rfl, rfl⟩, ?_⟩, hw⟩
  · intro n
    by_cases hn : n = w.heap.size + 1
    · subst hn; exact .inr (by simp [hp])
    · exact .inl (by simp [hn])
  · intro n u hu
    by_cases hn : n = w.heap.size + 1
    · subst hn
      simp at hu; subst hu
      exact hp_o.2 hnew
    · simp [hn] at hu
  · intro n u hu
    cases n with
    | zero => simpa [hp, hos.1, hos.2.1, hos.2.2] using hu
    | succ n =>
      have hlt : n < w.heap.size := by
        rcases Nat.lt_or_ge n w.heap.size with h | h
        · exact h
        · simp [hp, Array.getElem?_eq_none h] at hu
      rw [hp_s, hold n hlt]
      simpa [hp, hlt] using hu
  · unfold Lib.bytesCells
    simp only [Array.toList_append, Array.toList_map]
    have : (List.map (fun b => Value.int .u8 (b.toNat : Int)) s).length = s.length := by simp
    rw [List.take_append_of_le_length (by simp)]
    simp [cb, List.take_of_length_le]
theorem wr62 (n : Int) (h0 : 0 ≤ n) (h1 : n < 2 ^ 62) : IntKind.wrap .i64 n = n := by
  have : (2 : Int) ^ 62 = 4611686018427387904 := by decide
  exact w64 (by omega) (by omega)
theorem or_b {n c : Int} (h0 : 0 ≤ n) (h1 : n < 281474976710656) (h2 : 0 ≤ c) (h3 : c < 256) : bits .or .i64 (n * 256) c = n * 256 + c :=
  bits_join .i64 62 (by decide) wr62 8 (n * 256) c (by omega) (by simp) (by omega) h2 (by omega) (by omega)
/-- The number that bytes are, the highest first. -/
def be (l : List UInt8) : Nat := l.foldl (fun n c => n * 256 + c.toNat) 0
theorem be_snoc (l : List UInt8) (c : UInt8) : be (l ++ [c]) = be l * 256 + c.toNat := by simp [be]
theorem be_lt' : ∀ (l : List UInt8) (n : Nat), l.foldl (fun n c => n * 256 + c.toNat) n < (n + 1) * 256 ^ l.length
  | [], n => by simp
  | c :: l, n => by
    have h1 := be_lt' l (n * 256 + c.toNat)
    have h2 := c.toNat_lt
    have h3 : (n * 256 + c.toNat + 1) * 256 ^ l.length ≤ ((n + 1) * 256) * 256 ^ l.length := Nat.mul_le_mul_right _ (by omega)
    simp only [List.foldl_cons, List.length_cons, Nat.pow_succ]
    rw [Nat.mul_comm (256 ^ l.length) 256, ← Nat.mul_assoc]
    omega
theorem be_lt (l : List UInt8) : be l < 256 ^ l.length := by
  have := be_lt' l 0
  simpa [be] using this
end
end Go.Sp
