/- Bytes in memory: texts of cells, copies, conversions. -/
import Derived.Test.YtpadmllpdkknnaaK15
import Derived.Laws.IdiomStrings
import Derived.Lib.BufferWrite
import Derived.Laws.MakeOwn
namespace Go.Sp
open Go
attribute [go_sem] Nat.mul_one Nat.zero_mul Nat.add_zero
/-- Bytes as cells. -/
def cb (l : List UInt8) : List Value := l.map fun b => .int .u8 (b.toNat : Int)
theorem cb_len (l : List UInt8) : (cb l).length = l.length := by simp [cb]
theorem cb_get {l : List UInt8} {i : Nat} (h : i < l.length) : (cb l)[i]? = some (.int .u8 ((l.getD i 0).toNat : Int)) := by
  simp [cb, h]
theorem cb_set (l : List UInt8) (i : Nat) (x : UInt8) : cb (l.set i x) = (cb l).set i (.int .u8 (x.toNat : Int)) := by
  simp [cb, List.map_set]
theorem cb_app (a b : List UInt8) : cb (a ++ b) = cb a ++ cb b := by simp [cb]
theorem cb_drop (a : List UInt8) (n : Nat) : cb (a.drop n) = (cb a).drop n := by simp [cb, List.map_drop]
theorem cb_take (a : List UInt8) (n : Nat) : cb (a.take n) = (cb a).take n := by simp [cb, List.map_take]
theorem cb_one (l : List UInt8) : (cb l).all one = true := by
  simp [cb, List.all_map]
  intro x _; rfl
theorem cb_rep (n : Nat) : cb (List.replicate n 0) = List.replicate n (.int .u8 0) := by simp [cb]
theorem cb_lib (l : List UInt8) : Lib.byteCells l = cb l := rfl
/-- byte(n) of a number that is not negative. -/
theorem wrap_b {n : Int} (h : 0 ≤ n) : IntKind.wrap .u8 n = ((UInt8.ofNat n.toNat).toNat : Int) := by
  rw [IntKind.wrap_u8]
  simp only [UInt8.toNat_ofNat']
  omega
@[go_sem] theorem tn1 (n : Nat) : ((n : Int) + 1).toNat = n + 1 := by omega
@[go_sem] theorem tn2 (n : Nat) : ((n : Int) + 2).toNat = n + 2 := by omega
theorem bt_lt (m : List UInt8) (i : Nat) : bt m i < 256 := (m.getD i 0).toNat_lt
@[go_sem] theorem w64_bt (m : List UInt8) (i : Nat) : IntKind.wrap .i64 (bt m i : Int) = (bt m i : Int) := w64 (by omega) (by have := bt_lt m i; omega)
theorem bt_of (m : List UInt8) (i : Nat) : UInt8.ofNat (bt m i) = m.getD i 0 := by unfold bt; simp
theorem getD_lt (l : List UInt8) (i : Nat) : ((l.getD i 0).toNat : Int) < 256 := by
  have := (l.getD i 0).toNat_lt; omega
section
variable {e : Enc} {P : Program} {L L' L2 R : List HP} {A : HP} {w : World} {b o : Nat} {t : TypeId} {l : List UInt8}
theorem r_b {k : Int → W} (ha : At L (ar b t (cb l)) L') (ho : o < l.length) (h : E L (k (bt l o : Int))) : E L (ld eU8 ⟨b, o, none⟩ k) :=
  r_ld (e := eU8) (x := ((l.getD o 0).toNat : Int)) ha (cb_get ho) h
theorem r_bq {k : Int → W} (ha : At R (ar b t (cb l)) L') (ho : o < l.length) (h : E L (k (bt l o : Int))) : E L (ldq (HW R) eU8 ⟨b, o, none⟩ k) :=
  r_ldq (e := eU8) (x := ((l.getD o 0).toNat : Int)) ha (cb_get ho) h
theorem r_bs {k : W} {v : Int} (x : UInt8) (ha : At L (ar b t (cb l)) L') (ho : o < l.length) (hv : v = (x.toNat : Int)) (h : E (ar b t (cb (l.set o x)) :: L') k) : E L (st ⟨b, o, none⟩ (.int .u8 v) k) := by
  subst hv
  refine r_st ha (by rw [cb_len]; exact ho) rfl ?_
  rw [← cb_set]; exact h
/-- A part of a slice that can be read. -/
theorem Rs.cut {p : Option Addr} {m c c' sz : Nat} {cs : List Value} (hR : Rs A (p, m, c) sz cs) {lo n : Nat} (hn : lo + n ≤ m) (hc : m ≤ c) : Rs A (slp p (lo : Int) (c : Int) sz, n, c') sz ((cs.drop (lo * sz)).take (n * sz)) := by
  obtain ⟨h1, h2, h3⟩ := hR
  refine ⟨?_, ?_, ?_⟩
  · simp only [List.length_take, List.length_drop, h1]
    have : n * sz ≤ m * sz - lo * sz := by rw [← Nat.sub_mul]; exact Nat.mul_le_mul_right _ (by omega)
    exact Nat.min_eq_left this
  · intro hz
    have hp : p ≠ none := h2 (by simp only at hz ⊢; omega)
    unfold slp
    simp only [Int.toNat_natCast]
    split
    · exact hp
    · cases p with
      | none => exact absurd rfl hp
      | some a => simp
  · intro a ha h hh j v hj
    have hj' : j < n * sz := by
      rcases Nat.lt_or_ge j (n * sz) with h | h
      · exact h
      · rw [List.getElem?_eq_none (by simp; omega)] at hj; cases hj
    rw [List.getElem?_take, if_pos hj', List.getElem?_drop] at hj
    unfold slp at ha
    simp only [Int.toNat_natCast] at ha
    split at ha
    · rename_i e
      have : n = 0 := by omega
      subst this; simp at hj'
    · cases p with
      | none => simp at ha
      | some a0 =>
        have : a = a0.add (lo * sz) := by simpa using ha.symm
        subst this
        rw [Deep.add_add]
        exact h3 a0 rfl h hh _ v hj
theorem Rs_b {c : Nat} (l : List UInt8) : Rs (ar b t (cb l)) (some ⟨b, 0, none⟩, l.length, c) 1 (cb l) := Rs_ar (by rw [cb_len, Nat.mul_one])
theorem Rs.eqn {s : SlV} {sz : Nat} {cs cs' : List Value} (h : Rs A s sz cs) (e : cs = cs') : Rs A s sz cs' := e ▸ h
/-- A part of a block of bytes. -/
theorem Rs_bc {c c' : Nat} {l : List UInt8} {lo n : Nat} (hn : lo + n ≤ l.length) (hc : l.length ≤ c) : Rs (ar b t (cb l)) (slp (some ⟨b, 0, none⟩) (lo : Int) (c : Int) 1, n, c') 1 (cb ((l.drop lo).take n)) :=
  ((Rs_b (c := c) l).cut hn hc).eqn (by rw [cb_take, cb_drop, Nat.mul_one, Nat.mul_one])
/-- What a conversion to a text wants of the types. -/
def cvOk (P : Program) (s d : TypeId) : Bool := match P.underlying s, P.underlying d with
  | some (.slice e), some .string => match P.underlying e with
    | some (.int .u8) => true
    | _ => false
  | _, _ => false
theorem run_conv0 {s d : TypeId} (hk : cvOk P s d = true) (p : Option Addr) (n c : Nat) (bs : List UInt8) (hn : bs.length = n) (hp : n ≠ 0 → p ≠ none) (w : World) (hc : ∀ a, p = some a → ∀ j v, (cb bs)[j]? = some v → w.cell? (a.add j) = some v) :
    (oConv s d (.slice p n c)).run P w = .ok (str bs) w := by
  unfold cvOk at hk
  split at hk
  · rename_i el h1 h2
    split at hk
    · rename_i h3
      subst hn
      cases p with
      | some a =>
        have := run_convert_bytes_back (P := P) w s d el a c bs h1 h3 h2 (fun j hj => hc a rfl j _ (by rw [cb_get hj]; simp [hj]))
        exact this
      | none =>
        have : bs = [] := by
          cases bs with
          | nil => rfl
          | cons x r => exact absurd rfl (hp (by simp))
        subst this
        show (convert s d (.slice none 0 c)).run P w = _
        rw [run_convert_bytes_string w s d el none 0 c h1 h3 h2]
        rfl
    · cases hk
  · cases hk
theorem r_conv {s d : TypeId} {p : Option Addr} {n c : Nat} {k : List UInt8 → W} {bs : List UInt8} (hk : cvOk P s d = true) (hR : Rs A (p, n, c) 1 (cb bs)) (ha : At L A L') (h : E L (k bs)) : E L (val eS P (oConv s d (.slice p n c)) k) := fun w hw =>
  ⟨bs, w, run_conv0 hk p n c bs (by have := hR.1; rw [cb_len] at this; simpa using this) hR.2.1 w (fun a e j v hj => Holds.rd ha hw (fun q hq => hR.2.2 a e q hq j v hj)), h w hw⟩
theorem r_convq {s d : TypeId} {p : Option Addr} {n c : Nat} {k : List UInt8 → W} {bs : List UInt8} (hk : cvOk P s d = true) (hR : Rs A (p, n, c) 1 (cb bs)) (ha : At R A L') (h : E L (k bs)) : E L (valq (HW R) eS P (oConv s d (.slice p n c)) k) := fun w hw =>
  ⟨bs, fun w' hs => run_conv0 hk p n c bs (by have := hR.1; rw [cb_len] at this; simpa using this) hR.2.1 w' (fun a e j v hj => Holds.rd ha hs (fun q hq => hR.2.2 a e q hq j v hj)), h w hw⟩
/-- A conversion of a part of a block. -/
theorem r_cvb {s d : TypeId} {lo c : Int} {n cc : Nat} {k : List UInt8 → W} (o m : Nat) (hk : cvOk P s d = true) (ha : At L (ar b t (cb l)) L') (ho : lo = (o : Int)) (hm : n = m) (hf : o + m ≤ l.length) (hc : (l.length : Int) ≤ c) (h : E L (k ((l.drop o).take m))) :
    E L (val eS P (oConv s d (.slice (slp (some ⟨b, 0, none⟩) lo c 1) n cc)) k) := by
  subst ho; subst hm
  obtain ⟨c', rfl⟩ : ∃ c' : Nat, c = (c' : Int) := ⟨c.toNat, by omega⟩
  exact r_conv hk (Rs_bc hf (by omega)) ha h
theorem r_cvbq {s d : TypeId} {lo c : Int} {n cc : Nat} {k : List UInt8 → W} (o m : Nat) (hk : cvOk P s d = true) (ha : At R (ar b t (cb l)) L') (ho : lo = (o : Int)) (hm : n = m) (hf : o + m ≤ l.length) (hc : (l.length : Int) ≤ c) (h : E L (k ((l.drop o).take m))) :
    E L (valq (HW R) eS P (oConv s d (.slice (slp (some ⟨b, 0, none⟩) lo c 1) n cc)) k) := by
  subst ho; subst hm
  obtain ⟨c', rfl⟩ : ∃ c' : Nat, c = (c' : Int) := ⟨c.toNat, by omega⟩
  exact r_convq hk (Rs_bc hf (by omega)) ha h
/-- s over l from o on. -/
def ovl (l : List UInt8) (o : Nat) (s : List UInt8) : List UInt8 := l.take o ++ s ++ l.drop (o + s.length)
theorem ovl_len {l : List UInt8} {o : Nat} {s : List UInt8} (h : o + s.length ≤ l.length) : (ovl l o s).length = l.length := by
  simp [ovl]; omega
theorem ovl_nil (l : List UInt8) (o : Nat) : ovl l o [] = l := by simp [ovl]
/-- What copy wants of the types. -/
def cpOk (P : Program) (d : TypeId) : Bool := match P.underlying d with
  | some (.slice e) => match P.info? e with
    | some i => Nat.beq i.size 1
    | none => false
  | _ => false
theorem r_copys {d s ty : TypeId} {k : Int → W} {lo n c cc : Nat} {bs : List UInt8} (hk : cpOk P d = true) (ha : At L (ar b t (cb l)) L') (hs : bs.length ≤ n) (hn : lo + n ≤ l.length) (hc : l.length ≤ c)
    (h : E (ar b t (cb (ovl l lo bs)) :: L') (k (bs.length : Int))) : E L (val eI P (oB_copy #[d, s] ty #[.slice (slp (some ⟨b, 0, none⟩) (lo : Int) (c : Int) 1) n cc, str bs]) k) := by
  unfold cpOk at hk
  split at hk
  case h_2 => cases hk
  rename_i el h1
  cases hi : P.info? el with
  | none => simp [hi] at hk
  | some i =>
    simp only [hi] at hk
    have h2 : (P.info? el).map (·.size) = some 1 := by rw [hi]; simp [Nat.eq_of_beq_eq_true hk]
    intro w hw
    have hg := ha.hs hw
    by_cases hz : bs.length = 0
    · have : bs = [] := List.eq_nil_of_length_eq_zero hz
      subst this
      have := Lib.run_copy_empty_string (P := P) w d s ty el (slp (some ⟨b, 0, none⟩) (lo : Int) (c : Int) 1) n cc ⟨#[]⟩ h1 (by rw [hi]; rfl) rfl
      rw [ovl_nil] at h
      exact ⟨_, w, this, h w hg⟩
    · have hsl : slp (some ⟨b, 0, none⟩) (lo : Int) (c : Int) 1 = some ⟨b, lo, none⟩ := by
        unfold slp
        simp only [Int.toNat_natCast, Nat.mul_one]
        rw [if_neg (by omega)]
        simp [add_of]
      rw [hsl]
      have hcell := Holds.get hg
      have h3 : (⟨bs.toArray⟩ : ByteArray).size = bs.length := by simp [ByteArray.size]
      have := Lib.run_copy_row_string (P := P) w d s ty el b lo n cc ⟨bs.toArray⟩ ⟨cb l⟩ t h1 h2 hcell (by rw [h3]; exact hs) (by rw [h3]; simp [cb_len]; omega)
      rw [h3] at this
      refine ⟨_, _, this, h _ ?_⟩
      have e : (List.take lo (cb l) ++ Lib.byteCells bs ++ List.drop (lo + bs.length) (cb l)) = cb (ovl l lo bs) := by
        simp [ovl, cb_app, cb_take, cb_drop, cb_lib]
      simp only [e]
      refine Holds.set hg _ ?_
      apply Array.ext_getElem?
      intro j
      simp only [World.setRow, Array.getElem?_modify, Array.getElem?_setIfInBounds]
      have hlt : b < w.heap.size := by
        rcases Nat.lt_or_ge b w.heap.size with h' | h'
        · exact h'
        · simp [Array.getElem?_eq_none h'] at hcell
      by_cases hj : b = j
      · subst hj
        rw [hcell]
        simp [hlt]
      · simp [hj]
/-- make([]byte, n) -/
def mkOk (P : Program) (t e : TypeId) : Bool := match P.underlying t, P.info? e with
  | some (.slice e'), some i => Nat.beq e' e && Nat.beq i.size 1 && Nat.beq i.bytes 1 && match i.zero with
    | some (.int .u8 0) => true
    | _ => false
  | _, _ => false
theorem made_b (n : Nat) : madeCells (Value.int .u8 0).cells (n * 1) = ⟨cb (List.replicate n 0)⟩ := by
  apply Array.toList_inj.1
  rw [cb_rep]
  simp only [madeCells, Nat.mul_one, Array.toList_map, Array.toList_range]
  apply List.ext_getElem
  · simp
  · intro i h1 h2
    have : (Value.int .u8 0).cells = #[.int .u8 0] := rfl
    simp [this, Nat.mod_one]
theorem r_mkb {tt el : TypeId} {n : Int} {k : SlV → W} (m : Nat) (hk : mkOk P tt el = true) (hn : n = (m : Int)) (hm : m ≤ 16777216) (h : ∀ b, E (ar b el (cb (List.replicate m 0)) :: L) (k (some ⟨b, 0, none⟩, m, m))) :
    E L (val eSl P (oMake tt (.int .i64 n) (.int .i64 n)) k) := by
  subst hn
  unfold mkOk at hk
  split at hk
  case h_2 => cases hk
  rename_i e' i h1 h2
  simp only [Bool.and_eq_true] at hk
  obtain ⟨⟨⟨h3, h4⟩, h5⟩, h6⟩ := hk
  have e3 := Nat.eq_of_beq_eq_true h3
  subst e3
  split at h6
  case h_2 => cases h6
  rename_i hz
  intro w hw
  have := run_makeSlice (P := P) w tt e' i (.int .u8 0) h1 h2 hz .i64 .i64 (m : Int) (m : Int) (by omega) (by omega) (by rw [Nat.eq_of_beq_eq_true h4]; simp; omega) (by rw [Nat.eq_of_beq_eq_true h5]; omega) (by omega)
  rw [Nat.eq_of_beq_eq_true h4] at this
  simp only [Int.toNat_natCast] at this
  rw [made_b] at this
  exact ⟨(some ⟨w.heap.size, 0, none⟩, m, m), _, this, h _ _ (Holds.push hw (.cells ⟨cb (List.replicate m 0)⟩ e' (0, 0)) rfl)⟩
theorem r_cpb {d s ty : TypeId} {k : Int → W} {lo c : Int} {n cc : Nat} {bs : List UInt8} (o : Nat) (hk : cpOk P d = true) (ha : At L (ar b t (cb l)) L') (ho : lo = (o : Int)) (hs : bs.length ≤ n) (hn : o + n ≤ l.length) (hc : (l.length : Int) ≤ c)
    (h : E (ar b t (cb (ovl l o bs)) :: L') (k (bs.length : Int))) : E L (val eI P (oB_copy #[d, s] ty #[.slice (slp (some ⟨b, 0, none⟩) lo c 1) n cc, str bs]) k) := by
  subst ho
  obtain ⟨c', rfl⟩ : ∃ c' : Nat, c = (c' : Int) := ⟨c.toNat, by omega⟩
  exact r_copys hk ha hs hn (by omega) h
theorem r_cmp {k : Int → W} {a c : List UInt8} (h : E L (k (Lib.compareBytes a c))) : E L (val eI P (oCmp #[str a, str c]) k) := fun w hw =>
  ⟨_, w, Lib.run_compareString ⟨a.toArray⟩ ⟨c.toArray⟩ w, h w hw⟩
end
end Go.Sp
