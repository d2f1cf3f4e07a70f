/- Maps: their entries in the order of their birth; a look, a write, a clearing, a range in whatever order. -/
import Derived.Test.YtpadmllpdkknnaaK18
import Derived.Maps.RangeRun
namespace Go.Sp
open Go Go.MapKept
section
variable {κ ε : Enc}
abbrev Ents (κ ε : Enc) := List (κ.α × ε.α × Nat)
def men (κ ε : Enc) (x : κ.α × ε.α × Nat) : MapEntry := { key := κ.enc x.1, val := ε.enc x.2.1, born := x.2.2 }
def mp (κ ε : Enc) (m : Nat) (es : Ents κ ε) (c : Nat) : HP := blk m (.map ⟨es.map (men κ ε)⟩ c)
def gk [DecidableEq κ.α] : Ents κ ε → κ.α → Option ε.α
  | [], _ => none
  | x :: r, k => if x.1 = k then some x.2.1 else gk r k
def pk [DecidableEq κ.α] : Ents κ ε → κ.α → ε.α → Nat → Ents κ ε
  | [], k, v, c => [(k, v, c)]
  | x :: r, k, v, c => if x.1 = k then (k, v, x.2.2) :: r else x :: pk r k v c
/-- The clock behind a write. -/
def ck [DecidableEq κ.α] (es : Ents κ ε) (k : κ.α) (c : Nat) : Nat := if gk es k = none then c + 1 else c
def kdOk (d : TypeDesc) (κ : Enc) : Prop := (∀ a, IsKey d (κ.enc a)) ∧ ∀ a b, κ.enc a = κ.enc b → a = b
theorem mp_get {L : List HP} {m c : Nat} {es : Ents κ ε} {w : World} (h : Holds w (mp κ ε m es c :: L)) : w.heap[m]? = some (.map ⟨es.map (men κ ε)⟩ c) := Holds.get h
theorem str_inj {a b : List UInt8} (h : str a = str b) : a = b := by
  unfold str at h
  simpa using h
theorem kd_i : kdOk (.int .i64) eI := ⟨fun _ => rfl, fun _ _ h => by simpa using h⟩
theorem kd_s : kdOk .string eS := ⟨fun _ => trivial, fun _ _ h => str_inj h⟩
theorem findNow_gk [DecidableEq κ.α] {d : TypeDesc} (hd : kdOk d κ) (k : κ.α) : ∀ (es : Ents κ ε) (i : Nat),
    (gk es k = none ∧ Instr.findNow d (κ.enc k) (es.map (men κ ε)) i = some none ∧ ∀ v c, pk es k v c = es ++ [(k, v, c)]) ∨
    ∃ j x, gk es k = some x.2.1 ∧ es[j]? = some x ∧ x.1 = k ∧ Instr.findNow d (κ.enc k) (es.map (men κ ε)) i = some (some (i + j, ε.enc x.2.1)) ∧ ∀ v c, pk es k v c = es.set j (k, v, x.2.2)
  | [], i => .inl ⟨rfl, rfl, fun _ _ => rfl⟩
  | x :: r, i => by
    obtain ⟨q, hq, hi⟩ := sameNow_of_keys (hd.1 k) (hd.1 x.1)
    by_cases h : x.1 = k
    · right
      have : q = true := hi.2 (by rw [h])
      subst this
      refine ⟨0, x, by simp [gk, h], rfl, h, ?_, fun v c => by simp [pk, h]⟩
      simp [Instr.findNow, men, hq]
    · have : q = false := by
        cases q with
        | false => rfl
        | true => exact absurd (hd.2 _ _ (hi.1 rfl)).symm h
      subst this
      rcases findNow_gk hd k r (i + 1) with ⟨h1, h2, h3⟩ | ⟨j, y, h1, h2, h3, h4, h5⟩
      · left
        refine ⟨by simp [gk, h, h1], ?_, fun v c => by simp [pk, h, h3]⟩
        simp only [List.map_cons, Instr.findNow, men, hq]
        exact h2
      · right
        refine ⟨j + 1, y, by simp [gk, h, h1], by simpa using h2, h3, ?_, fun v c => by simp [pk, h, h5]⟩
        simp only [List.map_cons, Instr.findNow, men, hq]
        refine h4.trans ?_
        rw [show i + 1 + j = i + (j + 1) by omega]
end

section
variable {κ ε : Enc} [DecidableEq κ.α] {P : Program} {L L' R R' L2 : List HP} {tt kt et : TypeId} {d : TypeDesc} {m c : Nat} {es : Ents κ ε}
theorem run_lk {w : World} (ht : P.underlying tt = some (.map kt et)) (hd : P.underlying kt = some d) (hk : kdOk d κ) {z : ε.α} {i : TypeInfo} (hi : P.info? et = some i) (hz : i.zero = some (ε.enc z)) (hb : w.heap[m]? = some (.map ⟨es.map (men κ ε)⟩ c)) (k : κ.α) (b : Bool) :
    (oLookup tt (.map (some m)) (κ.enc k) b).run P w = .ok (if b then .tuple #[ε.enc ((gk es k).getD z), .bool (gk es k).isSome] else ε.enc ((gk es k).getD z)) w := by
  unfold oLookup Instr.lookup
  rcases findNow_gk hk k es 0 with ⟨h1, h2, _⟩ | ⟨j, x, h1, h2, h3, h4, _⟩
  · have hz' : (zeroValue et).run P w = .ok (ε.enc z) w := by simp [zeroValue, typeInfo, hi, hz]
    cases b <;> simp [run_underlying ht, MapKept.run_getObj_map hb, run_checkKey hd (hk.1 k), run_findKey hd h2, h1, hz', Result.andThen]
  · cases b <;> simp [run_underlying ht, MapKept.run_getObj_map hb, run_checkKey hd (hk.1 k), run_findKey hd h4, h1, Result.andThen]
/-- What is asked of a map's type: keys of whole numbers or texts. -/
def mpOk (P : Program) (tt : TypeId) (z : Value) (s : Bool) : Bool := match P.underlying tt with
  | some (.map kt et) => (match P.underlying kt, s with
    | some (.int .i64), false => true
    | some .string, true => true
    | _, _ => false) && (match P.info? et with
    | some i => (match i.zero, z with
      | some (.string a), .string b => a.data.toList == b.data.toList
      | some (.int .i64 a), .int .i64 b => a == b
      | some (.bool a), .bool b => a == b
      | some (.map none), .map none => true
      | _, _ => false)
    | none => false)
  | _ => false
theorem mpOk_spec {z : Value} {s : Bool} (h : mpOk P tt z s = true) : ∃ kt et i, P.underlying tt = some (.map kt et) ∧ P.underlying kt = some (if s then .string else .int .i64) ∧ P.info? et = some i ∧ i.zero = some z := by
  unfold mpOk at h
  split at h
  case h_2 => cases h
  rename_i kt et h1
  simp only [Bool.and_eq_true] at h
  obtain ⟨h2, h3⟩ := h
  split at h3
  case h_2 => cases h3
  rename_i i hi
  refine ⟨kt, et, i, h1, ?_, hi, ?_⟩
  · split at h2
    · rename_i hk; exact hk
    · rename_i hk; exact hk
    · cases h2
  · split at h3
    · rename_i a b hz
      rw [hz]
      have h4 : a.data.toList = b.data.toList := by simpa using h3
      obtain ⟨⟨a⟩⟩ := a
      obtain ⟨⟨b⟩⟩ := b
      simp at h4
      rw [h4]
    · rename_i hz; rw [hz]; simpa using h3
    · rename_i hz; rw [hz]; simpa using h3
    · rename_i hz; exact hz
    · cases h3
end
section
variable {ε : Enc} {P : Program} {L L' R R' L2 : List HP} {tt kt et : TypeId} {m c : Nat}
theorem r_lk2 {es : Ents eI ε} {i : Int} {k : ε.α × Bool → W} (z : ε.α) (h : mpOk P tt (ε.enc z) false = true) (ha : At L (mp eI ε m es c) L') (hk : E L (k ((gk es i).getD z, (gk es i).isSome))) :
    E L (val (eT2 ε eB) P (oLookup tt (.map (some m)) (.int .i64 i) true) k) := fun w hw => by
  obtain ⟨_, _, _, h1, h2, h3, h4⟩ := mpOk_spec h
  exact ⟨((gk es i).getD z, (gk es i).isSome), w, run_lk (κ := eI) h1 h2 kd_i h3 h4 (mp_get (ha.hs hw)) i true, hk w hw⟩
theorem r_lk1 {es : Ents eI ε} {i : Int} {k : ε.α → W} (z : ε.α) (h : mpOk P tt (ε.enc z) false = true) (ha : At L (mp eI ε m es c) L') (hk : E L (k ((gk es i).getD z))) :
    E L (val ε P (oLookup tt (.map (some m)) (.int .i64 i) false) k) := fun w hw => by
  obtain ⟨_, _, _, h1, h2, h3, h4⟩ := mpOk_spec h
  exact ⟨_, w, run_lk (κ := eI) h1 h2 kd_i h3 h4 (mp_get (ha.hs hw)) i false, hk w hw⟩
theorem r_lk1q {es : Ents eI ε} {i : Int} {k : ε.α → W} (z : ε.α) (h : mpOk P tt (ε.enc z) false = true) (ha : At R (mp eI ε m es c) L') (hk : E L (k ((gk es i).getD z))) :
    E L (valq (HW R) ε P (oLookup tt (.map (some m)) (.int .i64 i) false) k) := fun w hw => by
  obtain ⟨_, _, _, h1, h2, h3, h4⟩ := mpOk_spec h
  exact ⟨_, fun w' hw' => run_lk (κ := eI) h1 h2 kd_i h3 h4 (mp_get (ha.hs hw')) i false, hk w hw⟩
theorem ents_modify {κ ε : Enc} (es : Ents κ ε) (j : Nat) (x : κ.α × ε.α × Nat) (hx : es[j]? = some x) (k : κ.α) (v : ε.α) :
    ((⟨es.map (men κ ε)⟩ : Array MapEntry).modify j fun e => { e with key := κ.enc k, val := ε.enc v }) = ⟨(es.set j (k, v, x.2.2)).map (men κ ε)⟩ := by
  have hj : j < es.length := (List.getElem?_eq_some_iff.1 hx).1
  have hx' : es[j] = x := (List.getElem?_eq_some_iff.1 hx).2
  apply Array.ext_getElem?
  intro i
  simp only [Array.getElem?_modify, List.getElem?_toArray, List.getElem?_map, List.getElem?_set]
  by_cases h : j = i
  · subst h
    simp [hj, hx', men]
  · simp [h]
theorem r_mu {es : Ents eI ε} {i : Int} {v : ε.α} {k : W} (z : ε.α) (h : mpOk P tt (ε.enc z) false = true) (ha : At L (mp eI ε m es c) L') (hk : E (mp eI ε m (pk es i v c) (ck es i c) :: L') k) :
    E L (unt P (oMapUpdate tt (.map (some m)) (.int .i64 i) (ε.enc v)) k) := fun w hw => by
  obtain ⟨kt, _, _, h1, h2, _, _⟩ := mpOk_spec h
  have hw' := ha.hs hw
  have hb := mp_get hw'
  have hkey : IsKey (.int .i64) (.int .i64 i) := rfl
  unfold oMapUpdate Instr.mapUpdate
  rcases findNow_gk (κ := eI) kd_i i es 0 with ⟨g1, g2, g3⟩ | ⟨j, x, g1, g2, g3, g4, g5⟩
  · refine ⟨{ w with heap := w.heap.setIfInBounds m (.map ⟨(pk es i v c).map (men eI ε)⟩ (ck es i c)) }, ?_, hk _ (Holds.set hw' _ rfl)⟩
    simp only [run_underlying h1, Sem.run_bind, Result.andThen, MapKept.run_getObj_map hb, run_checkKey h2 hkey, run_findKey h2 g2, MapKept.run_setObj_map _ hb]
    simp [g3, ck, g1, men]
  · refine ⟨{ w with heap := w.heap.setIfInBounds m (.map ⟨(pk es i v c).map (men eI ε)⟩ (ck es i c)) }, ?_, hk _ (Holds.set hw' _ rfl)⟩
    have hg : (((⟨es.map (men eI ε)⟩ : Array MapEntry)[0 + j]?).map (·.key)).getD (.int .i64 i) = .int .i64 i := by
      simp [g2, men, g3]
    simp only [run_underlying h1, Sem.run_bind, Result.andThen, MapKept.run_getObj_map hb, run_checkKey h2 hkey, run_findKey h2 g4, hg, run_keyThatStays hkey, MapKept.run_setObj_map _ hb]
    have := ents_modify es j x g2 i v
    simp only [Nat.zero_add]
    rw [show (eI.enc i) = Value.int .i64 i from rfl] at this
    rw [this, g5]
    simp [ck, g1]
theorem r_mclr {κ ε : Enc} {es : Ents κ ε} {t ty : TypeId} {k : Unit → W} {a b : TypeId} (h : P.underlying t = some (.map a b)) (ha : At L (mp κ ε m es c) L') (hk : E (mp κ ε m [] c :: L') (k ())) :
    E L (val eN P (oB_clear #[t] ty #[.map (some m)]) k) := fun w hw => by
  have hw' := ha.hs hw
  have hb := mp_get hw'
  refine ⟨(), { w with heap := w.heap.setIfInBounds m (.map #[] c) }, ?_, hk _ (Holds.set hw' _ rfl)⟩
  unfold oB_clear Builtin.clear_
  simp [run_underlying h, MapKept.run_getObj_map hb, MapKept.run_setObj_map _ hb, Result.andThen]
theorem r_mrng {κ ε : Enc} {es : Ents κ ε} {k : Option Addr → W} {a b : TypeId} (h : P.underlying tt = some (.map a b)) (ha : At L (mp κ ε m es c) L') (hk : ∀ i, E (blk i (.mapIter (some m) c #[] c) :: L) (k (some ⟨i, 0, none⟩))) :
    E L (val eP P (oRange tt (.map (some m))) k) := fun w hw =>
  ⟨_, _, run_range_map w tt a b m _ c h (mp_get (ha.hs hw)), hk _ _ (Holds.push hw _ rfl)⟩
theorem r_mnx {κ ε : Enc} {es : Ents κ ε} {it c0 since : Nat} {seen : Array Nat} {ty : TypeId} {k1 : W} {k2 : Bool × κ.α × ε.α → W} (hi : At L (blk it (.mapIter (some m) since seen c0)) L') (ha : At L' (mp κ ε m es c) L2)
    (hold : ∀ x ∈ es, x.2.2 < since) (hs : since ≤ c0) (h1 : (∀ x ∈ es, x.2.2 ∈ seen) → E L k1)
    (h2 : ∀ x ∈ es, ¬ x.2.2 ∈ seen → E (blk it (.mapIter (some m) since (seen.push x.2.2) c) :: L') (k2 (true, x.1, x.2.1))) :
    E L (nxt (eT3 eB κ ε) P (oNext (.pointer (some ⟨it, 0, none⟩)) false ty) k1 k2) := fun w hw => by
  have hw1 := hi.hs hw
  have hr := Holds.get hw1
  have hb : w.heap[m]? = some (.map ⟨es.map (men κ ε)⟩ c) := Holds.get (ha.hs (HS.tl hw1))
  have hold' : ∀ x ∈ (⟨es.map (men κ ε)⟩ : Array MapEntry).toList, x.born < since := by
    intro x hx
    obtain ⟨y, hy, rfl⟩ := List.mem_map.1 hx
    exact hold y hy
  rcases run_next_at (P := P) w ty it m since c0 seen _ c hr hb hold' hs with ⟨g1, g2⟩ | ⟨e, he, w1, hw', g2⟩
  · refine ⟨w, .inl ⟨g2, h1 (fun x hx => ?_) w hw⟩⟩
    by_cases hc : x.2.2 ∈ seen
    · exact hc
    · exfalso
      have : men κ ε x ∈ (leftOf ⟨es.map (men κ ε)⟩ seen).toList := by
        unfold leftOf
        simp only [Array.toList_filter, List.mem_filter, List.mem_map]
        refine ⟨⟨x, hx, rfl⟩, ?_⟩
        simp only [men]
        simpa using hc
      have h0 : (leftOf ⟨es.map (men κ ε)⟩ seen).toList = [] := by
        apply List.eq_nil_of_length_eq_zero; simpa using g1
      rw [h0] at this
      cases this
  · obtain ⟨m1, m2⟩ := mem_left he
    obtain ⟨x, hx, rfl⟩ := List.mem_map.1 m1
    have hns : ¬ x.2.2 ∈ seen := by simpa [men] using m2
    refine ⟨_, .inr ⟨(true, x.1, x.2.1), g2, h2 x hx hns _ ?_⟩⟩
    have hw2 : Holds w1 (blk it (.mapIter (some m) since seen c0) :: L') := by
      rcases hw' with rfl | rfl
      · exact hw1
      · exact Holds.heap hw1 rfl
    exact Holds.set hw2 _ rfl
theorem r_mlen {κ ε : Enc} {es : Ents κ ε} {t ty : TypeId} {k : Int → W} {a b : TypeId} (h : P.underlying t = some (.map a b)) (ha : At L (mp κ ε m es c) L') (hk : E L (k (es.length : Int))) :
    E L (val eI P (oB_len #[t] ty #[.map (some m)]) k) := fun w hw => by
  refine ⟨_, w, ?_, hk w hw⟩
  unfold oB_len Builtin.len_
  simp [run_underlying h, MapKept.run_getObj_map (mp_get (ha.hs hw)), goInt, Result.andThen]
/-! The same, by instances. -/
class M1 (L : List HP) (κ ε : Enc) (m : Nat) (es : outParam (Ents κ ε)) (c : outParam Nat) (R : outParam (List HP)) : Prop where p : At L (mp κ ε m es c) R
instance M1.there {κ ε : Enc} {y : HP} {es : Ents κ ε} [h : M1 L κ ε m es c R] : M1 (y :: L) κ ε m es c (y :: R) := ⟨.there h.p⟩
instance M1.here {κ ε : Enc} {es : Ents κ ε} : M1 (mp κ ε m es c :: L) κ ε m es c L := ⟨.here⟩
theorem i_lk2 {es : Ents eI ε} {i : Int} {k : ε.α × Bool → W} (z : ε.α) [ha : M1 L eI ε m es c L'] (h : mpOk P tt (ε.enc z) false = true) (hk : E L (k ((gk es i).getD z, (gk es i).isSome))) :
    E L (val (eT2 ε eB) P (oLookup tt (.map (some m)) (.int .i64 i) true) k) := r_lk2 z h ha.p hk
theorem i_lk1 {es : Ents eI ε} {i : Int} {k : ε.α → W} (z : ε.α) [ha : M1 L eI ε m es c L'] (h : mpOk P tt (ε.enc z) false = true) (hk : E L (k ((gk es i).getD z))) :
    E L (val ε P (oLookup tt (.map (some m)) (.int .i64 i) false) k) := r_lk1 z h ha.p hk
theorem i_lk1q {es : Ents eI ε} {i : Int} {k : ε.α → W} (z : ε.α) [ha : M1 R eI ε m es c L'] (h : mpOk P tt (ε.enc z) false = true) (hk : E L (k ((gk es i).getD z))) :
    E L (valq (HW R) ε P (oLookup tt (.map (some m)) (.int .i64 i) false) k) := r_lk1q z h ha.p hk
theorem i_mu {es : Ents eI ε} {i : Int} {v : ε.α} {x : Value} {k : W} (z : ε.α) [ha : M1 L eI ε m es c L'] (hx : x = ε.enc v) (h : mpOk P tt (ε.enc z) false = true) (hk : E (mp eI ε m (pk es i v c) (ck es i c) :: L') k) :
    E L (unt P (oMapUpdate tt (.map (some m)) (.int .i64 i) x) k) := by subst hx; exact r_mu z h ha.p hk
theorem i_mclr {κ ε : Enc} {es : Ents κ ε} {t ty : TypeId} {k : Unit → W} {a b : TypeId} (h : P.underlying t = some (.map a b)) [ha : M1 L κ ε m es c L'] (hk : E (mp κ ε m [] c :: L') (k ())) :
    E L (val eN P (oB_clear #[t] ty #[.map (some m)]) k) := r_mclr h ha.p hk
theorem i_mrng {κ ε : Enc} {es : Ents κ ε} {k : Option Addr → W} {a b : TypeId} (h : P.underlying tt = some (.map a b)) [ha : M1 L κ ε m es c L'] (hk : ∀ i, E (blk i (.mapIter (some m) c #[] c) :: L) (k (some ⟨i, 0, none⟩))) :
    E L (val eP P (oRange tt (.map (some m))) k) := r_mrng h ha.p hk
/-- make([]T, n) -/
def mkOk2 (P : Program) (t e : TypeId) (z : Value) : Bool := match P.underlying t, P.info? e with
  | some (.slice e'), some i => Nat.beq e' e && Nat.beq i.size 1 && Nat.ble i.bytes 64 && match i.zero, z with
    | some (.string a), .string b => a.data.toList == b.data.toList
    | some (.int j a), .int k b => decide (j = k) && a == b
    | some (.bool a), .bool b => a == b
    | _, _ => false
  | _, _ => false
end
end Go.Sp
