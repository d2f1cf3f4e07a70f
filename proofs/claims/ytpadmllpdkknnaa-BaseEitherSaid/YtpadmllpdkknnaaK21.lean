/- More rules by instances: owned slices, make, calls, maps in whatever order. -/
import Derived.Test.YtpadmllpdkknnaaK20
namespace Go.Sp
open Go
class O1 (L : List HP) (t : TypeId) (sz : Nat) (s : SlV) (xs : outParam (List Value)) (R : outParam (List HP)) : Prop where p : At L (ow t sz s xs) R
class O2 (L : List HP) (a : Addr) (t : outParam TypeId) (sz n c : outParam Nat) (xs : outParam (List Value)) (R : outParam (List HP)) : Prop where p : At L (ow t sz (some a, n, c) xs) R
section
variable {e : Enc} {P : Program} {L L' L2 M R : List HP} {t : TypeId} {sz : Nat} {s : SlV} {xs : List Value} {y : HP}
instance O1.there [h : O1 L t sz s xs R] : O1 (y :: L) t sz s xs (y :: R) := ⟨.there h.p⟩
instance O1.here : O1 (ow t sz s xs :: L) t sz s xs L := ⟨.here⟩
instance O2.there {a : Addr} {n c : Nat} [h : O2 L a t sz n c xs R] : O2 (y :: L) a t sz n c xs (y :: R) := ⟨.there h.p⟩
instance O2.here {a : Addr} {n c : Nat} : O2 (ow t sz (some a, n, c) xs :: L) a t sz n c xs L := ⟨.here⟩
/-- Cells of a block of their own are laid behind an owned slice. -/
theorem i_app {tt el : TypeId} {b m c : Nat} {news : List Value} {k : SlV → W} (s : SlV) (bt : Nat) [ho : O1 L t sz s xs L'] [ha : A1 L b el news L2] (hk : apOk P tt t sz bt = true) (hbt : Nat.ble bt 1000000 = true) (hm : news.length = m * sz) (h1 : news.all one = true)
    (hs : s.2.1 + m ≤ 100000000) (h : ∀ s' : SlV, s'.2.1 = s.2.1 + m → (s'.1 = none → s' = (none, 0, 0)) → E (ow t sz s' (xs ++ news) :: L') (k s')) :
    E L (val eSl P (oB_append #[tt, tt] tt #[.slice s.1 s.2.1 s.2.2, .slice (some ⟨b, 0, none⟩) m c]) k) :=
  r_app bt hk ho.p ha.p (Rs_ar hm) h1 (by simp only [maxLen]; omega) (Nat.le_trans (Nat.mul_le_mul hs (Nat.le_of_ble_eq_true hbt)) (by decide)) h
theorem i_cal {f : FuncId} {args : Array Value} {A : List HP} {B : e.α → List HP → Prop} {k : e.α → W} (h : Fn e P f args A B) [ht : TX L A L'] (hk : ∀ x X, B x X → E (X ++ L') (k x)) : E L (cal e P f args k) := r_cal h ht.p hk
theorem mkOk2_spec {tt el : TypeId} {z : Value} (h : mkOk2 P tt el z = true) : ∃ i, P.underlying tt = some (.slice el) ∧ P.info? el = some i ∧ i.zero = some z ∧ i.size = 1 ∧ i.bytes ≤ 64 ∧ z.cells = #[z] := by
  unfold mkOk2 at h
  split at h
  case h_2 => cases h
  rename_i e' i h1 h2
  simp only [Bool.and_eq_true] at h
  obtain ⟨⟨⟨h3, h4⟩, h5⟩, h6⟩ := h
  have e3 := Nat.eq_of_beq_eq_true h3
  subst e3
  refine ⟨i, h1, h2, ?_, Nat.eq_of_beq_eq_true h4, Nat.le_of_ble_eq_true h5, ?_⟩
  · split at h6
    · rename_i a b hz
      rw [hz]
      have h4 : a.data.toList = b.data.toList := by simpa using h6
      obtain ⟨⟨a⟩⟩ := a
      obtain ⟨⟨b⟩⟩ := b
      simp at h4
      rw [h4]
    · rename_i hz
      simp at h6
      rw [hz, h6.1, h6.2]
    · rename_i hz; rw [hz]; simpa using h6
    · cases h6
  · split at h6
    · rfl
    · rfl
    · rfl
    · cases h6
theorem made_1 (z : Value) (hz : z.cells = #[z]) (n : Nat) : madeCells z.cells (n * 1) = ⟨List.replicate n z⟩ := by
  apply Array.toList_inj.1
  rw [hz]
  simp only [madeCells, Nat.mul_one, Array.toList_map, Array.toList_range]
  apply List.ext_getElem
  · simp
  · intro i h1 h2
    simp [Nat.mod_one]
theorem r_mk {tt el : TypeId} {n : Int} {k : SlV → W} (m : Nat) (z : Value) (hk : mkOk2 P tt el z = true) (hn : n = (m : Int)) (hm : m ≤ 16777216) (h : ∀ b, E (ar b el (List.replicate m z) :: L) (k (some ⟨b, 0, none⟩, m, m))) :
    E L (val eSl P (oMake tt (.int .i64 n) (.int .i64 n)) k) := by
  subst hn
  obtain ⟨i, h1, h2, h3, h4, h5, h6⟩ := mkOk2_spec hk
  intro w hw
  have hb : (i.bytes : Int) * (m : Int) ≤ 281474976710656 := by
    have : i.bytes * m ≤ 64 * 16777216 := Nat.mul_le_mul h5 hm
    have h' : ((i.bytes * m : Nat) : Int) ≤ 281474976710656 := by omega
    simpa using h'
  have := run_makeSlice (P := P) w tt el i z h1 h2 h3 .i64 .i64 (m : Int) (m : Int) (by omega) (by omega) (by rw [h4]; simp; omega) hb (by omega)
  rw [h4] at this
  simp only [Int.toNat_natCast] at this
  rw [made_1 z h6] at this
  exact ⟨(some ⟨w.heap.size, 0, none⟩, m, m), _, this, h _ _ (Holds.push hw (.cells ⟨List.replicate m z⟩ el (0, 0)) rfl)⟩
end

theorem i_bk {L : List HP} {ρ : Env} {σ : Type} {sl : List Nat} {env : σ → Env} {F : σ → List HP} {I : σ → Prop} {ν : σ → Nat} {s : σ} (s' : σ) [hs : SX (F s') L] (h0 : prn sl ρ = env s') (hI : I s') (hν : ν s' < ν s) :
    E L (bk sl env (fun s M => M = F s ∧ I s) ν s ρ) := d_bk s' h0 hI hν hs.p
theorem r_nwm (κ ε : Enc) {L : List HP} {k : Nat → W} (h : ∀ b, E (mp κ ε b [] 0 :: L) (k b)) : E L (nwb (.map #[] 0) k) := r_nwb h
theorem i_done {e : Enc} {L L' : List HP} {v : Value} {B : e.α → List HP → Prop} (x : e.α) (X : List HP) [hs : SX (X ++ L') L] (hv : v = e.enc x) (hB : B x X) :
    E L (fin e (fun x w => ∃ X, B x X ∧ Holds w (X ++ L')) v) := r_done x X hv hB hs.p
/-- What is owned may be read. -/
theorem i_ow {L R : List HP} {t : TypeId} {sz : Nat} {xs : List Value} {G : W} (s : SlV) [ho : O1 L t sz s xs R] (h : Rs (ow t sz s xs) s sz xs → E L G) : E L G := r_fact ho.p (fun _ hq => ow_fact hq) h
theorem i_o1 {e : Enc} {L R : List HP} {t : TypeId} {xs : List Value} {k : e.α → W} {a : Addr} {n c i : Nat} {y : e.α} [ho : O2 L a t 1 n c xs R] (hx : xs[i]? = some (e.enc y)) (h : E L (k y)) : E L (ld e (a.add i) k) :=
  r_ldA ho.p (fun h' hq => (ow_fact hq).2.2 a rfl h' hq i _ hx) h
/-! ### A range over a map that nobody writes meanwhile: what is behind, what is ahead -/
section
variable {κ ε : Enc}
/-- The entries behind and those ahead are all of them. -/
def Rg (es S R : Ents κ ε) : Prop := (S ++ R).Perm es
def sn (S : Ents κ ε) : Array Nat := ⟨S.map (·.2.2)⟩
theorem Rg.start (es : Ents κ ε) : Rg es [] es := List.Perm.refl _
theorem Rg.step [DecidableEq (κ.α × ε.α × Nat)] {es S R : Ents κ ε} (h : Rg es S R) {x : κ.α × ε.α × Nat} (hx : x ∈ es) (hn : ¬ x.2.2 ∈ sn S) : ∃ R', R'.length < R.length ∧ Rg es (S ++ [x]) R' := by
  have hR : x ∈ R := by
    have : x ∈ S ++ R := h.mem_iff.2 hx
    rcases List.mem_append.1 this with h1 | h1
    · exfalso; apply hn
      simp only [sn, List.mem_toArray, List.mem_map]
      exact ⟨x, h1, rfl⟩
    · exact h1
  refine ⟨R.erase x, by
    rw [List.length_erase_of_mem hR]
    have := List.length_pos_of_mem hR
    omega, ?_⟩
  have h1 : (x :: R.erase x).Perm R := (List.perm_cons_erase hR).symm
  show ((S ++ [x]) ++ R.erase x).Perm es
  rw [List.append_assoc]
  exact ((List.Perm.refl S).append h1).trans h
theorem Rg.done {es S R : Ents κ ε} (h : Rg es S R) (hb : (es.map (·.2.2)).Nodup) (ha : ∀ x ∈ es, x.2.2 ∈ sn S) : R = [] := by
  cases R with
  | nil => rfl
  | cons x R =>
    exfalso
    have hx : x ∈ es := h.mem_iff.1 (by simp)
    have h1 := ha x hx
    simp only [sn, List.mem_toArray] at h1
    have h2 : ((S ++ x :: R).map (·.2.2)).Nodup := (h.map (·.2.2)).nodup_iff.2 hb
    rw [List.map_append, List.nodup_append] at h2
    exact h2.2.2 _ h1 _ (by simp) rfl
theorem sn_push (S : Ents κ ε) (x : κ.α × ε.α × Nat) : (sn S).push x.2.2 = sn (S ++ [x]) := by
  simp [sn]
end
/-! ### The iterator -/
class B1 (L : List HP) (b : Nat) (o : outParam Obj) (R : outParam (List HP)) : Prop where p : At L (blk b o) R
instance B1.there {L R : List HP} {b : Nat} {o : Obj} {y : HP} [h : B1 L b o R] : B1 (y :: L) b o (y :: R) := ⟨.there h.p⟩
instance B1.here {L : List HP} {b : Nat} {o : Obj} : B1 (blk b o :: L) b o L := ⟨.here⟩
section
variable {κ ε : Enc} {P : Program} {L L' L2 : List HP} {it m since c0 c : Nat}
theorem find_born {es : Ents κ ε} {x : κ.α × ε.α × Nat} (hx : x ∈ es) (hu : (es.map (·.2.2)).Nodup) : (es.map (men κ ε)).find? (fun e => e.born == x.2.2) = some (men κ ε x) := by
  induction es with
  | nil => cases hx
  | cons y r ih =>
    rw [List.map_cons, List.nodup_cons] at hu
    rw [List.map_cons, List.find?_cons]
    by_cases hy : y.2.2 = x.2.2
    · have : x = y := by
        cases hx with
        | head => rfl
        | tail _ h => exact absurd (List.mem_map.2 ⟨x, h, hy.symm⟩) hu.1
      subst this
      simp [men]
    · have : x ∈ r := by
        cases hx with
        | head => exact absurd rfl hy
        | tail _ h => exact h
      simp only [men, beq_eq_false_iff_ne.2 hy]
      exact ih this hu.2
theorem i_mnx {es : Ents κ ε} {ty : TypeId} {seen : Array Nat} {k1 : W} {k2 : Bool × κ.α × ε.α → W} [hi : B1 L it (.mapIter (some m) since seen c0) L'] [ha : M1 L' κ ε m es c L2]
    (hold : ∀ x ∈ es, x.2.2 < since) (hs : since ≤ c0) (h1 : (∀ x ∈ es, x.2.2 ∈ seen) → E L k1)
    (h2 : ∀ x ∈ es, ¬ x.2.2 ∈ seen → E (blk it (.mapIter (some m) since (seen.push x.2.2) c) :: L') (k2 (true, x.1, x.2.1))) :
    E L (nxt (eT3 eB κ ε) P (oNext (.pointer (some ⟨it, 0, none⟩)) false ty) k1 k2) := r_mnx hi.p ha.p hold hs h1 h2
theorem i_ment {es S : Ents κ ε} {x : κ.α × ε.α × Nat} {k : κ.α × ε.α → W} [hi : B1 L it (.mapIter (some m) since (sn (S ++ [x])) c) L'] [ha : M1 L' κ ε m es c L2] (hx : x ∈ es) (hu : (es.map (·.2.2)).Nodup) (hk : E L (k (x.1, x.2.1))) :
    E L (val (eT2 κ ε) P (oEntry (.pointer (some ⟨it, 0, none⟩))) k) := fun w hw => by
  have hw1 := hi.p.hs hw
  have hr := Holds.get hw1
  have hb : w.heap[m]? = some (.map ⟨es.map (men κ ε)⟩ c) := Holds.get (ha.p.hs (HS.tl hw1))
  refine ⟨(x.1, x.2.1), w, ?_, hk w hw⟩
  have hg : (getObj it).run P w = .ok (.mapIter (some m) since (sn (S ++ [x])) c) w := by simp [getObj, Sem.run, hr]
  have hl : (sn (S ++ [x])).back? = some x.2.2 := by simp [sn]
  have hf : (⟨es.map (men κ ε)⟩ : Array MapEntry).find? (fun e => e.born == x.2.2) = some (men κ ε x) := by
    rw [← Array.find?_toList]; exact find_born hx hu
  simp only [oEntry, Instr.entry, Sem.run_bind, hg, Result.andThen_ok, hl, MapKept.run_getObj_map hb]
  simp [hf, men]
end
end Go.Sp
