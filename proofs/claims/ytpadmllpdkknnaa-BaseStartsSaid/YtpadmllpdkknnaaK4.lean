/- Every request is what the model's operation does: the rest, and the theorem. -/
import Derived.Test.YtpadmllpdkknnaaK3
namespace Go.Sp
open Go
section
variable {P : Program} {k : Kr} {w : World}
theorem asIntOf_int {a : IntKind} {n : Int} : asIntOf (.int a n) = pure (a, n) := rfl
theorem bound_ok {a : IntKind} {i : Int} {y : Nat} {c : BoundsCode} (h : 0 ≤ i ∧ i ≤ y) (w : World) : (Instr.sliceBound (.int a i) y c).run P w = .ok i.toNat w := by
  simp [Instr.sliceBound, asIntOf, h]
theorem bounds_ok {b : Bool} {len cap : Nat} {lo hi : Option Value} {l h : Int}
    (hl : lo = none ∧ l = 0 ∨ ∃ a, lo = some (.int a l)) (hh : hi = none ∧ h = (len : Int) ∨ ∃ a, hi = some (.int a h))
    (hb : 0 ≤ l ∧ l ≤ h ∧ h ≤ (cap : Int)) (w : World) :
    (Instr.sliceBounds b len cap lo hi none).run P w = .ok (l.toNat, h.toNat, cap) w := by
  have h1 : l ≤ (h.toNat : Int) := by omega
  rcases hl with ⟨rfl, rfl⟩ | ⟨a, rfl⟩ <;> rcases hh with ⟨rfl, rfl⟩ | ⟨a', rfl⟩
  · simp [Instr.sliceBounds]
  · have hb2 : 0 ≤ h ∧ h ≤ (cap : Int) := ⟨hb.2.1, hb.2.2⟩
    simp [Instr.sliceBounds, bound_ok hb2]
  · have hb2 : 0 ≤ l ∧ l ≤ (len : Int) := ⟨hb.1, hb.2.1⟩
    simp [Instr.sliceBounds, bound_ok hb2]
  · have hb2 : 0 ≤ h ∧ h ≤ (cap : Int) := ⟨by omega, hb.2.2⟩
    have hb3 : 0 ≤ l ∧ l ≤ (h.toNat : Int) := ⟨hb.1, h1⟩
    simp [Instr.sliceBounds, bound_ok hb2, bound_ok hb3]
theorem extract_ss (b : ByteArray) (l h : Nat) : b.extract l h = ⟨(((unstr b).take h).drop l).toArray⟩ := by
  apply ByteArray.ext
  apply Array.toList_inj.1
  simp [unstr, ByteArray.data_extract, List.drop_take, Array.toList_extract, List.extract]
theorem slv_eq (p : Option Addr) (l h : Int) (c sz : Nat) :
    slv p l h (c : Int) sz = .slice (if c = l.toNat then p else p.map (·.add (l.toNat * sz))) (h.toNat - l.toNat) (c - l.toNat) := by
  simp [slv, slp]

theorem sliceR_sound {t : TypeId} {x : Value} {lo hi : Option Value} (h : sliceR P t x lo hi k w) :
    ∃ r, k r w ∧ Is P (do pure (.value (← Instr.sliceAt t x lo hi none))) r := by
  unfold sliceR at h
  cases hu : P.underlying t with
  | none => simp only [hu] at h; exact h.elim
  | some d =>
    simp only [hu] at h
    cases d <;> try exact h.elim
    case string =>
      cases x <;> try exact h.elim
      rename_i b
      obtain ⟨l, hl, h⟩ := bnd_spec h
      obtain ⟨m, hm, h⟩ := bnd_spec h
      obtain ⟨hb, h⟩ := h
      rw [unstr_length] at hm hb
      exact ⟨_, h, is_val fun w => by
        simp [Instr.sliceAt, und hu, Instr.slice, bounds_ok hl hm hb, extract_ss, str, ss]⟩
    case slice e =>
      cases x <;> try exact h.elim
      rename_i p n c
      obtain ⟨l, hl, h⟩ := bnd_spec h
      obtain ⟨m, hm, h⟩ := bnd_spec h
      obtain ⟨z, hz, _, h⟩ := sz_spec h
      obtain ⟨hb, h⟩ := h
      exact ⟨_, h, is_val fun w => by
        simp [Instr.sliceAt, und hu, Instr.slice, bounds_ok hl hm hb, hz, slv_eq]⟩
    case array m e =>
      cases x <;> try exact h.elim
      rename_i p
      have h' : nn p (fun a => bnd lo 0 fun l => bnd hi (m : Int) fun h => sz P e fun z => rq (0 ≤ l ∧ l ≤ h ∧ h ≤ (m : Int)) (k (.val (slv (some a) l h m z)))) w := h
      clear h
      obtain ⟨a, rfl, h⟩ := nn_spec h'
      obtain ⟨l, hl, h⟩ := bnd_spec h
      obtain ⟨u, hm, h⟩ := bnd_spec h
      obtain ⟨z, hz, _, h⟩ := sz_spec h
      obtain ⟨hb, h⟩ := h
      refine ⟨_, h, is_val fun w => ?_⟩
      simp only [Instr.sliceAt, Sem.run_bind, und hu, Result.andThen_ok, Instr.sureAddr, Sem.run_pure, bounds_ok hl hm hb, hz, slv_eq]
      split <;> rfl

theorem idxAddrR_sound {t : TypeId} {x i : Value} (h : idxAddrR P t x i k w) : ∃ r, k r w ∧ Is P (do pure (.value (← Instr.indexAt t x i))) r := by
  unfold idxAddrR at h
  cases hu : P.underlying t with
  | none => simp only [hu] at h; exact h.elim
  | some d =>
    simp only [hu] at h
    cases d <;> try exact h.elim
    case slice e =>
      cases x <;> try exact h.elim
      cases i <;> try exact h.elim
      rename_i p n c a j
      obtain ⟨z, hz, _, h⟩ := sz_spec h
      obtain ⟨hb, h⟩ := h
      obtain ⟨b, rfl, h⟩ := nn_spec h
      exact ⟨_, h, is_val fun w => by simp [Instr.indexAt, asIntOf, und hu, hb, hz]⟩
    case array m e =>
      cases x <;> try exact h.elim
      cases i <;> try exact h.elim
      rename_i p a j
      obtain ⟨z, hz, _, h⟩ := sz_spec h
      obtain ⟨b, rfl, h⟩ := nn_spec h
      obtain ⟨hb, h⟩ := h
      exact ⟨_, h, is_val fun w => by simp [Instr.indexAt, asIntOf, und hu, hb, hz, Instr.sureAddr]⟩

theorem idxR_sound {t : TypeId} {x i : Value} (h : idxR P t x i k w) : ∃ r, k r w ∧ Is P (do pure (.value (← Instr.index t x i))) r := by
  by_cases hc : P.underlying t = some .string ∧ (∃ b, x = .string b) ∧ ∃ a j, i = .int a j
  · obtain ⟨hu, ⟨b, rfl⟩, a, j, rfl⟩ := hc
    unfold idxR at h
    simp only [hu] at h
    obtain ⟨hb, h⟩ := h
    refine ⟨_, h, is_val fun w => ?_⟩
    rw [unstr_length] at hb
    have hlt : j.toNat < b.size := by omega
    have e : b[j.toNat]? = some ((unstr b).getD j.toNat 0) := by
      rw [getElem?_pos b j.toNat hlt]
      simp [unstr, ByteArray.getElem_eq_getElem_data, hlt]
    simp [Instr.index, asIntOf, und hu, hb.1, e]
  · refine ⟨.sm (Instr.index t x i), ?_, is_sm⟩
    unfold idxR at h
    revert h hc
    cases P.underlying t with
    | none => exact fun h _ => h
    | some d => cases d <;> first
      | exact fun h _ => h
      | (cases x <;> first
          | exact fun h _ => h
          | (cases i <;> first
              | exact fun h _ => h
              | exact fun _ hc => absurd ⟨rfl, ⟨_, rfl⟩, _, _, rfl⟩ hc))

theorem builtR_sound {b : Builtin} {ts : Array TypeId} {ty : TypeId} {args : List Value} (h : builtR P b ts ty args k w) :
    ∃ r, k r w ∧ ∀ c, Is P (builtin b ts ty c args.toArray) r := by
  unfold builtR at h
  split at h
  · rename_i s
    cases h0 : (ts[0]?).bind P.underlying with
    | none => simp only [h0] at h; exact h.elim
    | some d =>
      simp only [h0] at h
      cases d <;> try exact h.elim
      obtain ⟨t, h1, h2⟩ := Option.bind_eq_some_iff.1 h0
      exact ⟨_, h, fun _ => is_val fun w => by simp [Builtin.len_, h1, und h2, goInt, unstr]⟩
  · rename_i p n q
    cases h0 : (ts[0]?).bind P.underlying with
    | none => simp only [h0] at h; exact h.elim
    | some d =>
      simp only [h0] at h
      cases d <;> try exact h.elim
      obtain ⟨t, h1, h2⟩ := Option.bind_eq_some_iff.1 h0
      exact ⟨_, h, fun _ => is_val fun w => by simp [Builtin.len_, h1, und h2, goInt]⟩
  · exact ⟨_, h, fun _ => is_sm⟩
  · exact ⟨_, h, fun _ => is_sm⟩
  · exact ⟨_, h, fun _ => is_val fun w => by simp [Builtin.min_, Builtin.min2]⟩
  · exact ⟨_, h, fun _ => is_val fun w => by simp [Builtin.max_, Builtin.max2]⟩
  · exact ⟨_, h, fun _ => is_sm⟩
  · exact ⟨_, h, fun _ => is_sm⟩
  · exact ⟨_, h, fun _ => is_sm⟩
  · exact ⟨_, h, fun _ => is_sm⟩
  · exact h.elim

theorem callFunc_entered {f : FuncId} (h : entered P f = true) (args : Array Value) (w : World) : (callFunc f args).run P w = .ok (.enter f args) w := by
  unfold entered at h
  cases hf : P.funcs[f]? with
  | none => simp [hf] at h
  | some fn =>
    simp only [hf, Bool.and_eq_true, Bool.not_eq_true'] at h
    have h2 : ¬ fn.name = "runtime.NumGoroutine" := by simpa using h.2
    have h3 : ¬ fn.body = none := by intro e; simp [e] at h
    simp [callFunc, hf, h2, h3]
end
end Go.Sp
