/- Every request is what the model's operation does. -/
import Derived.Test.YtpadmllpdkknnaaK2
namespace Go.Sp
open Go

theorem rd_spec {ρ : Env} {e : Operand → Value} (he : ∀ x v, evO ρ x = some v → e x = v) {x : Operand} {k : Value → W} {w : World} (h : rd ρ x k w) : k (e x) w := by
  unfold rd at h
  cases hx : evO ρ x with
  | none => simp [hx, ff] at h
  | some v => simp [hx] at h; rw [he x v hx]; exact h
theorem rds_spec {ρ : Env} {e : Operand → Value} (he : ∀ x v, evO ρ x = some v → e x = v) : ∀ {xs : List Operand} {k : List Value → W} {w : World}, rds ρ xs k w → k (xs.map e) w
  | [], _, _, h => h
  | _ :: _, k, _, h => rds_spec (k := fun vs => k (e _ :: vs)) he (rd_spec (k := fun v => rds ρ _ fun vs => k (v :: vs)) he h)
theorem rdp_spec {ρ : Env} {e : Operand → Value} (he : ∀ x v, evO ρ x = some v → e x = v) : ∀ {xs : List (Nat × Operand)} {k : List (Nat × Value) → W} {w : World}, rdp ρ xs k w → k (xs.map fun (i, x) => (i, e x)) w
  | [], _, _, h => h
  | (_, _) :: _, k, _, h => rdp_spec (k := fun vs => k ((_, e _) :: vs)) he (rd_spec (k := fun v => rdp ρ _ fun vs => k ((_, v) :: vs)) he h)
theorem rdo_spec {ρ : Env} {e : Operand → Value} (he : ∀ x v, evO ρ x = some v → e x = v) {x : Option Operand} {k : Option Value → W} {w : World} (h : rdo ρ x k w) : k (x.map e) w := by
  cases x with
  | none => exact h
  | some x => exact rd_spec (k := fun v => k (some v)) he h
theorem nn_spec {p : Option Addr} {k : Addr → W} {w : World} (h : nn p k w) : ∃ a, p = some a ∧ k a w := by
  cases p with
  | none => exact h.elim
  | some a => exact ⟨a, rfl, h⟩
theorem dr_spec {v : Value} {k : Addr → W} {w : World} (h : dr v k w) : ∃ a, v = .pointer (some a) ∧ k a w := by
  unfold dr at h
  split at h
  · obtain ⟨a, rfl, h⟩ := nn_spec h; exact ⟨a, rfl, h⟩
  · exact h.elim
theorem bnd_spec {o : Option Value} {d : Int} {k : Int → W} {w : World} (h : bnd o d k w) : ∃ n, (o = none ∧ n = d ∨ ∃ a, o = some (.int a n)) ∧ k n w := by
  unfold bnd at h
  split at h
  · exact ⟨d, .inl ⟨rfl, rfl⟩, h⟩
  · rename_i a n; exact ⟨n, .inr ⟨a, rfl⟩, h⟩
  · exact h.elim

theorem unstr_toList (b : ByteArray) : b.toList = unstr b := Lib.toList_data b
theorem unstr_length (b : ByteArray) : (unstr b).length = b.size := by simp [unstr]
theorem str_unstr (b : ByteArray) : str (unstr b) = .string b := by simp [str, unstr]
theorem str_append (a b : ByteArray) : str (unstr a ++ unstr b) = .string (a ++ b) := by
  have : (⟨(unstr a ++ unstr b).toArray⟩ : ByteArray) = a ++ b := by
    apply ByteArray.ext
    apply Array.toList_inj.1
    simp [unstr]
  simp only [str, this]

/-- 's' yields what the request does. -/
def Is (P : Program) (s : Sem Next) (r : Rq) : Prop := ∀ w, s.run P w = r.sem.run P w

section
variable {P : Program} {k : Kr} {w : World}
theorem is_val {s : Sem Value} {v : Value} (h : ∀ w, s.run P w = .ok v w) : Is P (do pure (.value (← s))) (.val v) := fun w => by
  simp [Rq.sem, h]
theorem is_sm {s : Sem Value} : Is P (do pure (.value (← s))) (.sm s) := fun _ => rfl
theorem is_nx {s : Sem Value} : Is P (do pure (.value (← s))) (.nx s) := fun _ => rfl
theorem is_um {s : Sem Unit} : Is P (do s; pure .skip) (.um s) := fun _ => rfl

theorem und {P : Program} {t : TypeId} {d : TypeDesc} (h : P.underlying t = some d) (w : World) : (underlying t).run P w = .ok d w := run_underlying h w
theorem szOf_run {P : Program} {t : TypeId} {i : TypeInfo} (h : P.info? t = some i) (w : World) : (sizeOf t).run P w = .ok (szOf P t) w := by
  simp [sizeOf, typeInfo, szOf, h]

theorem eqIn_ptr {t e : TypeId} (hu : P.underlying t = some (.pointer e)) (d : Nat) (p : Option Addr) (w : World) :
    (Op.equalIn (d + 1) t (.pointer p) (.pointer none)).run P w = .ok p.isNone w := by
  cases p <;> simp [Op.equalIn, und hu]
theorem eq_ptr {t e : TypeId} (hu : P.underlying t = some (.pointer e)) (p : Option Addr) (w : World) :
    (Op.equal t (.pointer p) (.pointer none)).run P w = .ok p.isNone w := eqIn_ptr hu 9999 p w
theorem eqIn_map {t e f : TypeId} (hu : P.underlying t = some (.map e f)) (d : Nat) (p : Option Nat) (w : World) :
    (Op.equalIn (d + 1) t (.map p) (.map none)).run P w = .ok p.isNone w := by
  cases p <;> simp [Op.equalIn, und hu]
theorem eq_map {t e f : TypeId} (hu : P.underlying t = some (.map e f)) (p : Option Nat) (w : World) :
    (Op.equal t (.map p) (.map none)).run P w = .ok p.isNone w := eqIn_map hu 9999 p w
theorem eqIn_bool {t : TypeId} (hu : P.underlying t = some .bool) (d : Nat) (p q : Bool) (w : World) :
    (Op.equalIn (d + 1) t (.bool p) (.bool q)).run P w = .ok (p == q) w := by
  simp [Op.equalIn, und hu]
theorem eq_bool {t : TypeId} (hu : P.underlying t = some .bool) (p q : Bool) (w : World) :
    (Op.equal t (.bool p) (.bool q)).run P w = .ok (p == q) w := eqIn_bool hu 9999 p q w

theorem binR_sound {op : BinOp} {t : TypeId} {ox oy : Operand} {x y : Value} (h : binR P op t ox oy x y k w) :
    ∃ r, k r w ∧ Is P (do pure (.value (← (do eqGuard op t ox oy x y; binOp op t x y)))) r := by
  unfold binR at h
  split at h
  · rename_i a m b n
    cases op <;> simp only [] at h
    case shl =>
      refine ⟨_, h.2, is_val fun w => ?_⟩
      simp only [eqGuard_at_int, pure_bind, binOp_shl, Op.shift, Int.not_lt.2 h.1, if_false]; rfl
    case shr =>
      refine ⟨_, h.2, is_val fun w => ?_⟩
      simp only [eqGuard_at_int, pure_bind, binOp_shr, Op.shift, Int.not_lt.2 h.1, if_false]; rfl
    case quo =>
      split at h
      case isFalse => exact h.elim
      rename_i e; subst e
      refine ⟨_, h.2, is_val fun w => ?_⟩
      simp only [eqGuard_at_int, pure_bind, binOp_quo, Op.intDiv, h.1, if_false]; rfl
    case rem =>
      split at h
      case isFalse => exact h.elim
      rename_i e; subst e
      refine ⟨_, h.2, is_val fun w => ?_⟩
      simp only [eqGuard_at_int, pure_bind, binOp_rem, Op.intDiv, h.1, if_false]; rfl
    all_goals
      split at h
      case isFalse => exact h.elim
      rename_i e; subst e
      refine ⟨_, h, is_val fun w => ?_⟩
      simp only [eqGuard_at_int, pure_bind, binOp_add, binOp_sub, binOp_mul, binOp_and, binOp_or, binOp_xor, binOp_andNot, binOp_eql, binOp_neq, binOp_lss, binOp_leq, binOp_gtr, binOp_geq, Op.intArith, intBits_and, intBits_or, intBits_xor, intBits_andNot]
      rfl
  · rename_i a b
    cases op <;> simp only [] at h
    case add =>
      refine ⟨_, h.2, is_val fun w => ?_⟩
      have h1 := h.1
      rw [unstr_length, unstr_length] at h1
      have h2 : ¬ ((a.size + b.size : Nat) : Int) > IntKind.i64.max := by rw [IntKind.max_i64]; omega
      simp only [eqGuard_at_string, pure_bind, binOp, Op.stringOp, h2, if_false, str_append]; rfl
    all_goals first
      | exact h.elim
      | (refine ⟨_, h, is_val fun w => ?_⟩
         simp only [eqGuard_at_string, pure_bind, binOp, Op.stringOp, unstr_toList]; rfl)
  · rename_i p
    cases hu : P.underlying t with
    | none => simp only [hu] at h; exact h.elim
    | some d =>
      simp only [hu] at h
      cases d <;> try exact h.elim
      cases op <;> first
        | exact h.elim
        | (refine ⟨_, h, is_val fun w => ?_⟩
           simp [eqGuard_at_pointer, binOp, eq_ptr hu])
  · rename_i p
    cases hu : P.underlying t with
    | none => simp only [hu] at h; exact h.elim
    | some d =>
      simp only [hu] at h
      cases d <;> try exact h.elim
      cases op <;> first
        | exact h.elim
        | (refine ⟨_, h, is_val fun w => ?_⟩
           simp [eqGuard_at_map, binOp, eq_map hu])
  · rename_i p q
    cases hu : P.underlying t with
    | none => simp only [hu] at h; exact h.elim
    | some d =>
      simp only [hu] at h
      cases d <;> try exact h.elim
      cases op <;> first
        | exact h.elim
        | (refine ⟨_, h, is_val fun w => ?_⟩
           simp [eqGuard_at_bool, binOp, eq_bool hu])
  · exact ⟨_, h, is_sm⟩

theorem convR_sound {s d : TypeId} {x : Value} (h : convR P s d x k w) : ∃ r, k r w ∧ Is P (do pure (.value (← convert s d x))) r := by
  unfold convR at h
  split at h
  · rename_i a n
    cases hs : P.underlying s with
    | none => simp only [hs] at h; exact h.elim
    | some u =>
      cases hd : P.underlying d with
      | none => simp only [hs, hd] at h; exact h.elim
      | some v =>
        simp only [hs, hd] at h
        cases v <;> try exact h.elim
        exact ⟨_, h, is_val fun w => by simp [convert, und hs, und hd, Conv.intToInt]⟩
  · rename_i b
    by_cases hb : P.underlying s = some .string ∧ P.underlying d = some .string
    · obtain ⟨hs, hd⟩ := hb
      simp only [hs, hd] at h
      exact ⟨_, h, is_val fun w => by simp [convert, und hs, und hd]⟩
    · refine ⟨.sm (convert s d (.string b)), ?_, is_sm⟩
      revert h hb
      cases P.underlying s with
      | none => exact fun h _ => h
      | some u =>
        cases P.underlying d with
        | none => cases u <;> exact fun h _ => h
        | some v => cases u <;> first | exact fun h _ => h | (cases v <;> first | exact fun h _ => h | exact fun _ hb => absurd ⟨rfl, rfl⟩ hb)
  · exact ⟨_, h, is_sm⟩

theorem sz_spec {t : TypeId} {q : Nat → W} (h : sz P t q w) : ∃ n, (∀ w, (sizeOf t).run P w = .ok n w) ∧ szOf P t = n ∧ q n w := by
  unfold sz at h
  cases hi : P.info? t with
  | none => simp only [hi] at h; exact h.elim
  | some i => simp only [hi] at h; exact ⟨i.size, fun w => by simp [sizeOf, typeInfo, hi], by simp [szOf, hi], h⟩
theorem zro_spec {t : TypeId} {q : Array Value → W} (h : zro P t q w) : ∃ z, (∀ w, (zeroValue t).run P w = .ok z w) ∧ q z.cells w := by
  unfold zro at h
  cases hi : P.info? t with
  | none => simp only [hi] at h; exact h.elim
  | some i =>
    cases hz : i.zero with
    | none => simp only [hi, hz] at h; exact h.elim
    | some z => simp only [hi, hz] at h; exact ⟨z, fun w => by simp [zeroValue, typeInfo, hi, hz], h⟩
theorem agg_true {t : TypeId} (h : aggB P t = true) (w : World) : (isAgg t).run P w = .ok true w := by
  unfold aggB at h
  split at h
  · rename_i fs hu; simp [isAgg, und hu]
  · rename_i n e hu; simp [isAgg, und hu]
  · cases h
theorem agg_false {t : TypeId} {d : TypeDesc} (h : aggB P t = false) (hd : P.underlying t = some d) (w : World) : (isAgg t).run P w = .ok false w := by
  unfold aggB at h
  rw [hd] at h
  simp only [isAgg, Sem.run_bind, und hd, Result.andThen_ok]
  cases d <;> simp at h ⊢
end
end Go.Sp
