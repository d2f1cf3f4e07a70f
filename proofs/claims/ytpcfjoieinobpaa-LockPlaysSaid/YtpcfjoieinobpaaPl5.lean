/- The layer lock: the laws LockRights and LockMeets. -/
import Derived.Test.YtpcfjoieinobpaaPl4
namespace Go.Sp
open Go Go.Proofs
set_option linter.unusedVariables false
set_option linter.unusedSimpArgs false
set_option maxRecDepth 10000
theorem right_le {h : lock_Hold} (hr : lkRight h = true) : h.Open = true ∨ le h.Lo h.Hi = true := by
  unfold lkRight at hr
  cases ho : h.Open with
  | true => exact .inl rfl
  | false => simp [ho] at hr; exact .inr hr.2
theorem meet_eq {a b : lock_Hold} (ha : lkRight a = true) (hb : lkRight b = true) : rfMeet a b = lkMeet a b := by
  have h1 := right_le ha
  have h2 := right_le hb
  unfold rfMeet lkMeet lkIn
  simp only [less_le, Bool.not_not]
  cases h : le b.Lo a.Lo with
  | true =>
    have : a.Open = true ∨ le b.Lo a.Hi = true := h1.imp id fun h' => le_trans' h h'
    simp only [Bool.not_true, Bool.false_eq_true, if_false, le_refl', Bool.true_and]
    simp only [h]
    rcases h1 with e | e <;> rcases this with e' | e' <;> simp [e, e']
  | false =>
    have hab : le a.Lo b.Lo = true := (le_total' a.Lo b.Lo).resolve_right (by simp [h])
    have : b.Open = true ∨ le a.Lo b.Hi = true := h2.imp id fun h' => le_trans' hab h'
    simp only [Bool.not_false, if_true, le_refl', Bool.true_and]
    simp only [hab]
    rcases h2 with e | e <;> rcases this with e' | e' <;> simp [e, e']
theorem bar_eq {a b : lock_Hold} (ha : lkRight a = true) (hb : lkRight b = true) : rfBar a b = lkBar a b := by
  unfold rfBar lkBar; rw [meet_eq ha hb]
theorem in_meet {a b : lock_Hold} {key : List UInt8} (h : lkIn a key = true) (h' : lkIn b key = true) : lkMeet a b = true := by
  unfold lkIn at h h'
  simp only [less_le, Bool.not_not, Bool.and_eq_true, Bool.or_eq_true] at h h'
  unfold lkMeet
  simp only [Bool.and_eq_true, Bool.or_eq_true]
  exact ⟨h.2.imp id fun x => le_trans' h'.1 x, h'.2.imp id fun x => le_trans' h.1 x⟩
theorem f4 (x y : lock_Hold) : Fp eB Try.prog 4 #[v_lock_Hold x, v_lock_Hold y] [] true := by
  intro L
  refine c4_fn rfl rfl ?_
  by_cases hx : lkRight x = true <;> by_cases hy : lkRight y = true
  · have e1 := meet_eq hx hy
    have e2 := bar_eq hx hy
    repeat' (first | first | ((with_reducible refine d_seq ?_); intro K hK) | ((with_reducible refine d_reg ?_); simp only [go_sem, Nat.reduceAdd, Nat.reduceEqDiff]) | ((first | ((with_reducible apply d_cond); exact rfl) | (with_reducible refine r_cnd ?_ ?_)); all_goals (intro hc; try simp only [push_cast] at hc)) | ((with_reducible refine hK _ _ ?_); clear hK; clear K) | (with_reducible refine r_rq (by first | decide | omega) ?_) | ((with_reducible refine r_nwc ?_); intro b) | ((with_reducible (first | apply r_ld | apply r_ldq); focus (with_reducible repeat' first | exact At.here | (fail_if_success refine (id : At [] _ _ → At [] _ _) ?_); apply At.there)); exact rfl) | ((with_reducible (first | apply r_ldn | apply r_ldnq); focus (with_reducible repeat' first | exact At.here | (fail_if_success refine (id : At [] _ _ → At [] _ _) ?_); apply At.there)); (focus (exact rfl)); exact rfl; exact rfl) | (with_reducible refine r_ph0 ?_) | ((with_reducible refine r_kp ?_ ?_); (focus ((try simp only [List.nil_append, List.cons_append, List.append_assoc, List.flatMap_nil, List.append_nil]); with_reducible repeat' first | exact Sub.refl | exact Sub.nil | (apply Sub.cons; focus (with_reducible repeat' first | exact At.here | (fail_if_success refine (id : At [] _ _ → At [] _ _) ?_); apply At.there)) | refine Sub.drop ?_))) | ((with_reducible (first | apply r_st | apply r_stl); focus (with_reducible repeat' first | exact At.here | (fail_if_success refine (id : At [] _ _ → At [] _ _) ?_); apply At.there)); (focus (simp)); (focus (exact rfl))) | simp only [go_sem, Nat.reduceAdd, Nat.reduceEqDiff] | (clear hK; clear K) | refine r_calp (f17 _) .nil ?_ | refine r_calp (f18 _) .nil ?_ | refine r_calp f19 .nil ?_ | refine r_calp (f20 _ _) .nil ?_ | refine r_calp (f21 _ _) .nil ?_ | refine r_calp (f22 _ _) .nil ?_ | refine r_calp (f23 _ _) .nil ?_)
    all_goals first | exact r_retb rfl rfl (by (try simp only [List.nil_append, List.cons_append, List.append_assoc, List.flatMap_nil, List.append_nil]); with_reducible repeat' first | exact Sub.refl | exact Sub.nil | (apply Sub.cons; focus (with_reducible repeat' first | exact At.here | (fail_if_success refine (id : At [] _ _ → At [] _ _) ?_); apply At.there)) | refine Sub.drop ?_) | (exfalso; simp_all)
  all_goals
    repeat' (first | first | ((with_reducible refine d_seq ?_); intro K hK) | ((with_reducible refine d_reg ?_); simp only [go_sem, Nat.reduceAdd, Nat.reduceEqDiff]) | ((first | ((with_reducible apply d_cond); exact rfl) | (with_reducible refine r_cnd ?_ ?_)); all_goals (intro hc; try simp only [push_cast] at hc)) | ((with_reducible refine hK _ _ ?_); clear hK; clear K) | (with_reducible refine r_rq (by first | decide | omega) ?_) | ((with_reducible refine r_nwc ?_); intro b) | ((with_reducible (first | apply r_ld | apply r_ldq); focus (with_reducible repeat' first | exact At.here | (fail_if_success refine (id : At [] _ _ → At [] _ _) ?_); apply At.there)); exact rfl) | ((with_reducible (first | apply r_ldn | apply r_ldnq); focus (with_reducible repeat' first | exact At.here | (fail_if_success refine (id : At [] _ _ → At [] _ _) ?_); apply At.there)); (focus (exact rfl)); exact rfl; exact rfl) | (with_reducible refine r_ph0 ?_) | ((with_reducible refine r_kp ?_ ?_); (focus ((try simp only [List.nil_append, List.cons_append, List.append_assoc, List.flatMap_nil, List.append_nil]); with_reducible repeat' first | exact Sub.refl | exact Sub.nil | (apply Sub.cons; focus (with_reducible repeat' first | exact At.here | (fail_if_success refine (id : At [] _ _ → At [] _ _) ?_); apply At.there)) | refine Sub.drop ?_))) | ((with_reducible (first | apply r_st | apply r_stl); focus (with_reducible repeat' first | exact At.here | (fail_if_success refine (id : At [] _ _ → At [] _ _) ?_); apply At.there)); (focus (simp)); (focus (exact rfl))) | simp only [go_sem, Nat.reduceAdd, Nat.reduceEqDiff] | (clear hK; clear K) | refine r_calp (f17 _) .nil ?_ | refine r_calp (f18 _) .nil ?_ | refine r_calp f19 .nil ?_)
    all_goals first | exact r_retb rfl rfl (by (try simp only [List.nil_append, List.cons_append, List.append_assoc, List.flatMap_nil, List.append_nil]); with_reducible repeat' first | exact Sub.refl | exact Sub.nil | (apply Sub.cons; focus (with_reducible repeat' first | exact At.here | (fail_if_success refine (id : At [] _ _ → At [] _ _) ?_); apply At.there)) | refine Sub.drop ?_) | (exfalso; simp_all)
theorem f5 (x y : lock_Hold) (key : List UInt8) : Fp eB Try.prog 5 #[v_lock_Hold x, v_lock_Hold y, str key] [] true := by
  intro L
  have e : lkIn x key = true → lkIn y key = true → lkMeet x y = true ∧ lkMeet y x = true := fun h h' => ⟨in_meet h h', in_meet h' h⟩
  refine c5_fn rfl rfl ?_
  repeat' (first | first | ((with_reducible refine d_seq ?_); intro K hK) | ((with_reducible refine d_reg ?_); simp only [go_sem, Nat.reduceAdd, Nat.reduceEqDiff]) | ((first | ((with_reducible apply d_cond); exact rfl) | (with_reducible refine r_cnd ?_ ?_)); all_goals (intro hc; try simp only [push_cast] at hc)) | ((with_reducible refine hK _ _ ?_); clear hK; clear K) | (with_reducible refine r_rq (by first | decide | omega) ?_) | ((with_reducible refine r_nwc ?_); intro b) | ((with_reducible (first | apply r_ld | apply r_ldq); focus (with_reducible repeat' first | exact At.here | (fail_if_success refine (id : At [] _ _ → At [] _ _) ?_); apply At.there)); exact rfl) | ((with_reducible (first | apply r_ldn | apply r_ldnq); focus (with_reducible repeat' first | exact At.here | (fail_if_success refine (id : At [] _ _ → At [] _ _) ?_); apply At.there)); (focus (exact rfl)); exact rfl; exact rfl) | (with_reducible refine r_ph0 ?_) | ((with_reducible refine r_kp ?_ ?_); (focus ((try simp only [List.nil_append, List.cons_append, List.append_assoc, List.flatMap_nil, List.append_nil]); with_reducible repeat' first | exact Sub.refl | exact Sub.nil | (apply Sub.cons; focus (with_reducible repeat' first | exact At.here | (fail_if_success refine (id : At [] _ _ → At [] _ _) ?_); apply At.there)) | refine Sub.drop ?_))) | ((with_reducible (first | apply r_st | apply r_stl); focus (with_reducible repeat' first | exact At.here | (fail_if_success refine (id : At [] _ _ → At [] _ _) ?_); apply At.there)); (focus (simp)); (focus (exact rfl))) | simp only [go_sem, Nat.reduceAdd, Nat.reduceEqDiff] | (clear hK; clear K) | refine r_calp (f18 _) .nil ?_ | refine r_calp f19 .nil ?_ | refine r_calp (f20 _ _) .nil ?_ | refine r_calp (f24 _ _) .nil ?_)
  all_goals first | exact r_retb rfl rfl (by (try simp only [List.nil_append, List.cons_append, List.append_assoc, List.flatMap_nil, List.append_nil]); with_reducible repeat' first | exact Sub.refl | exact Sub.nil | (apply Sub.cons; focus (with_reducible repeat' first | exact At.here | (fail_if_success refine (id : At [] _ _ → At [] _ _) ?_); apply At.there)) | refine Sub.drop ?_) | (exfalso; simp_all; done)
end Go.Sp
