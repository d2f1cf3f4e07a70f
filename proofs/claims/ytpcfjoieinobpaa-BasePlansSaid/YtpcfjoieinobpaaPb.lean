import Derived.Test.YtpcfjoieinobpaaK11
import Derived.Test.YtpcfjoieinobpaaGb0
namespace Go.Sp
open Go Go.Proofs
set_option linter.unusedVariables false
set_option linter.unusedSimpArgs false
theorem f15 (s : Int) (hs : wf64 s) : Fp (eT3 eI eI eI) Try.prog 15 #[.int .i64 s] [] (if s < 1 then (0, 0, 0) else ((s - 1) / 2, 1 + (s - 1) / 2, if 200 < (s - 1 - (s - 1) / 2) / 4 then 200 else (s - 1 - (s - 1) / 2) / 4)) := by
  intro L
  obtain ⟨h1, h2⟩ := hs
  refine c15_fn rfl rfl ?_
  repeat' first | ((with_reducible refine d_seq ?_); intro K hK) | ((with_reducible refine d_reg ?_); simp only [go_sem, Nat.reduceAdd, ne_eq, Nat.reduceEqDiff, reduceCtorEq, not_false_eq_true]) | ((with_reducible apply d_cond); exact rfl; all_goals (intro hc; try simp only [decide_eq_true_eq, decide_eq_false_iff_not, beq_iff_eq, bne_iff_ne, beq_eq_false_iff_ne, bne_eq_false_iff_eq, Bool.not_eq_true', Bool.not_eq_false', Bool.not_eq_true, Bool.not_eq_false, Bool.not_not, Bool.not_true, Bool.not_false, Int.not_lt, Int.not_le, ne_eq, not_true_eq_false, not_false_eq_true, reduceCtorEq, Int.reduceLT, Int.reduceLE] at hc)) | ((with_reducible refine hK _ _ ?_); clear hK; clear K) | ((with_reducible refine r_cnd ?_ ?_); all_goals (intro hc; try simp only [decide_eq_true_eq, decide_eq_false_iff_not, beq_iff_eq, bne_iff_ne, beq_eq_false_iff_ne, bne_eq_false_iff_eq, Bool.not_eq_true', Bool.not_eq_false', Bool.not_eq_true, Bool.not_eq_false, Bool.not_not, Bool.not_true, Bool.not_false, Int.not_lt, Int.not_le, ne_eq, not_true_eq_false, not_false_eq_true, reduceCtorEq, Int.reduceLT, Int.reduceLE] at hc)) | (with_reducible refine r_rq (by decide) ?_) | simp only [go_sem, Nat.reduceAdd, ne_eq, Nat.reduceEqDiff, reduceCtorEq, not_false_eq_true]
  · rw [if_pos hc]
    exact r_retp rfl .refl
  · rw [if_neg (by omega)]
    simp (disch := omega) only [w64, td]
    exact r_retp rfl .refl
theorem f16 : Fp eB Try.prog 16 #[] [] true := by
  intro L
  refine c16_fn rfl rfl ?_
  repeat' (first | first | ((with_reducible refine d_seq ?_); intro K hK) | ((with_reducible refine d_reg ?_); simp only [go_sem, Nat.reduceAdd, ne_eq, Nat.reduceEqDiff, reduceCtorEq, not_false_eq_true]) | ((with_reducible apply d_cond); exact rfl; all_goals (intro hc; try simp only [decide_eq_true_eq, decide_eq_false_iff_not, beq_iff_eq, bne_iff_ne, beq_eq_false_iff_ne, bne_eq_false_iff_eq, Bool.not_eq_true', Bool.not_eq_false', Bool.not_eq_true, Bool.not_eq_false, Bool.not_not, Bool.not_true, Bool.not_false, Int.not_lt, Int.not_le, ne_eq, not_true_eq_false, not_false_eq_true, reduceCtorEq, Int.reduceLT, Int.reduceLE] at hc)) | ((with_reducible refine hK _ _ ?_); clear hK; clear K) | ((with_reducible refine r_cnd ?_ ?_); all_goals (intro hc; try simp only [decide_eq_true_eq, decide_eq_false_iff_not, beq_iff_eq, bne_iff_ne, beq_eq_false_iff_ne, bne_eq_false_iff_eq, Bool.not_eq_true', Bool.not_eq_false', Bool.not_eq_true, Bool.not_eq_false, Bool.not_not, Bool.not_true, Bool.not_false, Int.not_lt, Int.not_le, ne_eq, not_true_eq_false, not_false_eq_true, reduceCtorEq, Int.reduceLT, Int.reduceLE] at hc)) | (with_reducible refine r_rq (by decide) ?_) | simp only [go_sem, Nat.reduceAdd, ne_eq, Nat.reduceEqDiff, reduceCtorEq, not_false_eq_true] | refine r_calp (f15 41 ⟨by decide, by decide⟩) .nil ?_)
  all_goals first | exact r_retp rfl .refl | (exfalso; revert hc; decide)
theorem f3 (s : Int) (hs : wf64 s) : Fp eB Try.prog 3 #[.int .i64 s] [] true := by
  intro L
  have c := f15 s hs
  obtain ⟨h1, h2⟩ := hs
  by_cases h0 : s < 1
  · rw [if_pos h0] at c
    refine c3_fn rfl rfl ?_
    repeat' (first | first | ((with_reducible refine d_seq ?_); intro K hK) | ((with_reducible refine d_reg ?_); simp only [go_sem, Nat.reduceAdd, ne_eq, Nat.reduceEqDiff, reduceCtorEq, not_false_eq_true]) | ((with_reducible apply d_cond); exact rfl; all_goals (intro hc; try simp only [decide_eq_true_eq, decide_eq_false_iff_not, beq_iff_eq, bne_iff_ne, beq_eq_false_iff_ne, bne_eq_false_iff_eq, Bool.not_eq_true', Bool.not_eq_false', Bool.not_eq_true, Bool.not_eq_false, Bool.not_not, Bool.not_true, Bool.not_false, Int.not_lt, Int.not_le, ne_eq, not_true_eq_false, not_false_eq_true, reduceCtorEq, Int.reduceLT, Int.reduceLE] at hc)) | ((with_reducible refine hK _ _ ?_); clear hK; clear K) | ((with_reducible refine r_cnd ?_ ?_); all_goals (intro hc; try simp only [decide_eq_true_eq, decide_eq_false_iff_not, beq_iff_eq, bne_iff_ne, beq_eq_false_iff_ne, bne_eq_false_iff_eq, Bool.not_eq_true', Bool.not_eq_false', Bool.not_eq_true, Bool.not_eq_false, Bool.not_not, Bool.not_true, Bool.not_false, Int.not_lt, Int.not_le, ne_eq, not_true_eq_false, not_false_eq_true, reduceCtorEq, Int.reduceLT, Int.reduceLE] at hc)) | (with_reducible refine r_rq (by decide) ?_) | simp only [go_sem, Nat.reduceAdd, ne_eq, Nat.reduceEqDiff, reduceCtorEq, not_false_eq_true] | refine r_calp c .nil ?_ | refine r_calp f16 .nil ?_)
    all_goals first | exact r_retp rfl .refl | omega
  · rw [if_neg h0] at c
    refine c3_fn rfl rfl ?_
    repeat' (first | first | ((with_reducible refine d_seq ?_); intro K hK) | ((with_reducible refine d_reg ?_); simp only [go_sem, Nat.reduceAdd, ne_eq, Nat.reduceEqDiff, reduceCtorEq, not_false_eq_true]) | ((with_reducible apply d_cond); exact rfl; all_goals (intro hc; try simp only [decide_eq_true_eq, decide_eq_false_iff_not, beq_iff_eq, bne_iff_ne, beq_eq_false_iff_ne, bne_eq_false_iff_eq, Bool.not_eq_true', Bool.not_eq_false', Bool.not_eq_true, Bool.not_eq_false, Bool.not_not, Bool.not_true, Bool.not_false, Int.not_lt, Int.not_le, ne_eq, not_true_eq_false, not_false_eq_true, reduceCtorEq, Int.reduceLT, Int.reduceLE] at hc)) | ((with_reducible refine hK _ _ ?_); clear hK; clear K) | ((with_reducible refine r_cnd ?_ ?_); all_goals (intro hc; try simp only [decide_eq_true_eq, decide_eq_false_iff_not, beq_iff_eq, bne_iff_ne, beq_eq_false_iff_ne, bne_eq_false_iff_eq, Bool.not_eq_true', Bool.not_eq_false', Bool.not_eq_true, Bool.not_eq_false, Bool.not_not, Bool.not_true, Bool.not_false, Int.not_lt, Int.not_le, ne_eq, not_true_eq_false, not_false_eq_true, reduceCtorEq, Int.reduceLT, Int.reduceLE] at hc)) | (with_reducible refine r_rq (by decide) ?_) | simp only [go_sem, Nat.reduceAdd, ne_eq, Nat.reduceEqDiff, reduceCtorEq, not_false_eq_true] | refine r_calp c .nil ?_ | refine r_calp f16 .nil ?_)
    all_goals simp (disch := omega) only [w64, td] at *
    all_goals first | exact r_retp rfl .refl | (exfalso; clear c; grind)
end Go.Sp
