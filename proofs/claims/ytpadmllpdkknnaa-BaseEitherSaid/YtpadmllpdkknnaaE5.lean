/- The base's law: a base as bytes. -/
import Derived.Test.YtpadmllpdkknnaaE4
namespace Go.Sp
open Go Go.Proofs
set_option linter.unusedSimpArgs false
set_option linter.unusedVariables false
set_option maxRecDepth 10000
def ns (b : base_Base) : List Int := [b.Node, b.Boot, b.Gen, b.Check, b.Redo, b.Seen, b.Joined]
def wds : List Nat := [1, 4, 2, 6, 6, 4, 4]
def eb (b : base_Base) : Nat → List UInt8
  | 0 => [0, 7, 103, 104, 97, 114, 114, 121, 49]
  | i + 1 => eb b i ++ lowb ((ns b).getD i 0) (wds.getD i 0)
def ft (b : base_Base) : Nat → Bool
  | 0 => true
  | i + 1 => ft b i && ((ns b).getD i 0 / 256 ^ (wds.getD i 0) == 0) && decide (0 ≤ (ns b).getD i 0)
theorem eb_len (b : base_Base) : ∀ i, i ≤ 7 → (eb b i).length ≤ 9 + 6 * i
  | 0, _ => by simp [eb]
  | i + 1, h => by
    have := eb_len b i (by omega)
    have hw : wds.getD i 0 ≤ 6 := by
      have : i = 0 ∨ i = 1 ∨ i = 2 ∨ i = 3 ∨ i = 4 ∨ i = 5 ∨ i = 6 := by omega
      rcases this with rfl | rfl | rfl | rfl | rfl | rfl | rfl <;> decide
    simp only [eb, List.length_append, lowb_len]
    omega
theorem f35 (x : base_Base) (h : ∀ n ∈ ns x, 0 ≤ n ∧ n < 4611686018427387904) : Fp (eT2 eS eB) Try.prog 35 #[v_base_Base x] [] (eb x 7, ft x 7) := fun L => by
  refine c35_fn rfl rfl ?_
  repeat' ((fail_if_success with_reducible refine (id : E _ (ph _) → E _ (ph _)) ?_); first | ((with_reducible refine d_seq ?_); intro K hK) | ((with_reducible refine d_reg ?_); simp only [go_sem, Nat.reduceAdd, Nat.reduceEqDiff, Int.reduceToNat, Nat.reduceMul, Nat.reduceSub]) | ((first | ((with_reducible refine d_cnd ?_); refine And.intro ?_ ?_) | (with_reducible refine r_cnd ?_ ?_)); all_goals (intro hc; (try simp only [push_cast, Int.reduceEq, Int.reduceLT, Int.reduceLE, Int.reduceNe] at hc))) | ((with_reducible refine hK _ _ ?_); clear hK; clear K) | ((with_reducible first | refine d_blk ?_ | refine d_rt0 ?_ | refine d_sk0 ?_ | refine d_ex0 ?_); (try simp only [go_sem, Nat.reduceAdd, Nat.reduceEqDiff, Int.reduceToNat, Nat.reduceMul, Nat.reduceSub])) | (with_reducible refine r_rq (by first | decide | omega) ?_) | ((with_reducible refine r_nwc ?_); intro b) | ((with_reducible first | apply i_lds | apply i_ldsq | apply i_ld | apply i_ldq); exact rfl) | ((with_reducible first | apply i_ldn | apply i_ldnq); exact rfl; exact rfl; exact rfl) | (with_reducible first | refine r_ph0 ?_ | apply i_kp0) | ((with_reducible first | apply i_st | apply i_stl); (focus simp); exact rfl) | simp only [go_sem, Nat.reduceAdd, Nat.reduceEqDiff, Int.reduceToNat, Nat.reduceMul, Nat.reduceSub] | (clear hK; clear K))
  rename_i bb nb
  have e1 : [Value.int .i64 x.Node, .int .i64 x.Boot, .int .i64 x.Gen, .int .i64 x.Check, .int .i64 x.Redo, .int .i64 x.Seen, .int .i64 x.Joined] = (ns x).map fun n => .int .i64 n := rfl
  have e2 : [Value.int .i64 1, .int .i64 4, .int .i64 2, .int .i64 6, .int .i64 6, .int .i64 4, .int .i64 4] = wds.map fun n : Nat => Value.int .i64 (n : Int) := rfl
  refine d_lp [4, 5, 6, 7, 8] (fun i : Nat => [(4, str (eb x i)), (5, .slice (some ⟨nb, 0, none⟩) 7 7), (6, .slice (some ⟨b, 0, none⟩) 7 7), (7, .bool (ft x i)), (8, .int .i64 (i : Int))])
    (fun _ => ar b 3 (wds.map fun n : Nat => Value.int .i64 (n : Int)) :: ar nb 3 ((ns x).map fun n => .int .i64 n) :: L) (fun i => i ≤ 7) (fun i => 7 - i) 0 rfl ?_ (by omega) ?_
  · rw [← e1, ← e2]
    exact SX.p
  intro i hi
  have hlen := eb_len x i hi
  repeat' ((fail_if_success with_reducible refine (id : E _ (ph _) → E _ (ph _)) ?_); first | ((with_reducible refine d_seq ?_); intro K hK) | ((with_reducible refine d_reg ?_); simp only [go_sem, Nat.reduceAdd, Nat.reduceEqDiff, Int.reduceToNat, Nat.reduceMul, Nat.reduceSub]) | ((first | ((with_reducible refine d_cnd ?_); refine And.intro ?_ ?_) | (with_reducible refine r_cnd ?_ ?_)); all_goals (intro hc; (try simp only [push_cast, Int.reduceEq, Int.reduceLT, Int.reduceLE, Int.reduceNe] at hc))) | ((with_reducible refine hK _ _ ?_); clear hK; clear K) | ((with_reducible first | refine d_blk ?_ | refine d_rt0 ?_ | refine d_sk0 ?_ | refine d_ex0 ?_); (try simp only [go_sem, Nat.reduceAdd, Nat.reduceEqDiff, Int.reduceToNat, Nat.reduceMul, Nat.reduceSub])) | (with_reducible refine r_rq (by first | decide | omega) ?_) | ((with_reducible refine r_nwc ?_); intro b) | ((with_reducible first | apply i_lds | apply i_ldsq | apply i_ld | apply i_ldq); exact rfl) | ((with_reducible first | apply i_ldn | apply i_ldnq); exact rfl; exact rfl; exact rfl) | (with_reducible first | refine r_ph0 ?_ | apply i_kp0) | ((with_reducible first | apply i_st | apply i_stl); (focus simp); exact rfl) | simp only [go_sem, Nat.reduceAdd, Nat.reduceEqDiff, Int.reduceToNat, Nat.reduceMul, Nat.reduceSub] | (clear hK; clear K))
  all_goals try (exfalso; omega)
  · have hi7 : i < 7 := by omega
    have l1 : (ns x).length = 7 := rfl
    have l2 : wds.length = 7 := rfl
    have x1 : ((ns x).map fun n => Value.int .i64 n)[i]? = some (eI.enc ((ns x).getD i 0)) := by simp [l1, hi7]
    have x2 : (wds.map fun n : Nat => Value.int .i64 (n : Int))[i]? = some (eI.enc ((wds.getD i 0 : Nat) : Int)) := by simp [l2, hi7]
    have hm : (ns x).getD i 0 ∈ ns x := by
      rw [List.getD_eq_getElem?_getD, List.getElem?_eq_getElem (by omega)]
      exact List.getElem_mem _
    have hw : wds.getD i 0 ≤ 6 := by
      have : i = 0 ∨ i = 1 ∨ i = 2 ∨ i = 3 ∨ i = 4 ∨ i = 5 ∨ i = 6 := by omega
      rcases this with rfl | rfl | rfl | rfl | rfl | rfl | rfl <;> decide
    have hb := h _ hm
    have e3 : eb x (i + 1) = eb x i ++ lowb ((ns x).getD i 0) (wds.getD i 0) := rfl
    have e4 : ft x (i + 1) = (ft x i && ((ns x).getD i 0 / 256 ^ (wds.getD i 0) == 0) && decide (0 ≤ (ns x).getD i 0)) := rfl
    have hll := lowb_len ((ns x).getD i 0) (wds.getD i 0)
    generalize (ns x).getD i 0 = n at *
    generalize wds.getD i 0 = w at *
    refine r_ph0 ?_
    refine r_rq (by omega) ?_
    refine i_ldq x1 ?_
    refine r_rq (by omega) ?_
    refine i_ldq x2 ?_
    refine i_clp (f76 n w hw hb.1 hb.2) ?_
    repeat' ((fail_if_success with_reducible refine (id : E _ (ph _) → E _ (ph _)) ?_); first | ((with_reducible refine d_seq ?_); intro K hK) | ((with_reducible refine d_reg ?_); simp only [go_sem, Nat.reduceAdd, Nat.reduceEqDiff, Int.reduceToNat, Nat.reduceMul, Nat.reduceSub]) | ((first | ((with_reducible refine d_cnd ?_); refine And.intro ?_ ?_) | (with_reducible refine r_cnd ?_ ?_)); all_goals (intro hc; (try simp only [push_cast, Int.reduceEq, Int.reduceLT, Int.reduceLE, Int.reduceNe] at hc))) | ((with_reducible refine hK _ _ ?_); clear hK; clear K) | ((with_reducible first | refine d_blk ?_ | refine d_rt0 ?_ | refine d_sk0 ?_ | refine d_ex0 ?_); (try simp only [go_sem, Nat.reduceAdd, Nat.reduceEqDiff, Int.reduceToNat, Nat.reduceMul, Nat.reduceSub])) | (with_reducible refine r_rq (by first | decide | omega) ?_) | ((with_reducible refine r_nwc ?_); intro b) | ((with_reducible first | apply i_lds | apply i_ldsq | apply i_ld | apply i_ldq); exact rfl) | ((with_reducible first | apply i_ldn | apply i_ldnq); exact rfl; exact rfl; exact rfl) | (with_reducible first | refine r_ph0 ?_ | apply i_kp0) | ((with_reducible first | apply i_st | apply i_stl); (focus simp); exact rfl) | simp only [go_sem, Nat.reduceAdd, Nat.reduceEqDiff, Int.reduceToNat, Nat.reduceMul, Nat.reduceSub] | (clear hK; clear K))
    all_goals try (refine i_ld x1 ?_)
    repeat' ((fail_if_success with_reducible refine (id : E _ (ph _) → E _ (ph _)) ?_); first | ((with_reducible refine d_seq ?_); intro K hK) | ((with_reducible refine d_reg ?_); simp only [go_sem, Nat.reduceAdd, Nat.reduceEqDiff, Int.reduceToNat, Nat.reduceMul, Nat.reduceSub]) | ((first | ((with_reducible refine d_cnd ?_); refine And.intro ?_ ?_) | (with_reducible refine r_cnd ?_ ?_)); all_goals (intro hc; (try simp only [push_cast, Int.reduceEq, Int.reduceLT, Int.reduceLE, Int.reduceNe] at hc))) | ((with_reducible refine hK _ _ ?_); clear hK; clear K) | ((with_reducible first | refine d_blk ?_ | refine d_rt0 ?_ | refine d_sk0 ?_ | refine d_ex0 ?_); (try simp only [go_sem, Nat.reduceAdd, Nat.reduceEqDiff, Int.reduceToNat, Nat.reduceMul, Nat.reduceSub])) | (with_reducible refine r_rq (by first | decide | omega) ?_) | ((with_reducible refine r_nwc ?_); intro b) | ((with_reducible first | apply i_lds | apply i_ldsq | apply i_ld | apply i_ldq); exact rfl) | ((with_reducible first | apply i_ldn | apply i_ldnq); exact rfl; exact rfl; exact rfl) | (with_reducible first | refine r_ph0 ?_ | apply i_kp0) | ((with_reducible first | apply i_st | apply i_stl); (focus simp); exact rfl) | simp only [go_sem, Nat.reduceAdd, Nat.reduceEqDiff, Int.reduceToNat, Nat.reduceMul, Nat.reduceSub] | (clear hK; clear K))
    have e5 : IntKind.wrap .i64 ((i : Int) + 1) = ((i + 1 : Nat) : Int) := by rw [w64 (by omega) (by omega)]; rfl
    all_goals
      rw [← e3, w64 (n := (i : Int) + 1) (by omega) (by omega)]
      refine i_bk (i + 1) ?_ (by omega) (by omega)
      simp only [go_sem, Nat.reduceEqDiff]
      rw [e4]
      simp [*]
  · obtain rfl : i = 7 := by omega
    (with_reducible first | apply i_ret0 | apply i_ret2 | apply i_ret3 | apply i_ret); exact rfl
    rfl
end Go.Sp
