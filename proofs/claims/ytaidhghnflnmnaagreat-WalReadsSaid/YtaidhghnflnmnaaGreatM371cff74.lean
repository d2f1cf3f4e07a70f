/- Texts of a proof, one behind the other: U6 U7 U8 U9 V1 Gxf0 V2 V3 V4 V5 V6 V7 V8 V9 V10 K26 V11 W1 V12 W5 W7 Gxs0 Gxg0 W8 Gye0. No condition. -/
import Derived.Test.YtaidhghnflnmnaaGreatMf62df0dd
import Derived.Test.YtaidhghnflnmnaaGreatM0b14bbac
/- The log: Need, Read, Bound. -/
namespace Go.Sp
open Go Go.Proofs
set_option linter.unusedSimpArgs false
set_option linter.unusedVariables false
set_option maxRecDepth 10000
def Lg.read (G : Lg) (lsn : Int) : Rc × Int × Int := if lsn < 1 ∨ (G.all.length : Int) < lsn then (Rc.z 0, 0, 8) else if (opn G.all (lsn - 1)).2.2 = 0 then ((opn G.all (lsn - 1)).1, lsn + (opn G.all (lsn - 1)).2.1, 0) else (Rc.z 0, 0, (opn G.all (lsn - 1)).2.2)
set_option maxHeartbeats 1000000 in
theorem g35 (G : Lg) (sb : Nat) (hl : G.all.length ≤ 1000000) (lsn : Int) : Fn (eT3 e_api_Rec eI eI) Tryz.prog 35 #[G.p, .int .i64 lsn] [lgp G sb] fun y X => ∃ A : HP, X = [A, lgp G sb] ∧ RcAt A y.1 (G.read lsn).1 ∧ y.2 = (G.read lsn).2 := fun L => by
  refine c35_fn rfl rfl ?_
  generalize hB' : G.read lsn = B
  have hB := hB'
  unfold Lg.read at hB
  by_cases h1 : lsn < 1 ∨ (G.all.length : Int) < lsn
  · rw [if_pos h1] at hB
    refine r_nilow 123 2 ?_
    obtain ⟨A, hA⟩ : ∃ A, A = ow 123 2 (none, 0, 0) [] := ⟨_, rfl⟩
    rw [← hA]
    repeat' ((fail_if_success with_reducible refine nph ?_); first | (with_reducible first | (refine d_seq ?_; intro K hK) | (refine hK _ _ ?_; clear hK K) | (refine SG.p ?_; try intro b)) | ((with_reducible refine SC.p ?_); refine And.intro ?_ ?_) <;> intro hc <;> try simp only [push_cast, Int.reduceEq, Int.reduceLT, Int.reduceLE, Int.reduceNe] at hc | with_reducible refine r_rq (by first | decide | omega) ?_ | ((with_reducible refine SL.p ?_); first | refine ⟨_, rfl, ?_⟩ | refine ⟨_, _, _, rfl, ?_⟩ | (refine ⟨?_, rfl, ?_⟩; focus (simp; done))) | ((with_reducible first | apply i_ldn | apply i_ldnq); exact rfl; exact rfl; exact rfl) | ((try with_reducible refine d_reg ?_); simp only [go_sem, Nat.reduceAdd, Nat.reduceEqDiff, Int.reduceToNat, Nat.reduceMul, Nat.reduceSub]) | clear hK K)
    refine i_clp (g83 G sb) ?_
    repeat' ((fail_if_success with_reducible refine nph ?_); first | (with_reducible first | (refine d_seq ?_; intro K hK) | (refine hK _ _ ?_; clear hK K) | (refine SG.p ?_; try intro b)) | ((with_reducible refine SC.p ?_); refine And.intro ?_ ?_) <;> intro hc <;> try simp only [push_cast, Int.reduceEq, Int.reduceLT, Int.reduceLE, Int.reduceNe] at hc | with_reducible refine r_rq (by first | decide | omega) ?_ | ((with_reducible refine SL.p ?_); first | refine ⟨_, rfl, ?_⟩ | refine ⟨_, _, _, rfl, ?_⟩ | (refine ⟨?_, rfl, ?_⟩; focus (simp; done))) | ((with_reducible first | apply i_ldn | apply i_ldnq); exact rfl; exact rfl; exact rfl) | ((try with_reducible refine d_reg ?_); simp only [go_sem, Nat.reduceAdd, Nat.reduceEqDiff, Int.reduceToNat, Nat.reduceMul, Nat.reduceSub]) | clear hK K)
    all_goals try (exfalso; omega)
    all_goals try contradiction
    all_goals (refine i_ldn (e := e_api_Rec) (x := ⟨0, 0, 0, 0, 0, [], [], [], 0, (none, 0, 0), (none, 0, 0), 0, 0⟩) rfl rfl rfl ?_); exact i_done (e := eT3 e_api_Rec eI eI) (⟨0, 0, 0, 0, 0, [], [], [], 0, (none, 0, 0), (none, 0, 0), 0, 0⟩, 0, 8) [A, lgp G sb] rfl ⟨A, rfl, (by rw [← hB]; exact RcAt_z A 0), (by rw [← hB])⟩
  · rw [if_neg h1] at hB
    have O := g26 G.all (lsn - 1) (by omega)
    have hst : (opn G.all (lsn - 1)).2.2 = 0 → ∃ m : Nat, (opn G.all (lsn - 1)).2.1 = (m : Int) ∧ 7 ≤ m ∧ m ≤ G.all.length := fun h0 => by
      obtain ⟨a, ha⟩ : ∃ a : Nat, lsn - 1 = (a : Int) := ⟨(lsn - 1).toNat, by omega⟩
      rw [ha] at h0 ⊢
      obtain ⟨m, m1, m2, m3⟩ := opn_step (by omega) h0
      exact ⟨m, m1, m2, by omega⟩
    generalize opn G.all (lsn - 1) = o at *
    obtain ⟨c, n, e⟩ := o
    dsimp only at O hB hst
    have ew : IntKind.wrap .i64 (lsn - 1) = lsn - 1 := w64 (by omega) (by omega)
    repeat' ((fail_if_success with_reducible refine nph ?_); first | (with_reducible first | (refine d_seq ?_; intro K hK) | (refine hK _ _ ?_; clear hK K) | (refine SG.p ?_; try intro b)) | ((with_reducible refine SC.p ?_); refine And.intro ?_ ?_) <;> intro hc <;> try simp only [push_cast, Int.reduceEq, Int.reduceLT, Int.reduceLE, Int.reduceNe] at hc | with_reducible refine r_rq (by first | decide | omega) ?_ | ((with_reducible refine SL.p ?_); first | refine ⟨_, rfl, ?_⟩ | refine ⟨_, _, _, rfl, ?_⟩ | (refine ⟨?_, rfl, ?_⟩; focus (simp; done))) | ((with_reducible first | apply i_ldn | apply i_ldnq); exact rfl; exact rfl; exact rfl) | ((try with_reducible refine d_reg ?_); simp only [go_sem, Nat.reduceAdd, Nat.reduceEqDiff, Int.reduceToNat, Nat.reduceMul, Nat.reduceSub]) | clear hK K)
    refine i_clp (g83 G sb) ?_
    repeat' (first | rw [ew] | (fail_if_success with_reducible refine nph ?_); first | (with_reducible first | (refine d_seq ?_; intro K hK) | (refine hK _ _ ?_; clear hK K) | (refine SG.p ?_; try intro b)) | ((with_reducible refine SC.p ?_); refine And.intro ?_ ?_) <;> intro hc <;> try simp only [push_cast, Int.reduceEq, Int.reduceLT, Int.reduceLE, Int.reduceNe] at hc | with_reducible refine r_rq (by first | decide | omega) ?_ | ((with_reducible refine SL.p ?_); first | refine ⟨_, rfl, ?_⟩ | refine ⟨_, _, _, rfl, ?_⟩ | (refine ⟨?_, rfl, ?_⟩; focus (simp; done))) | ((with_reducible first | apply i_ldn | apply i_ldnq); exact rfl; exact rfl; exact rfl) | ((try with_reducible refine d_reg ?_); simp only [go_sem, Nat.reduceAdd, Nat.reduceEqDiff, Int.reduceToNat, Nat.reduceMul, Nat.reduceSub]) | clear hK K)
    all_goals try (exfalso; omega)
    all_goals try contradiction
    refine i_cal O ?_
    rintro ⟨⟨k1, k2, k3, k4, k5, k6, k7, k8, k9, k10, k11, k12, k13⟩, y⟩ X ⟨A, rfl, hr, he⟩
    dsimp only at hr he
    subst he
    by_cases e2 : e = 0
    · subst e2
      rw [if_pos rfl] at hB
      obtain ⟨m, rfl, m1, m2⟩ := hst rfl
      have ew2 : IntKind.wrap .i64 (lsn + (m : Int)) = lsn + (m : Int) := w64 (by omega) (by omega)
      repeat' ((fail_if_success with_reducible refine nph ?_); first | (with_reducible first | (refine d_seq ?_; intro K hK) | (refine hK _ _ ?_; clear hK K) | (refine SG.p ?_; try intro b)) | ((with_reducible refine SC.p ?_); refine And.intro ?_ ?_) <;> intro hc <;> try simp only [push_cast, Int.reduceEq, Int.reduceLT, Int.reduceLE, Int.reduceNe] at hc | with_reducible refine r_rq (by first | decide | omega) ?_ | ((with_reducible refine SL.p ?_); first | refine ⟨_, rfl, ?_⟩ | refine ⟨_, _, _, rfl, ?_⟩ | (refine ⟨?_, rfl, ?_⟩; focus (simp; done))) | ((with_reducible first | apply i_ldn | apply i_ldnq); exact rfl; exact rfl; exact rfl) | ((try with_reducible refine d_reg ?_); simp only [go_sem, Nat.reduceAdd, Nat.reduceEqDiff, Int.reduceToNat, Nat.reduceMul, Nat.reduceSub]) | clear hK K)
      all_goals try (first | contradiction | (simp only [ reduceCtorEq] at *; done) | (exfalso; omega))
      rw [ew2]
      refine i_ldn (e := e_api_Rec) (x := ⟨k1, k2, k3, k4, k5, k6, k7, k8, k9, k10, k11, k12, k13⟩) rfl rfl rfl ?_
      repeat' ((fail_if_success with_reducible refine nph ?_); first | (with_reducible first | (refine d_seq ?_; intro K hK) | (refine hK _ _ ?_; clear hK K) | (refine SG.p ?_; try intro b)) | ((with_reducible refine SC.p ?_); refine And.intro ?_ ?_) <;> intro hc <;> try simp only [push_cast, Int.reduceEq, Int.reduceLT, Int.reduceLE, Int.reduceNe] at hc | with_reducible refine r_rq (by first | decide | omega) ?_ | ((with_reducible refine SL.p ?_); first | refine ⟨_, rfl, ?_⟩ | refine ⟨_, _, _, rfl, ?_⟩ | (refine ⟨?_, rfl, ?_⟩; focus (simp; done))) | ((with_reducible first | apply i_ldn | apply i_ldnq); exact rfl; exact rfl; exact rfl) | ((try with_reducible refine d_reg ?_); simp only [go_sem, Nat.reduceAdd, Nat.reduceEqDiff, Int.reduceToNat, Nat.reduceMul, Nat.reduceSub]) | clear hK K)
      refine i_ldn (e := e_api_Rec) (x := ⟨k1, k2, k3, k4, k5, k6, k7, k8, k9, k10, k11, k12, k13⟩) rfl rfl rfl ?_
      exact i_done (e := eT3 e_api_Rec eI eI) (⟨k1, k2, k3, k4, k5, k6, k7, k8, k9, k10, k11, k12, k13⟩, lsn + (m : Int), 0) [A, lgp G sb] rfl ⟨A, rfl, (by rw [← hB]; exact hr), (by rw [← hB])⟩
    · rw [if_neg e2] at hB
      repeat' ((fail_if_success with_reducible refine nph ?_); first | (with_reducible first | (refine d_seq ?_; intro K hK) | (refine hK _ _ ?_; clear hK K) | (refine SG.p ?_; try intro b)) | ((with_reducible refine SC.p ?_); refine And.intro ?_ ?_) <;> intro hc <;> try simp only [push_cast, Int.reduceEq, Int.reduceLT, Int.reduceLE, Int.reduceNe] at hc | with_reducible refine r_rq (by first | decide | omega) ?_ | ((with_reducible refine SL.p ?_); first | refine ⟨_, rfl, ?_⟩ | refine ⟨_, _, _, rfl, ?_⟩ | (refine ⟨?_, rfl, ?_⟩; focus (simp; done))) | ((with_reducible first | apply i_ldn | apply i_ldnq); exact rfl; exact rfl; exact rfl) | ((try with_reducible refine d_reg ?_); simp only [go_sem, Nat.reduceAdd, Nat.reduceEqDiff, Int.reduceToNat, Nat.reduceMul, Nat.reduceSub]) | clear hK K)
      all_goals try (first | contradiction | (simp only [ reduceCtorEq] at *; done) | (exfalso; omega))
      (refine i_ldn (e := e_api_Rec) (x := ⟨0, 0, 0, 0, 0, [], [], [], 0, (none, 0, 0), (none, 0, 0), 0, 0⟩) rfl rfl rfl ?_); exact i_done (e := eT3 e_api_Rec eI eI) (⟨0, 0, 0, 0, 0, [], [], [], 0, (none, 0, 0), (none, 0, 0), 0, 0⟩, 0, e) [A, lgp G sb] rfl ⟨A, rfl, (by rw [← hB]; exact RcAt_z A 0), (by rw [← hB])⟩
def Lg.bound (G : Lg) (lsn : Int) : Bool := decide (1 ≤ lsn ∧ lsn ≤ (G.all.length : Int) + 1) && whole (G.all.take (lsn - 1).toNat) == (lsn - 1).toNat
theorem g32 (G : Lg) (sb : Nat) (hl : G.all.length ≤ 1000000) (lsn : Int) : Fp eB Tryz.prog 32 #[G.p, .int .i64 lsn] [lgp G sb] (G.bound lsn) := fun L => by
  unfold Lg.bound
  refine c32_fn rfl rfl ?_
  by_cases h1 : 1 ≤ lsn
  · by_cases h2 : lsn ≤ (G.all.length : Int) + 1
    · have hlt : (G.all.take (lsn - 1).toNat).length ≤ 1000000 := by rw [List.length_take]; omega
      have W := g69 (G.all.take (lsn - 1).toNat) (by omega)
      have ew : IntKind.wrap .i64 (lsn - 1) = lsn - 1 := w64 (by omega) (by omega)
      have es : ss G.all 0 (lsn - 1) = G.all.take (lsn - 1).toNat := by unfold ss; simp
      have h3 : decide (1 ≤ lsn ∧ lsn ≤ (G.all.length : Int) + 1) = true := decide_eq_true ⟨h1, h2⟩
      rw [h3]
      repeat' ((fail_if_success with_reducible refine nph ?_); first | (with_reducible first | (refine d_seq ?_; intro K hK) | (refine hK _ _ ?_; clear hK K) | (refine SG.p ?_; try intro b)) | ((with_reducible refine SC.p ?_); refine And.intro ?_ ?_) <;> intro hc <;> try simp only [push_cast, Int.reduceEq, Int.reduceLT, Int.reduceLE, Int.reduceNe] at hc | with_reducible refine r_rq (by first | decide | omega) ?_ | ((with_reducible refine SL.p ?_); first | refine ⟨_, rfl, ?_⟩ | refine ⟨_, _, _, rfl, ?_⟩ | (refine ⟨?_, rfl, ?_⟩; focus (simp; done))) | ((with_reducible first | apply i_ldn | apply i_ldnq); exact rfl; exact rfl; exact rfl) | ((try with_reducible refine d_reg ?_); simp only [go_sem, Nat.reduceAdd, Nat.reduceEqDiff, Int.reduceToNat, Nat.reduceMul, Nat.reduceSub]) | clear hK K)
      refine i_clp (g83 G sb) ?_
      repeat' ((fail_if_success with_reducible refine nph ?_); first | (with_reducible first | (refine d_seq ?_; intro K hK) | (refine hK _ _ ?_; clear hK K) | (refine SG.p ?_; try intro b)) | ((with_reducible refine SC.p ?_); refine And.intro ?_ ?_) <;> intro hc <;> try simp only [push_cast, Int.reduceEq, Int.reduceLT, Int.reduceLE, Int.reduceNe] at hc | with_reducible refine r_rq (by first | decide | omega) ?_ | ((with_reducible refine SL.p ?_); first | refine ⟨_, rfl, ?_⟩ | refine ⟨_, _, _, rfl, ?_⟩ | (refine ⟨?_, rfl, ?_⟩; focus (simp; done))) | ((with_reducible first | apply i_ldn | apply i_ldnq); exact rfl; exact rfl; exact rfl) | ((try with_reducible refine d_reg ?_); simp only [go_sem, Nat.reduceAdd, Nat.reduceEqDiff, Int.reduceToNat, Nat.reduceMul, Nat.reduceSub]) | clear hK K)
      all_goals try (exfalso; omega)
      all_goals try contradiction
      refine i_clp (g28 G sb hl) ?_
      repeat' (first | rw [ew] | rw [es] | (fail_if_success with_reducible refine nph ?_); first | (with_reducible first | (refine d_seq ?_; intro K hK) | (refine hK _ _ ?_; clear hK K) | (refine SG.p ?_; try intro b)) | ((with_reducible refine SC.p ?_); refine And.intro ?_ ?_) <;> intro hc <;> try simp only [push_cast, Int.reduceEq, Int.reduceLT, Int.reduceLE, Int.reduceNe] at hc | with_reducible refine r_rq (by first | decide | omega) ?_ | ((with_reducible refine SL.p ?_); first | refine ⟨_, rfl, ?_⟩ | refine ⟨_, _, _, rfl, ?_⟩ | (refine ⟨?_, rfl, ?_⟩; focus (simp; done))) | ((with_reducible first | apply i_ldn | apply i_ldnq); exact rfl; exact rfl; exact rfl) | ((try with_reducible refine d_reg ?_); simp only [go_sem, Nat.reduceAdd, Nat.reduceEqDiff, Int.reduceToNat, Nat.reduceMul, Nat.reduceSub]) | clear hK K)
      all_goals try (exfalso; omega)
      refine i_clp W ?_
      repeat' (first | rw [ew] | (fail_if_success with_reducible refine nph ?_); first | (with_reducible first | (refine d_seq ?_; intro K hK) | (refine hK _ _ ?_; clear hK K) | (refine SG.p ?_; try intro b)) | ((with_reducible refine SC.p ?_); refine And.intro ?_ ?_) <;> intro hc <;> try simp only [push_cast, Int.reduceEq, Int.reduceLT, Int.reduceLE, Int.reduceNe] at hc | with_reducible refine r_rq (by first | decide | omega) ?_ | ((with_reducible refine SL.p ?_); first | refine ⟨_, rfl, ?_⟩ | refine ⟨_, _, _, rfl, ?_⟩ | (refine ⟨?_, rfl, ?_⟩; focus (simp; done))) | ((with_reducible first | apply i_ldn | apply i_ldnq); exact rfl; exact rfl; exact rfl) | ((try with_reducible refine d_reg ?_); simp only [go_sem, Nat.reduceAdd, Nat.reduceEqDiff, Int.reduceToNat, Nat.reduceMul, Nat.reduceSub]) | clear hK K)
      (with_reducible first | apply i_ret0 | apply i_ret2 | apply i_ret3 | apply i_ret); exact rfl
      show ((whole (G.all.take (lsn - 1).toNat) : Int) == (lsn - 1)) = (true && (whole (G.all.take (lsn - 1).toNat) == (lsn - 1).toNat))
      rw [Bool.true_and, Bool.eq_iff_iff, beq_iff_eq, beq_iff_eq]
      omega
    · have h3 : decide (1 ≤ lsn ∧ lsn ≤ (G.all.length : Int) + 1) = false := decide_eq_false (by omega)
      rw [h3]
      repeat' ((fail_if_success with_reducible refine nph ?_); first | (with_reducible first | (refine d_seq ?_; intro K hK) | (refine hK _ _ ?_; clear hK K) | (refine SG.p ?_; try intro b)) | ((with_reducible refine SC.p ?_); refine And.intro ?_ ?_) <;> intro hc <;> try simp only [push_cast, Int.reduceEq, Int.reduceLT, Int.reduceLE, Int.reduceNe] at hc | with_reducible refine r_rq (by first | decide | omega) ?_ | ((with_reducible refine SL.p ?_); first | refine ⟨_, rfl, ?_⟩ | refine ⟨_, _, _, rfl, ?_⟩ | (refine ⟨?_, rfl, ?_⟩; focus (simp; done))) | ((with_reducible first | apply i_ldn | apply i_ldnq); exact rfl; exact rfl; exact rfl) | ((try with_reducible refine d_reg ?_); simp only [go_sem, Nat.reduceAdd, Nat.reduceEqDiff, Int.reduceToNat, Nat.reduceMul, Nat.reduceSub]) | clear hK K)
      refine i_clp (g83 G sb) ?_
      repeat' ((fail_if_success with_reducible refine nph ?_); first | (with_reducible first | (refine d_seq ?_; intro K hK) | (refine hK _ _ ?_; clear hK K) | (refine SG.p ?_; try intro b)) | ((with_reducible refine SC.p ?_); refine And.intro ?_ ?_) <;> intro hc <;> try simp only [push_cast, Int.reduceEq, Int.reduceLT, Int.reduceLE, Int.reduceNe] at hc | with_reducible refine r_rq (by first | decide | omega) ?_ | ((with_reducible refine SL.p ?_); first | refine ⟨_, rfl, ?_⟩ | refine ⟨_, _, _, rfl, ?_⟩ | (refine ⟨?_, rfl, ?_⟩; focus (simp; done))) | ((with_reducible first | apply i_ldn | apply i_ldnq); exact rfl; exact rfl; exact rfl) | ((try with_reducible refine d_reg ?_); simp only [go_sem, Nat.reduceAdd, Nat.reduceEqDiff, Int.reduceToNat, Nat.reduceMul, Nat.reduceSub]) | clear hK K)
      all_goals try (exfalso; omega)
      all_goals try contradiction
      refine i_clp (g28 G sb hl) ?_
      repeat' ((fail_if_success with_reducible refine nph ?_); first | (with_reducible first | (refine d_seq ?_; intro K hK) | (refine hK _ _ ?_; clear hK K) | (refine SG.p ?_; try intro b)) | ((with_reducible refine SC.p ?_); refine And.intro ?_ ?_) <;> intro hc <;> try simp only [push_cast, Int.reduceEq, Int.reduceLT, Int.reduceLE, Int.reduceNe] at hc | with_reducible refine r_rq (by first | decide | omega) ?_ | ((with_reducible refine SL.p ?_); first | refine ⟨_, rfl, ?_⟩ | refine ⟨_, _, _, rfl, ?_⟩ | (refine ⟨?_, rfl, ?_⟩; focus (simp; done))) | ((with_reducible first | apply i_ldn | apply i_ldnq); exact rfl; exact rfl; exact rfl) | ((try with_reducible refine d_reg ?_); simp only [go_sem, Nat.reduceAdd, Nat.reduceEqDiff, Int.reduceToNat, Nat.reduceMul, Nat.reduceSub]) | clear hK K)
      all_goals try (exfalso; omega)
      (with_reducible first | apply i_ret0 | apply i_ret2 | apply i_ret3 | apply i_ret); exact rfl
      rfl
  · have h3 : decide (1 ≤ lsn ∧ lsn ≤ (G.all.length : Int) + 1) = false := decide_eq_false (by omega)
    rw [h3]
    repeat' ((fail_if_success with_reducible refine nph ?_); first | (with_reducible first | (refine d_seq ?_; intro K hK) | (refine hK _ _ ?_; clear hK K) | (refine SG.p ?_; try intro b)) | ((with_reducible refine SC.p ?_); refine And.intro ?_ ?_) <;> intro hc <;> try simp only [push_cast, Int.reduceEq, Int.reduceLT, Int.reduceLE, Int.reduceNe] at hc | with_reducible refine r_rq (by first | decide | omega) ?_ | ((with_reducible refine SL.p ?_); first | refine ⟨_, rfl, ?_⟩ | refine ⟨_, _, _, rfl, ?_⟩ | (refine ⟨?_, rfl, ?_⟩; focus (simp; done))) | ((with_reducible first | apply i_ldn | apply i_ldnq); exact rfl; exact rfl; exact rfl) | ((try with_reducible refine d_reg ?_); simp only [go_sem, Nat.reduceAdd, Nat.reduceEqDiff, Int.reduceToNat, Nat.reduceMul, Nat.reduceSub]) | clear hK K)
    refine i_clp (g83 G sb) ?_
    repeat' ((fail_if_success with_reducible refine nph ?_); first | (with_reducible first | (refine d_seq ?_; intro K hK) | (refine hK _ _ ?_; clear hK K) | (refine SG.p ?_; try intro b)) | ((with_reducible refine SC.p ?_); refine And.intro ?_ ?_) <;> intro hc <;> try simp only [push_cast, Int.reduceEq, Int.reduceLT, Int.reduceLE, Int.reduceNe] at hc | with_reducible refine r_rq (by first | decide | omega) ?_ | ((with_reducible refine SL.p ?_); first | refine ⟨_, rfl, ?_⟩ | refine ⟨_, _, _, rfl, ?_⟩ | (refine ⟨?_, rfl, ?_⟩; focus (simp; done))) | ((with_reducible first | apply i_ldn | apply i_ldnq); exact rfl; exact rfl; exact rfl) | ((try with_reducible refine d_reg ?_); simp only [go_sem, Nat.reduceAdd, Nat.reduceEqDiff, Int.reduceToNat, Nat.reduceMul, Nat.reduceSub]) | clear hK K)
    all_goals try (exfalso; omega)
    all_goals try contradiction
    (with_reducible first | apply i_ret0 | apply i_ret2 | apply i_ret3 | apply i_ret); exact rfl
    rfl
end Go.Sp
/- The log: Cut. -/
namespace Go.Sp
open Go Go.Proofs
set_option linter.unusedSimpArgs false
set_option linter.unusedVariables false
set_option maxRecDepth 10000
end Go.Sp
/- The log: Records. -/
namespace Go.Sp
open Go Go.Proofs
set_option linter.unusedSimpArgs false
set_option linter.unusedVariables false
set_option maxRecDepth 10000
/-- The records from a place on, and where each stands. -/
def rcs (s : List UInt8) : Nat → Nat → List (Nat × Rc)
  | 0, _ => []
  | k + 1, a => if a < s.length then (if (opn s (a : Int)).2.2 = 0 then (a + 1, (opn s (a : Int)).1) :: rcs s k (a + (opn s (a : Int)).2.1.toNat) else []) else []
def recs (s : List UInt8) : List (Nat × Rc) := rcs s (s.length + 1) 0
theorem Rs.wide {A B : HP} {s : SlV} {sz : Nat} {cs : List Value} (h : Rs A s sz cs) (w : ∀ x, B x → ∃ a, sub a x ∧ A a) : Rs B s sz cs :=
  ⟨h.1, h.2.1, fun a ha x hx j v hj => by
    obtain ⟨y, hy, hA⟩ := w x hx
    exact pc_sub hy (h.2.2 a ha y hA j v hj)⟩
theorem RcAt.wide {A B : HP} {r : api_Rec} {c : Rc} (h : RcAt A r c) (w : ∀ x, B x → ∃ a, sub a x ∧ A a) : RcAt B r c := ⟨h.e, h.i.wide w, h.t.wide w, h.li, h.lt⟩
theorem two1 {A S : HP} : ∀ x, HS [A, S] x → ∃ a, sub a x ∧ A a := fun x ⟨a, b, d, sa, sb, pa, pb⟩ => ⟨a, sa, pa⟩
theorem two2 {A S : HP} : ∀ x, HS [A, S] x → ∃ a, sub a x ∧ S a := fun x ⟨a, b, d, sa, sb, pa, ⟨c, e, d2, sc, se, pc, pe⟩⟩ => ⟨c, sc.trans sb, pc⟩
/-- The records are those. -/
structure RL (S : HP) (rs : List api_Rec) (cs : List Rc) : Prop where
  n : rs.length = cs.length
  g : ∀ (i : Nat) (r : api_Rec) (c : Rc), rs[i]? = some r → cs[i]? = some c → RcAt S r c
theorem RL.snoc {A S : HP} {rs : List api_Rec} {cs : List Rc} {r : api_Rec} {c : Rc} (h : RL S rs cs) (hr : RcAt A r c) : RL (HS [A, S]) (rs ++ [r]) (cs ++ [c]) := by
  refine ⟨by rw [List.length_append, List.length_append, h.n]; rfl, fun i r' c' h1 h2 => ?_⟩
  rcases Nat.lt_or_ge i rs.length with hi | hi
  · rw [List.getElem?_append_left hi] at h1
    rw [List.getElem?_append_left (by rw [← h.n]; exact hi)] at h2
    exact (h.g i r' c' h1 h2).wide two2
  · rw [List.getElem?_append_right hi] at h1
    rw [List.getElem?_append_right (by rw [← h.n]; exact hi)] at h2
    have e : i - rs.length = 0 := by
      rcases Nat.eq_zero_or_pos (i - rs.length) with h0 | h0
      · exact h0
      · rw [List.getElem?_eq_none (by simp; omega)] at h1; cases h1
    rw [e] at h1
    rw [← h.n, e] at h2
    simp only [List.getElem?_cons_zero, Option.some.injEq] at h1 h2
    subst h1 h2
    exact hr.wide two1
set_option maxHeartbeats 2000000 in
theorem g25 (G : Lg) (sb : Nat) (hl : G.all.length ≤ 1000000) : Fn (eT2 eSl eSl) Tryz.prog 25 #[G.p] [lgp G sb] fun y X => ∃ (S : HP) (rs : List api_Rec), X = [ow 36 13 y.1 (rs.flatMap rcl), ow 3 1 y.2 ((recs G.all).map fun x => .int .i64 (x.1 : Int)), S, lgp G sb] ∧ RL S rs ((recs G.all).map (·.2)) := fun L => by
  refine c25_fn rfl rfl ?_
  generalize hB : recs G.all = B
  repeat' ((fail_if_success with_reducible refine nph ?_); first | (with_reducible first | (refine d_seq ?_; intro K hK) | (refine hK _ _ ?_; clear hK K) | (refine SG.p ?_; try intro b)) | ((with_reducible refine SC.p ?_); refine And.intro ?_ ?_) <;> intro hc <;> try simp only [push_cast, Int.reduceEq, Int.reduceLT, Int.reduceLE, Int.reduceNe] at hc | with_reducible refine r_rq (by first | decide | omega) ?_ | ((with_reducible refine SL.p ?_); first | refine ⟨_, rfl, ?_⟩ | refine ⟨_, _, _, rfl, ?_⟩ | (refine ⟨?_, rfl, ?_⟩; focus (simp; done))) | ((with_reducible first | apply i_ldn | apply i_ldnq); exact rfl; exact rfl; exact rfl) | ((try with_reducible refine d_reg ?_); simp only [go_sem, Nat.reduceAdd, Nat.reduceEqDiff, Int.reduceToNat, Nat.reduceMul, Nat.reduceSub]) | clear hK K)
  refine i_clp (g83 G sb) ?_
  repeat' ((fail_if_success with_reducible refine nph ?_); first | (with_reducible first | (refine d_seq ?_; intro K hK) | (refine hK _ _ ?_; clear hK K) | (refine SG.p ?_; try intro b)) | ((with_reducible refine SC.p ?_); refine And.intro ?_ ?_) <;> intro hc <;> try simp only [push_cast, Int.reduceEq, Int.reduceLT, Int.reduceLE, Int.reduceNe] at hc | with_reducible refine r_rq (by first | decide | omega) ?_ | ((with_reducible refine SL.p ?_); first | refine ⟨_, rfl, ?_⟩ | refine ⟨_, _, _, rfl, ?_⟩ | (refine ⟨?_, rfl, ?_⟩; focus (simp; done))) | ((with_reducible first | apply i_ldn | apply i_ldnq); exact rfl; exact rfl; exact rfl) | ((try with_reducible refine d_reg ?_); simp only [go_sem, Nat.reduceAdd, Nat.reduceEqDiff, Int.reduceToNat, Nat.reduceMul, Nat.reduceSub]) | clear hK K)
  all_goals try contradiction
  refine r_nilow 36 13 ?_
  refine r_nilow 3 1 ?_
  refine r_nilow 123 2 ?_
  obtain ⟨S0, hS0⟩ : ∃ S, S = ow 123 2 (none, 0, 0) [] := ⟨_, rfl⟩
  rw [← hS0]
  clear hS0
  refine d_lp [0, 4, 5, 6] (fun t : Nat × Nat × SlV × SlV × HP × List api_Rec × List (Nat × Rc) => [(0, .pointer (some ⟨G.q, 0, none⟩)), (4, .slice t.2.2.1.1 t.2.2.1.2.1 t.2.2.1.2.2), (5, .slice t.2.2.2.1.1 t.2.2.2.1.2.1 t.2.2.2.1.2.2), (6, .int .i64 ((t.2.1 + 1 : Nat) : Int))])
    (fun t => ow 36 13 t.2.2.1 (t.2.2.2.2.2.1.flatMap rcl) :: ow 3 1 t.2.2.2.1 (t.2.2.2.2.2.2.map fun x => .int .i64 (x.1 : Int)) :: t.2.2.2.2.1 :: lgp G sb :: L)
    (fun t => t.2.1 ≤ G.all.length ∧ t.2.2.2.2.2.2 ++ rcs G.all t.1 t.2.1 = B ∧ RL t.2.2.2.2.1 t.2.2.2.2.2.1 (t.2.2.2.2.2.2.map (·.2)) ∧ t.2.2.1.2.1 ≤ t.2.1 ∧ t.2.2.2.1.2.1 ≤ t.2.1 ∧ G.all.length + 1 ≤ t.1 + t.2.1) (fun t => t.1)
    (G.all.length + 1, 0, (none, 0, 0), (none, 0, 0), S0, [], []) rfl ?_ ⟨by dsimp only; omega, hB, ⟨rfl, fun i r c h => by simp at h⟩, by dsimp only; omega, by dsimp only; omega, by dsimp only; omega⟩ ?_
  · show Sub (ow 36 13 (none, 0, 0) [] :: ow 3 1 (none, 0, 0) [] :: S0 :: lgp G sb :: L) _
    exact SX.p
  rintro ⟨k, a, ⟨p, pn, pc⟩, ⟨q, qn, qc⟩, S, rs, done⟩ ⟨h1, h2, h3, h4, h5, h6⟩
  dsimp only at h1 h2 h3 h4 h5 h6 ⊢
  repeat' ((fail_if_success with_reducible refine nph ?_); first | (with_reducible first | (refine d_seq ?_; intro K hK) | (refine hK _ _ ?_; clear hK K) | (refine SG.p ?_; try intro b)) | ((with_reducible refine SC.p ?_); refine And.intro ?_ ?_) <;> intro hc <;> try simp only [push_cast, Int.reduceEq, Int.reduceLT, Int.reduceLE, Int.reduceNe] at hc | with_reducible refine r_rq (by first | decide | omega) ?_ | ((with_reducible refine SL.p ?_); first | refine ⟨_, rfl, ?_⟩ | refine ⟨_, _, _, rfl, ?_⟩ | (refine ⟨?_, rfl, ?_⟩; focus (simp; done))) | ((with_reducible first | apply i_ldn | apply i_ldnq); exact rfl; exact rfl; exact rfl) | ((try with_reducible refine d_reg ?_); simp only [go_sem, Nat.reduceAdd, Nat.reduceEqDiff, Int.reduceToNat, Nat.reduceMul, Nat.reduceSub]) | clear hK K)
  · have hlt : a < G.all.length := by omega
    obtain ⟨k', rfl⟩ : ∃ k', k = k' + 1 := ⟨k - 1, by omega⟩
    rw [show rcs G.all (k' + 1) a = if a < G.all.length then (if (opn G.all (a : Int)).2.2 = 0 then (a + 1, (opn G.all (a : Int)).1) :: rcs G.all k' (a + (opn G.all (a : Int)).2.1.toNat) else []) else [] from rfl, if_pos hlt] at h2
    have R := g35 G sb hl ((a + 1 : Nat) : Int)
    unfold Lg.read at R
    have ea : ((a + 1 : Nat) : Int) - 1 = (a : Int) := by omega
    rw [if_neg (by omega), ea] at R
    have hst := opn_step (s := G.all) (a := a) (by omega)
    generalize opn G.all (a : Int) = o at *
    obtain ⟨c, n, e⟩ := o
    dsimp only at h2 R hst
    by_cases he : e = 0
    · subst he
      obtain ⟨m, rfl, m1, m2⟩ := hst rfl
      rw [if_pos rfl] at R h2
      rw [Int.toNat_natCast] at h2
      dsimp only at R
      refine i_cal R ?_
      rintro ⟨⟨k1, k2, k3, k4, k5, k6, k7, k8, k9, k10, k11, k12, k13⟩, y⟩ X ⟨A, rfl, hr, hy⟩
      dsimp only at hr hy
      subst hy
      repeat' ((fail_if_success with_reducible refine nph ?_); first | (with_reducible first | (refine d_seq ?_; intro K hK) | (refine hK _ _ ?_; clear hK K) | (refine SG.p ?_; try intro b)) | ((with_reducible refine SC.p ?_); refine And.intro ?_ ?_) <;> intro hc <;> try simp only [push_cast, Int.reduceEq, Int.reduceLT, Int.reduceLE, Int.reduceNe] at hc | with_reducible refine r_rq (by first | decide | omega) ?_ | ((with_reducible refine SL.p ?_); first | refine ⟨_, rfl, ?_⟩ | refine ⟨_, _, _, rfl, ?_⟩ | (refine ⟨?_, rfl, ?_⟩; focus (simp; done))) | ((with_reducible first | apply i_ldn | apply i_ldnq); exact rfl; exact rfl; exact rfl) | ((try with_reducible refine d_reg ?_); simp only [go_sem, Nat.reduceAdd, Nat.reduceEqDiff, Int.reduceToNat, Nat.reduceMul, Nat.reduceSub]) | clear hK K)
      all_goals try (first | contradiction | (simp only [ reduceCtorEq] at *; done) | (exfalso; omega))
      refine i_ldn (e := e_api_Rec) (x := ⟨k1, k2, k3, k4, k5, k6, k7, k8, k9, k10, k11, k12, k13⟩) rfl rfl rfl ?_
      repeat' ((fail_if_success with_reducible refine nph ?_); first | (with_reducible first | (refine d_seq ?_; intro K hK) | (refine hK _ _ ?_; clear hK K) | (refine SG.p ?_; try intro b)) | ((with_reducible refine SC.p ?_); refine And.intro ?_ ?_) <;> intro hc <;> try simp only [push_cast, Int.reduceEq, Int.reduceLT, Int.reduceLE, Int.reduceNe] at hc | with_reducible refine r_rq (by first | decide | omega) ?_ | ((with_reducible refine SL.p ?_); first | refine ⟨_, rfl, ?_⟩ | refine ⟨_, _, _, rfl, ?_⟩ | (refine ⟨?_, rfl, ?_⟩; focus (simp; done))) | ((with_reducible first | apply i_ldn | apply i_ldnq); exact rfl; exact rfl; exact rfl) | ((try with_reducible refine d_reg ?_); simp only [go_sem, Nat.reduceAdd, Nat.reduceEqDiff, Int.reduceToNat, Nat.reduceMul, Nat.reduceSub]) | clear hK K)
      refine i_app (t := 36) (sz := 13) (m := 1) (news := rcl ⟨k1, k2, k3, k4, k5, k6, k7, k8, k9, k10, k11, k12, k13⟩) (p, pn, pc) 160 (by kernel_rfl) (by decide) rfl rfl (by dsimp only; omega) fun o' ho' _ => ?_
      have e1 : rs.flatMap rcl ++ rcl ⟨k1, k2, k3, k4, k5, k6, k7, k8, k9, k10, k11, k12, k13⟩ = (rs ++ [(⟨k1, k2, k3, k4, k5, k6, k7, k8, k9, k10, k11, k12, k13⟩ : api_Rec)]).flatMap rcl := by rw [List.flatMap_append]; simp
      rw [e1]
      repeat' ((fail_if_success with_reducible refine nph ?_); first | (with_reducible first | (refine d_seq ?_; intro K hK) | (refine hK _ _ ?_; clear hK K) | (refine SG.p ?_; try intro b)) | ((with_reducible refine SC.p ?_); refine And.intro ?_ ?_) <;> intro hc <;> try simp only [push_cast, Int.reduceEq, Int.reduceLT, Int.reduceLE, Int.reduceNe] at hc | with_reducible refine r_rq (by first | decide | omega) ?_ | ((with_reducible refine SL.p ?_); first | refine ⟨_, rfl, ?_⟩ | refine ⟨_, _, _, rfl, ?_⟩ | (refine ⟨?_, rfl, ?_⟩; focus (simp; done))) | ((with_reducible first | apply i_ldn | apply i_ldnq); exact rfl; exact rfl; exact rfl) | ((try with_reducible refine d_reg ?_); simp only [go_sem, Nat.reduceAdd, Nat.reduceEqDiff, Int.reduceToNat, Nat.reduceMul, Nat.reduceSub]) | clear hK K)
      refine i_app (t := 3) (sz := 1) (m := 1) (news := [.int .i64 ((a + 1 : Nat) : Int)]) (q, qn, qc) 8 (by kernel_rfl) (by decide) rfl rfl (by dsimp only; omega) fun o2 ho2 _ => ?_
      have e2 : (done.map fun x => Value.int .i64 (x.1 : Int)) ++ [.int .i64 ((a + 1 : Nat) : Int)] = (done ++ [(a + 1, c)]).map fun x => .int .i64 (x.1 : Int) := by simp
      rw [e2]
      repeat' ((fail_if_success with_reducible refine nph ?_); first | (with_reducible first | (refine d_seq ?_; intro K hK) | (refine hK _ _ ?_; clear hK K) | (refine SG.p ?_; try intro b)) | ((with_reducible refine SC.p ?_); refine And.intro ?_ ?_) <;> intro hc <;> try simp only [push_cast, Int.reduceEq, Int.reduceLT, Int.reduceLE, Int.reduceNe] at hc | with_reducible refine r_rq (by first | decide | omega) ?_ | ((with_reducible refine SL.p ?_); first | refine ⟨_, rfl, ?_⟩ | refine ⟨_, _, _, rfl, ?_⟩ | (refine ⟨?_, rfl, ?_⟩; focus (simp; done))) | ((with_reducible first | apply i_ldn | apply i_ldnq); exact rfl; exact rfl; exact rfl) | ((try with_reducible refine d_reg ?_); simp only [go_sem, Nat.reduceAdd, Nat.reduceEqDiff, Int.reduceToNat, Nat.reduceMul, Nat.reduceSub]) | clear hK K)
      have e3 : ((a + 1 : Nat) : Int) + (m : Int) = ((a + m + 1 : Nat) : Int) := by omega
      rw [e3]
      refine E.sub (L' := [A, S] ++ (ow 36 13 o' ((rs ++ [(⟨k1, k2, k3, k4, k5, k6, k7, k8, k9, k10, k11, k12, k13⟩ : api_Rec)]).flatMap rcl) :: ow 3 1 o2 ((done ++ [(a + 1, c)]).map fun x => .int .i64 (x.1 : Int)) :: lgp G sb :: L)) SX.p ?_
      refine E.close ?_
      exact i_bk (k', a + m, o', o2, HS [A, S], rs ++ [⟨k1, k2, k3, k4, k5, k6, k7, k8, k9, k10, k11, k12, k13⟩], done ++ [(a + 1, c)]) rfl ⟨by dsimp only; omega, by dsimp only; rw [List.append_assoc]; exact h2, by dsimp only; rw [List.map_append]; exact h3.snoc hr, by dsimp only at ho' ⊢; omega, by dsimp only at ho2 ⊢; omega, by dsimp only; omega⟩ (by dsimp only; omega)
    · rw [if_neg he] at R h2
      rw [List.append_nil] at h2
      subst h2
      dsimp only at R
      refine i_cal R ?_
      rintro ⟨⟨k1, k2, k3, k4, k5, k6, k7, k8, k9, k10, k11, k12, k13⟩, y⟩ X ⟨A, rfl, hr, hy⟩
      dsimp only at hr hy
      subst hy
      repeat' ((fail_if_success with_reducible refine nph ?_); first | (with_reducible first | (refine d_seq ?_; intro K hK) | (refine hK _ _ ?_; clear hK K) | (refine SG.p ?_; try intro b)) | ((with_reducible refine SC.p ?_); refine And.intro ?_ ?_) <;> intro hc <;> try simp only [push_cast, Int.reduceEq, Int.reduceLT, Int.reduceLE, Int.reduceNe] at hc | with_reducible refine r_rq (by first | decide | omega) ?_ | ((with_reducible refine SL.p ?_); first | refine ⟨_, rfl, ?_⟩ | refine ⟨_, _, _, rfl, ?_⟩ | (refine ⟨?_, rfl, ?_⟩; focus (simp; done))) | ((with_reducible first | apply i_ldn | apply i_ldnq); exact rfl; exact rfl; exact rfl) | ((try with_reducible refine d_reg ?_); simp only [go_sem, Nat.reduceAdd, Nat.reduceEqDiff, Int.reduceToNat, Nat.reduceMul, Nat.reduceSub]) | clear hK K)
      all_goals try (first | contradiction | (simp only [ reduceCtorEq] at *; done) | (exfalso; omega))
      exact i_done (e := eT2 eSl eSl) ((p, pn, pc), (q, qn, qc)) [ow 36 13 (p, pn, pc) (rs.flatMap rcl), ow 3 1 (q, qn, qc) (done.map fun x => .int .i64 (x.1 : Int)), S, lgp G sb] rfl ⟨S, rs, rfl, h3⟩
  · have e : rcs G.all k a = [] := by
      cases k with
      | zero => rfl
      | succ k => unfold rcs; rw [if_neg (by omega)]
    rw [e, List.append_nil] at h2
    subst h2
    exact i_done (e := eT2 eSl eSl) ((p, pn, pc), (q, qn, qc)) [ow 36 13 (p, pn, pc) (rs.flatMap rcl), ow 3 1 (q, qn, qc) (done.map fun x => .int .i64 (x.1 : Int)), S, lgp G sb] rfl ⟨S, rs, rfl, h3⟩
end Go.Sp
/- The log: From. -/
namespace Go.Sp
open Go Go.Proofs
set_option linter.unusedSimpArgs false
set_option linter.unusedVariables false
set_option maxRecDepth 10000
def frl (s : List UInt8) (most : Int) : Nat → Nat → List UInt8 × Int
  | 0, a => (s.take a, 0)
  | k + 1, a => if (opn s (a : Int)).2.2 = 0 then (if 0 < a ∧ most - (a : Int) < (opn s (a : Int)).2.1 then (s.take a, 0) else frl s most k (a + (opn s (a : Int)).2.1.toNat))
    else if a = 0 ∧ 0 < s.length then ([], 4) else (s.take a, 0)
def Lg.from (G : Lg) (lsn most : Int) : List UInt8 × Int :=
  if lsn < 1 ∨ (G.durable : Int) + 1 < lsn then ([], 6) else
  (fun s : List UInt8 => frl s (if most < 0 then 0 else most) (s.length + 1) 0) ((G.all.take G.durable).drop (lsn - 1).toNat)
set_option maxHeartbeats 1000000 in
theorem g39 (G : Lg) (sb : Nat) (hl : G.all.length ≤ 1000000) (hdu : G.durable ≤ G.all.length) (lsn most : Int) (hm : wf64 most) : Fp (eT2 eS eI) Tryz.prog 39 #[G.p, .int .i64 lsn, .int .i64 most] [lgp G sb] (G.from lsn most) := fun L => by
  unfold wf64 at hm
  refine c39_fn rfl rfl ?_
  generalize hB : G.from lsn most = B
  unfold Lg.from at hB
  have ed : IntKind.wrap .i64 ((G.durable : Int) + 1) = (G.durable : Int) + 1 := w64 (by omega) (by omega)
  by_cases h1 : lsn < 1 ∨ (G.durable : Int) + 1 < lsn
  · rw [if_pos h1] at hB
    subst hB
    repeat' ((fail_if_success with_reducible refine nph ?_); first | (with_reducible first | (refine d_seq ?_; intro K hK) | (refine hK _ _ ?_; clear hK K) | (refine SG.p ?_; try intro b)) | ((with_reducible refine SC.p ?_); refine And.intro ?_ ?_) <;> intro hc <;> try simp only [push_cast, Int.reduceEq, Int.reduceLT, Int.reduceLE, Int.reduceNe] at hc | with_reducible refine r_rq (by first | decide | omega) ?_ | ((with_reducible refine SL.p ?_); first | refine ⟨_, rfl, ?_⟩ | refine ⟨_, _, _, rfl, ?_⟩ | (refine ⟨?_, rfl, ?_⟩; focus (simp; done))) | ((with_reducible first | apply i_ldn | apply i_ldnq); exact rfl; exact rfl; exact rfl) | ((try with_reducible refine d_reg ?_); simp only [go_sem, Nat.reduceAdd, Nat.reduceEqDiff, Int.reduceToNat, Nat.reduceMul, Nat.reduceSub]) | clear hK K)
    refine i_clp (g83 G sb) ?_
    repeat' (first | rw [ed] | (fail_if_success with_reducible refine nph ?_); first | (with_reducible first | (refine d_seq ?_; intro K hK) | (refine hK _ _ ?_; clear hK K) | (refine SG.p ?_; try intro b)) | ((with_reducible refine SC.p ?_); refine And.intro ?_ ?_) <;> intro hc <;> try simp only [push_cast, Int.reduceEq, Int.reduceLT, Int.reduceLE, Int.reduceNe] at hc | with_reducible refine r_rq (by first | decide | omega) ?_ | ((with_reducible refine SL.p ?_); first | refine ⟨_, rfl, ?_⟩ | refine ⟨_, _, _, rfl, ?_⟩ | (refine ⟨?_, rfl, ?_⟩; focus (simp; done))) | ((with_reducible first | apply i_ldn | apply i_ldnq); exact rfl; exact rfl; exact rfl) | ((try with_reducible refine d_reg ?_); simp only [go_sem, Nat.reduceAdd, Nat.reduceEqDiff, Int.reduceToNat, Nat.reduceMul, Nat.reduceSub]) | clear hK K)
    all_goals try (exfalso; omega)
    all_goals try contradiction
    all_goals ((with_reducible first | apply i_ret0 | apply i_ret2 | apply i_ret3 | apply i_ret); exact rfl; rfl)
  · rw [if_neg h1] at hB
    have ew : IntKind.wrap .i64 (lsn - 1) = lsn - 1 := w64 (by omega) (by omega)
    have es : ss G.all (lsn - 1) (G.durable : Int) = (G.all.take G.durable).drop (lsn - 1).toNat := by
      unfold ss
      rw [Int.toNat_natCast]
    have hsl : ((G.all.take G.durable).drop (lsn - 1).toNat).length ≤ 1000000 := by rw [List.length_drop, List.length_take]; omega
    dsimp only at hB
    repeat' ((fail_if_success with_reducible refine nph ?_); first | (with_reducible first | (refine d_seq ?_; intro K hK) | (refine hK _ _ ?_; clear hK K) | (refine SG.p ?_; try intro b)) | ((with_reducible refine SC.p ?_); refine And.intro ?_ ?_) <;> intro hc <;> try simp only [push_cast, Int.reduceEq, Int.reduceLT, Int.reduceLE, Int.reduceNe] at hc | with_reducible refine r_rq (by first | decide | omega) ?_ | ((with_reducible refine SL.p ?_); first | refine ⟨_, rfl, ?_⟩ | refine ⟨_, _, _, rfl, ?_⟩ | (refine ⟨?_, rfl, ?_⟩; focus (simp; done))) | ((with_reducible first | apply i_ldn | apply i_ldnq); exact rfl; exact rfl; exact rfl) | ((try with_reducible refine d_reg ?_); simp only [go_sem, Nat.reduceAdd, Nat.reduceEqDiff, Int.reduceToNat, Nat.reduceMul, Nat.reduceSub]) | clear hK K)
    refine i_clp (g83 G sb) ?_
    repeat' (first | rw [ed] | (fail_if_success with_reducible refine nph ?_); first | (with_reducible first | (refine d_seq ?_; intro K hK) | (refine hK _ _ ?_; clear hK K) | (refine SG.p ?_; try intro b)) | ((with_reducible refine SC.p ?_); refine And.intro ?_ ?_) <;> intro hc <;> try simp only [push_cast, Int.reduceEq, Int.reduceLT, Int.reduceLE, Int.reduceNe] at hc | with_reducible refine r_rq (by first | decide | omega) ?_ | ((with_reducible refine SL.p ?_); first | refine ⟨_, rfl, ?_⟩ | refine ⟨_, _, _, rfl, ?_⟩ | (refine ⟨?_, rfl, ?_⟩; focus (simp; done))) | ((with_reducible first | apply i_ldn | apply i_ldnq); exact rfl; exact rfl; exact rfl) | ((try with_reducible refine d_reg ?_); simp only [go_sem, Nat.reduceAdd, Nat.reduceEqDiff, Int.reduceToNat, Nat.reduceMul, Nat.reduceSub]) | clear hK K)
    all_goals try (exfalso; omega)
    all_goals try contradiction
    refine r_ph0 ?_
    repeat' (first | rw [ew] | rw [es] | (fail_if_success with_reducible refine nph ?_); first | (with_reducible first | (refine d_seq ?_; intro K hK) | (refine hK _ _ ?_; clear hK K) | (refine SG.p ?_; try intro b)) | ((with_reducible refine SC.p ?_); refine And.intro ?_ ?_) <;> intro hc <;> try simp only [push_cast, Int.reduceEq, Int.reduceLT, Int.reduceLE, Int.reduceNe] at hc | with_reducible refine r_rq (by first | decide | omega) ?_ | ((with_reducible refine SL.p ?_); first | refine ⟨_, rfl, ?_⟩ | refine ⟨_, _, _, rfl, ?_⟩ | (refine ⟨?_, rfl, ?_⟩; focus (simp; done))) | ((with_reducible first | apply i_ldn | apply i_ldnq); exact rfl; exact rfl; exact rfl) | ((try with_reducible refine d_reg ?_); simp only [go_sem, Nat.reduceAdd, Nat.reduceEqDiff, Int.reduceToNat, Nat.reduceMul, Nat.reduceSub]) | clear hK K)
    generalize (G.all.take G.durable).drop (lsn - 1).toNat = s at *
    generalize hmm : (if most < 0 then (0 : Int) else most) = mo at *
    have hmo : 0 ≤ mo ∧ mo ≤ 9223372036854775807 := by rw [← hmm]; split <;> omega
    refine d_lp [2, 8, 9] (fun t : Nat × Nat => [(2, .int .i64 mo), (8, str s), (9, .int .i64 (t.2 : Int))]) (fun _ => lgp G sb :: L) (fun t => t.2 ≤ s.length ∧ frl s mo t.1 t.2 = B ∧ s.length + 1 ≤ t.1 + t.2) (fun t => t.1) (s.length + 1, 0) rfl SX.p ⟨by dsimp only; omega, hB, by dsimp only; omega⟩ ?_
    rintro ⟨k, a⟩ ⟨q1, q2, q3⟩
    dsimp only at q1 q2 q3 ⊢
    obtain ⟨k', rfl⟩ : ∃ k', k = k' + 1 := ⟨k - 1, by omega⟩
    rw [show frl s mo (k' + 1) a = if (opn s (a : Int)).2.2 = 0 then (if 0 < a ∧ mo - (a : Int) < (opn s (a : Int)).2.1 then (s.take a, 0) else frl s mo k' (a + (opn s (a : Int)).2.1.toNat)) else if a = 0 ∧ 0 < s.length then ([], 4) else (s.take a, 0) from rfl] at q2
    have O := g26 s (a : Int) (by omega)
    have S := opn_step q1
    have et : ss s 0 (a : Int) = s.take a := by unfold ss; simp
    have ew2 : IntKind.wrap .i64 (mo - (a : Int)) = mo - (a : Int) := w64 (by omega) (by omega)
    generalize opn s (a : Int) = o at *
    obtain ⟨c, n, e⟩ := o
    dsimp only at q2 O S
    repeat' ((fail_if_success with_reducible refine nph ?_); first | (with_reducible first | (refine d_seq ?_; intro K hK) | (refine hK _ _ ?_; clear hK K) | (refine SG.p ?_; try intro b)) | ((with_reducible refine SC.p ?_); refine And.intro ?_ ?_) <;> intro hc <;> try simp only [push_cast, Int.reduceEq, Int.reduceLT, Int.reduceLE, Int.reduceNe] at hc | with_reducible refine r_rq (by first | decide | omega) ?_ | ((with_reducible refine SL.p ?_); first | refine ⟨_, rfl, ?_⟩ | refine ⟨_, _, _, rfl, ?_⟩ | (refine ⟨?_, rfl, ?_⟩; focus (simp; done))) | ((with_reducible first | apply i_ldn | apply i_ldnq); exact rfl; exact rfl; exact rfl) | ((try with_reducible refine d_reg ?_); simp only [go_sem, Nat.reduceAdd, Nat.reduceEqDiff, Int.reduceToNat, Nat.reduceMul, Nat.reduceSub]) | clear hK K)
    refine i_cal O ?_
    rintro ⟨⟨k1, k2, k3, k4, k5, k6, k7, k8, k9, k10, k11, k12, k13⟩, y⟩ X ⟨A, rfl, hr, he⟩
    dsimp only at he
    subst he
    by_cases h0 : e = 0
    · subst h0
      obtain ⟨m, rfl, m1, m2⟩ := S rfl
      rw [if_pos rfl, Int.toNat_natCast] at q2
      have ew3 : IntKind.wrap .i64 ((a : Int) + (m : Int)) = ((a + m : Nat) : Int) := by rw [w64 (by omega) (by omega)]; omega
      by_cases hx : 0 < a ∧ mo - (a : Int) < (m : Int)
      · rw [if_pos hx] at q2
        repeat' (first | rw [ew2] | rw [et] | (fail_if_success with_reducible refine nph ?_); first | (with_reducible first | (refine d_seq ?_; intro K hK) | (refine hK _ _ ?_; clear hK K) | (refine SG.p ?_; try intro b)) | ((with_reducible refine SC.p ?_); refine And.intro ?_ ?_) <;> intro hc <;> try simp only [push_cast, Int.reduceEq, Int.reduceLT, Int.reduceLE, Int.reduceNe] at hc | with_reducible refine r_rq (by first | decide | omega) ?_ | ((with_reducible refine SL.p ?_); first | refine ⟨_, rfl, ?_⟩ | refine ⟨_, _, _, rfl, ?_⟩ | (refine ⟨?_, rfl, ?_⟩; focus (simp; done))) | ((with_reducible first | apply i_ldn | apply i_ldnq); exact rfl; exact rfl; exact rfl) | ((try with_reducible refine d_reg ?_); simp only [go_sem, Nat.reduceAdd, Nat.reduceEqDiff, Int.reduceToNat, Nat.reduceMul, Nat.reduceSub]) | clear hK K)
        all_goals try (exfalso; omega)
        all_goals try contradiction
        (with_reducible first | apply i_ret0 | apply i_ret2 | apply i_ret3 | apply i_ret); exact rfl
        rw [q2]
      · rw [if_neg hx] at q2
        repeat' (first | rw [ew2] | rw [et] | (fail_if_success with_reducible refine nph ?_); first | (with_reducible first | (refine d_seq ?_; intro K hK) | (refine hK _ _ ?_; clear hK K) | (refine SG.p ?_; try intro b)) | ((with_reducible refine SC.p ?_); refine And.intro ?_ ?_) <;> intro hc <;> try simp only [push_cast, Int.reduceEq, Int.reduceLT, Int.reduceLE, Int.reduceNe] at hc | with_reducible refine r_rq (by first | decide | omega) ?_ | ((with_reducible refine SL.p ?_); first | refine ⟨_, rfl, ?_⟩ | refine ⟨_, _, _, rfl, ?_⟩ | (refine ⟨?_, rfl, ?_⟩; focus (simp; done))) | ((with_reducible first | apply i_ldn | apply i_ldnq); exact rfl; exact rfl; exact rfl) | ((try with_reducible refine d_reg ?_); simp only [go_sem, Nat.reduceAdd, Nat.reduceEqDiff, Int.reduceToNat, Nat.reduceMul, Nat.reduceSub]) | clear hK K)
        all_goals try (exfalso; omega)
        all_goals try contradiction
        all_goals
          rw [ew3]
          exact i_bk (k', a + m) rfl ⟨by dsimp only; omega, q2, by dsimp only; omega⟩ (by dsimp only; omega)
    · rw [if_neg h0] at q2
      by_cases hx : a = 0 ∧ 0 < s.length
      · rw [if_pos hx] at q2
        repeat' (first | rw [ew2] | rw [et] | (fail_if_success with_reducible refine nph ?_); first | (with_reducible first | (refine d_seq ?_; intro K hK) | (refine hK _ _ ?_; clear hK K) | (refine SG.p ?_; try intro b)) | ((with_reducible refine SC.p ?_); refine And.intro ?_ ?_) <;> intro hc <;> try simp only [push_cast, Int.reduceEq, Int.reduceLT, Int.reduceLE, Int.reduceNe] at hc | with_reducible refine r_rq (by first | decide | omega) ?_ | ((with_reducible refine SL.p ?_); first | refine ⟨_, rfl, ?_⟩ | refine ⟨_, _, _, rfl, ?_⟩ | (refine ⟨?_, rfl, ?_⟩; focus (simp; done))) | ((with_reducible first | apply i_ldn | apply i_ldnq); exact rfl; exact rfl; exact rfl) | ((try with_reducible refine d_reg ?_); simp only [go_sem, Nat.reduceAdd, Nat.reduceEqDiff, Int.reduceToNat, Nat.reduceMul, Nat.reduceSub]) | clear hK K)
        all_goals try (exfalso; omega)
        all_goals try contradiction
        (with_reducible first | apply i_ret0 | apply i_ret2 | apply i_ret3 | apply i_ret); exact rfl
        rw [q2]
      · rw [if_neg hx] at q2
        repeat' (first | rw [ew2] | rw [et] | (fail_if_success with_reducible refine nph ?_); first | (with_reducible first | (refine d_seq ?_; intro K hK) | (refine hK _ _ ?_; clear hK K) | (refine SG.p ?_; try intro b)) | ((with_reducible refine SC.p ?_); refine And.intro ?_ ?_) <;> intro hc <;> try simp only [push_cast, Int.reduceEq, Int.reduceLT, Int.reduceLE, Int.reduceNe] at hc | with_reducible refine r_rq (by first | decide | omega) ?_ | ((with_reducible refine SL.p ?_); first | refine ⟨_, rfl, ?_⟩ | refine ⟨_, _, _, rfl, ?_⟩ | (refine ⟨?_, rfl, ?_⟩; focus (simp; done))) | ((with_reducible first | apply i_ldn | apply i_ldnq); exact rfl; exact rfl; exact rfl) | ((try with_reducible refine d_reg ?_); simp only [go_sem, Nat.reduceAdd, Nat.reduceEqDiff, Int.reduceToNat, Nat.reduceMul, Nat.reduceSub]) | clear hK K)
        all_goals try (exfalso; omega)
        all_goals try contradiction
        all_goals
          (with_reducible first | apply i_ret0 | apply i_ret2 | apply i_ret3 | apply i_ret); exact rfl
          rw [q2]
end Go.Sp
/- The log's law: a number as bytes; a small record. -/
namespace Go.Sp
open Go Go.Proofs
set_option linter.unusedSimpArgs false
set_option linter.unusedVariables false
set_option maxRecDepth 10000
theorem g23 (n : Int) (w : Nat) (hw : w ≤ 6) (h0 : 0 ≤ n) (h1 : n ≤ 9223372036854775807) : Fp eS Tryz.prog 23 #[.int .i64 n, .int .i64 (w : Int)] [] (lowb n w) := fun L => by
  refine c23_fn rfl rfl ?_
  repeat' (first | (with_reducible first | (refine d_seq ?_; intro K hK) | (refine hK _ _ ?_; clear hK K) | (refine SG.p ?_; try intro b)) | ((with_reducible refine SC.p ?_); refine And.intro ?_ ?_) <;> intro hc <;> try simp only [push_cast, Int.reduceEq, Int.reduceLT, Int.reduceLE, Int.reduceNe] at hc | with_reducible refine r_rq (by first | decide | omega) ?_ | ((with_reducible refine SL.p ?_); first | refine ⟨_, rfl, ?_⟩ | refine ⟨_, _, _, rfl, ?_⟩ | (refine ⟨?_, rfl, ?_⟩; focus (simp; done))) | ((with_reducible first | apply i_ldn | apply i_ldnq); exact rfl; exact rfl; exact rfl) | ((try with_reducible refine d_reg ?_); simp only [go_sem, Nat.reduceAdd, Nat.reduceEqDiff, Int.reduceToNat, Nat.reduceMul, Nat.reduceSub]) | clear hK K)
  refine d_lp [0, 1, 5, 6] (fun i : Nat => [(0, .int .i64 (n / 256 ^ i)), (1, .int .i64 (w : Int)), (5, str (lowb n i)), (6, .int .i64 (i : Int))])
    (fun _ => L) (fun i => i ≤ w) (fun i => w - i) 0 (by simp only [lowb, Int.pow_zero, Int.ediv_one]; rfl) SX.p (by omega) ?_
  intro i hi
  have hp : (0 : Int) < 256 ^ i := Int.pow_pos (by decide)
  have g0 : 0 ≤ n / 256 ^ i := Int.ediv_nonneg h0 (by omega)
  have g1 : n / 256 ^ i ≤ n := Int.ediv_le_self _ h0
  have hlen := lowb_len n i
  repeat' (first | (with_reducible first | (refine d_seq ?_; intro K hK) | (refine hK _ _ ?_; clear hK K) | (refine SG.p ?_; try intro b)) | ((with_reducible refine SC.p ?_); refine And.intro ?_ ?_) <;> intro hc <;> try simp only [push_cast, Int.reduceEq, Int.reduceLT, Int.reduceLE, Int.reduceNe] at hc | with_reducible refine r_rq (by first | decide | omega) ?_ | ((with_reducible refine SL.p ?_); first | refine ⟨_, rfl, ?_⟩ | refine ⟨_, _, _, rfl, ?_⟩ | (refine ⟨?_, rfl, ?_⟩; focus (simp; done))) | ((with_reducible first | apply i_ldn | apply i_ldnq); exact rfl; exact rfl; exact rfl) | ((try with_reducible refine d_reg ?_); simp only [go_sem, Nat.reduceAdd, Nat.reduceEqDiff, Int.reduceToNat, Nat.reduceMul, Nat.reduceSub]) | clear hK K)
  · have e1 : (n / 256 ^ i).tmod 256 = (n / 256 ^ i) % 256 := tm g0
    have e2 : (n / 256 ^ i).tdiv 256 = n / 256 ^ (i + 1) := by
      rw [td g0, Int.ediv_ediv_of_nonneg (by omega), Int.pow_succ]
    have g2 : 0 ≤ n / 256 ^ (i + 1) := Int.ediv_nonneg h0 (Int.pow_nonneg (by decide))
    have g3 : n / 256 ^ (i + 1) ≤ n := Int.ediv_le_self _ h0
    refine r_conv (bs := [UInt8.ofNat ((n / 256 ^ i) % 256).toNat]) (by kernel_rfl) ((Rs_ar rfl).eqn ?_) .here ?_
    · rw [e1, wrap_b (by omega)]
      rfl
    refine r_rq (by simp only [List.length_cons, List.length_nil]; omega) ?_
    repeat' (first | (with_reducible first | (refine d_seq ?_; intro K hK) | (refine hK _ _ ?_; clear hK K) | (refine SG.p ?_; try intro b)) | ((with_reducible refine SC.p ?_); refine And.intro ?_ ?_) <;> intro hc <;> try simp only [push_cast, Int.reduceEq, Int.reduceLT, Int.reduceLE, Int.reduceNe] at hc | with_reducible refine r_rq (by first | decide | omega) ?_ | ((with_reducible refine SL.p ?_); first | refine ⟨_, rfl, ?_⟩ | refine ⟨_, _, _, rfl, ?_⟩ | (refine ⟨?_, rfl, ?_⟩; focus (simp; done))) | ((with_reducible first | apply i_ldn | apply i_ldnq); exact rfl; exact rfl; exact rfl) | ((try with_reducible refine d_reg ?_); simp only [go_sem, Nat.reduceAdd, Nat.reduceEqDiff, Int.reduceToNat, Nat.reduceMul, Nat.reduceSub]) | clear hK K)
    rw [e2, w64 (n := n / 256 ^ (i + 1)) (by omega) (by omega)]
    exact i_bk (i + 1) (by simp (disch := omega) only [w64]; rfl) (by omega) (by omega)
  · obtain rfl : i = w := by omega
    (with_reducible first | apply i_ret0 | apply i_ret2 | apply i_ret3 | apply i_ret); exact rfl
    rfl
def cm (n : Int) : Rc := { Rc.z 7 with txn := n, prev := 1 }
theorem g37 (n : Int) : Fp e_api_Rec Tryz.prog 37 #[.int .i64 n] [] ⟨7, n, 1, 0, 0, [], [], [], 0, (none, 0, 0), (none, 0, 0), 0, 0⟩ := fun L => by
  refine c37_fn rfl rfl ?_
  repeat' ((fail_if_success with_reducible refine nph ?_); first | (with_reducible first | (refine d_seq ?_; intro K hK) | (refine hK _ _ ?_; clear hK K) | (refine SG.p ?_; try intro b)) | ((with_reducible refine SC.p ?_); refine And.intro ?_ ?_) <;> intro hc <;> try simp only [push_cast, Int.reduceEq, Int.reduceLT, Int.reduceLE, Int.reduceNe] at hc | with_reducible refine r_rq (by first | decide | omega) ?_ | ((with_reducible refine SL.p ?_); first | refine ⟨_, rfl, ?_⟩ | refine ⟨_, _, _, rfl, ?_⟩ | (refine ⟨?_, rfl, ?_⟩; focus (simp; done))) | ((with_reducible first | apply i_ldn | apply i_ldnq); exact rfl; exact rfl; exact rfl) | ((try with_reducible refine d_reg ?_); simp only [go_sem, Nat.reduceAdd, Nat.reduceEqDiff, Int.reduceToNat, Nat.reduceMul, Nat.reduceSub]) | clear hK K)
  refine i_ldn (e := e_api_Rec) (x := ⟨7, n, 1, 0, 0, [], [], [], 0, (none, 0, 0), (none, 0, 0), 0, 0⟩) rfl rfl rfl ?_
  (with_reducible first | apply i_ret0 | apply i_ret2 | apply i_ret3 | apply i_ret); exact rfl
  rfl
theorem cm_at (A : HP) (n : Int) : RcAt A ⟨7, n, 1, 0, 0, [], [], [], 0, (none, 0, 0), (none, 0, 0), 0, 0⟩ (cm n) := ⟨rfl, Rs_nil, Rs_nil, by simp [cm, Rc.z], by simp [cm, Rc.z]⟩
theorem cm_frame {n : Int} (h : fitN n 6) : ∃ f, (cm n).frame = (f, 0) ∧ f.length = 19 := by
  have hc : (cm n).clean = cm n := rfl
  have p1 : fitN 7 1 := ⟨by decide, by decide⟩
  have p6 : fitN 1 6 := ⟨by decide, by decide⟩
  have hb : (cm n).body = (lowb 7 1 ++ lowb n 6 ++ lowb 1 6, 0) := by
    have e : (cm n).body = bfin (layN (layN (layN ([], 0) 7 1) n 6) 1 6) 0 := rfl
    rw [e, layN_go p1, layN_go h, layN_go p6]
    unfold bfin
    rw [if_pos rfl, if_pos rfl, if_neg (by simp only [List.length_append, lowb_len, List.length_nil]; omega)]
    simp
  refine ⟨_, by unfold Rc.frame; rw [hc, hb, if_pos rfl], ?_⟩
  simp only [List.length_append, lowb_len]
end Go.Sp
/- What each region of the Go functions does. Written by my own generator. -/
namespace Go.Sp
open Go
set_option maxRecDepth 100000
set_option linter.unusedVariables false
open Go.Proofs
/-! gharry.gharrylaw08.few -/
noncomputable def c19 : Cfg := { P := Tryz.prog, n := 20, T := TT, body := (Tryz.f19.body).getD .skip, res := Tryz.f19.results.toList, li := lk [] [(0, [0]), (1, [1, 2]), (2, [1, 2]), (3, [1, 2]), (4, [1, 2]), (5, [1, 2])], lo := lk [] [(0, [1, 2]), (1, [1, 2, 6]), (2, [1, 2]), (3, [1, 2, 14]), (4, [1, 2]), (5, [2]), (1000000, [2])], ord := lk (false, []) [] }
@[go_sem] theorem c19_i0 : c19.li 0 = [0] := rfl
@[go_sem] theorem c19_i1 : c19.li 1 = [1, 2] := rfl
@[go_sem] theorem c19_i2 : c19.li 2 = [1, 2] := rfl
@[go_sem] theorem c19_i3 : c19.li 3 = [1, 2] := rfl
@[go_sem] theorem c19_i4 : c19.li 4 = [1, 2] := rfl
@[go_sem] theorem c19_i5 : c19.li 5 = [1, 2] := rfl
@[go_sem] theorem c19_r0 (r0 : api_Rec) (K : Env → W) : RP c19 0 [(0, v_api_Rec r0)] K =
    (nwc #[.int .i64 r0.Kind, .int .i64 r0.Txn, .int .i64 r0.Prev, .int .i64 r0.Page, .int .i64 r0.Act, str r0.Key, str r0.Old, str r0.New, .int .i64 r0.Next, .slice r0.Images.1 r0.Images.2.1 r0.Images.2.2, .slice r0.Table.1 r0.Table.2.1 r0.Table.2.2, .int .i64 r0.Epoch, .int .i64 r0.Node] 36 fun y1_ => (nwc #[.int .i64 (0 : Int), .int .i64 (0 : Int), .int .i64 (0 : Int), .int .i64 (0 : Int), .int .i64 (0 : Int), str (([] : List UInt8)), str (([] : List UInt8)), str (([] : List UInt8)), .int .i64 (0 : Int), .slice none 0 0, .slice none 0 0, .int .i64 (0 : Int), .int .i64 (0 : Int)] 36 fun y2_ => (K [(1, .pointer (some y1_)), (2, .pointer (some y2_))]))) := by kernel_rfl
@[go_sem] theorem c19_r1 (r1 : Addr) (t2 : Addr) (K : Env → W) : RP c19 1 [(1, .pointer (some r1)), (2, .pointer (some t2))] K =
    (ld eSl ((r1.add 9)) fun (y1_ : (Option Addr × Nat × Nat)) => (K [(1, .pointer (some r1)), (2, .pointer (some t2)), (6, .bool ((decide ((2 : Int) < (y1_.2.1 : Int)))))])) := by kernel_rfl
@[go_sem] theorem c19_r2 (r1 : Addr) (t2 : Addr) (K : Env → W) : RP c19 2 [(1, .pointer (some r1)), (2, .pointer (some t2))] K =
    (ld eSl ((r1.add 9)) fun (y1_ : (Option Addr × Nat × Nat)) => (rq (0 ≤ (0 : Int) ∧ 0 ≤ (2 : Int) ∧ (2 : Int) ≤ (y1_.2.2 : Int)) (st ((r1.add 9)) (.slice ((slp y1_.1 0 (y1_.2.2 : Int) 2)) (((2 : Int).toNat - (0 : Int).toNat)) ((((y1_.2.2 : Int)).toNat - (0 : Int).toNat))) (K [(1, .pointer (some r1)), (2, .pointer (some t2))])))) := by kernel_rfl
@[go_sem] theorem c19_r3 (r1 : Addr) (t2 : Addr) (K : Env → W) : RP c19 3 [(1, .pointer (some r1)), (2, .pointer (some t2))] K =
    (ld eSl ((r1.add 10)) fun (y1_ : (Option Addr × Nat × Nat)) => (K [(1, .pointer (some r1)), (2, .pointer (some t2)), (14, .bool ((decide ((3 : Int) < (y1_.2.1 : Int)))))])) := by kernel_rfl
@[go_sem] theorem c19_r4 (r1 : Addr) (t2 : Addr) (K : Env → W) : RP c19 4 [(1, .pointer (some r1)), (2, .pointer (some t2))] K =
    (ld eSl ((r1.add 10)) fun (y1_ : (Option Addr × Nat × Nat)) => (rq (0 ≤ (0 : Int) ∧ 0 ≤ (3 : Int) ∧ (3 : Int) ≤ (y1_.2.2 : Int)) (st ((r1.add 10)) (.slice ((slp y1_.1 0 (y1_.2.2 : Int) 2)) (((3 : Int).toNat - (0 : Int).toNat)) ((((y1_.2.2 : Int)).toNat - (0 : Int).toNat))) (K [(1, .pointer (some r1)), (2, .pointer (some t2))])))) := by kernel_rfl
@[go_sem] theorem c19_r5 (r1 : Addr) (t2 : Addr) (K : Env → W) : RP c19 5 [(1, .pointer (some r1)), (2, .pointer (some t2))] K =
    (ldn e_api_Rec 13 r1 fun (y1_ : api_Rec) => (stl [.int .i64 y1_.Kind, .int .i64 y1_.Txn, .int .i64 y1_.Prev, .int .i64 y1_.Page, .int .i64 y1_.Act, str y1_.Key, str y1_.Old, str y1_.New, .int .i64 y1_.Next, .slice y1_.Images.1 y1_.Images.2.1 y1_.Images.2.2, .slice y1_.Table.1 y1_.Table.2.1 y1_.Table.2.2, .int .i64 y1_.Epoch, .int .i64 y1_.Node] t2 0 (K [(2, .pointer (some t2))]))) := by kernel_rfl
@[go_sem] theorem c19_o : c19.lo 1000000 = [2] := rfl
@[go_sem] theorem c19_e (t2 : Addr) (k : Value → W) : RTp c19 [(2, .pointer (some t2))] k = (ldn e_api_Rec 13 t2 fun (y1_ : api_Rec) => (k (v_api_Rec y1_))) := by kernel_rfl
theorem c19_ok : (c19.P.follows .mixedOrders && okc c19 c19.body) = true := by kernel_rfl
theorem c19_fn {e : Enc} {args : Array Value} {G : e.α → W} {L : List HP} {ρ : Env} (hρ : envA 0 args.toList = ρ) (hs : Nat.ble args.size 20 = true) (h : E L (D c19 (.seq (.reg 0) (.seq (.seq (.reg 1) (.cond (.tmp 6) (.reg 2) (.skip))) (.seq (.seq (.reg 3) (.cond (.tmp 14) (.reg 4) (.skip))) (.seq (.reg 5) (.ret))))) (fnQ c19 e G) ρ)) : E L (cal e Tryz.prog 19 args G) :=
  d_fn (c := c19) Tryz.func19 (by kernel_rfl) (by kernel_rfl) (by kernel_rfl) c19_ok (by kernel_rfl) (by kernel_rfl) hρ hs h
end Go.Sp
/- The log's law: a record of few pages and transactions. -/
namespace Go.Sp
open Go Go.Proofs
set_option linter.unusedSimpArgs false
set_option linter.unusedVariables false
set_option maxRecDepth 10000
def cut2 (s : SlV) (k : Nat) : SlV := if k < s.2.1 then (slp s.1 0 (s.2.2 : Int) 2, k, s.2.2) else s
def fewr (r : api_Rec) : api_Rec := { r with Images := cut2 r.Images 2, Table := cut2 r.Table 3 }
def few (c : Rc) : Rc := { c with imgs := c.imgs.take 2, tbl := c.tbl.take 3 }
theorem cut2_rs {α : Type} {cel : α → List Value} {A : HP} {s : SlV} {l : List α} (h : Rs A s 2 (l.flatMap cel)) (hc : ∀ x, (cel x).length = 2) (hcap : s.2.1 ≤ s.2.2) (k : Nat) : Rs A (cut2 s k) 2 ((l.take k).flatMap cel) := by
  have hn := h.len2 hc
  unfold cut2
  split
  · obtain ⟨p, n, c⟩ := s
    rename_i hk
    dsimp only at hk hn hcap
    exact h.pre hc hn (by omega) hcap
  · rw [List.take_of_length_le (by omega)]
    exact h
theorem few_at {A : HP} {r : api_Rec} {is : List api_Image} {tb : List api_Active} (hi : Rs A r.Images 2 (is.flatMap cImg)) (ht : Rs A r.Table 2 (tb.flatMap cAct)) (ci : r.Images.2.1 ≤ r.Images.2.2) (ct : r.Table.2.1 ≤ r.Table.2.2) : RcAt A (fewr r) (few (Rc.of r is tb)) :=
  ⟨rfl, cut2_rs hi cImg_len ci 2, cut2_rs ht cAct_len ct 3, by show (is.take 2).length ≤ 255; rw [List.length_take]; omega, by show (tb.take 3).length ≤ 255; rw [List.length_take]; omega⟩
set_option maxHeartbeats 1000000 in
theorem g19 (r : api_Rec) (ci : r.Images.2.1 ≤ r.Images.2.2) (ct : r.Table.2.1 ≤ r.Table.2.2) : Fp e_api_Rec Tryz.prog 19 #[v_api_Rec r] [] (fewr r) := fun L => by
  obtain ⟨k1, k2, k3, k4, k5, k6, k7, k8, k9, ⟨ip, im, ic⟩, ⟨tp, tm, tc⟩, k12, k13⟩ := r
  dsimp only at ci ct
  unfold fewr cut2
  dsimp only
  refine c19_fn rfl rfl ?_
  by_cases h2 : 2 < im
  · rw [if_pos h2]
    by_cases h3 : 3 < tm
    · rw [if_pos h3]
      repeat' ((fail_if_success with_reducible refine nph ?_); first | (with_reducible first | (refine d_seq ?_; intro K hK) | (refine hK _ _ ?_; clear hK K) | (refine SG.p ?_; try intro b)) | ((with_reducible refine SC.p ?_); refine And.intro ?_ ?_) <;> intro hc <;> try simp only [push_cast, Int.reduceEq, Int.reduceLT, Int.reduceLE, Int.reduceNe] at hc | with_reducible refine r_rq (by first | decide | omega) ?_ | ((with_reducible refine SL.p ?_); first | refine ⟨_, rfl, ?_⟩ | refine ⟨_, _, _, rfl, ?_⟩ | (refine ⟨?_, rfl, ?_⟩; focus (simp; done))) | ((with_reducible first | apply i_ldn | apply i_ldnq); exact rfl; exact rfl; exact rfl) | ((try with_reducible refine d_reg ?_); simp only [go_sem, Nat.reduceAdd, Nat.reduceEqDiff, Int.reduceToNat, Nat.reduceMul, Nat.reduceSub]) | clear hK K); all_goals try (exfalso; omega)
      (refine i_ldn (e := e_api_Rec) (x := ⟨k1, k2, k3, k4, k5, k6, k7, k8, k9, (slp ip 0 (ic : Int) 2, 2, ic), (slp tp 0 (tc : Int) 2, 3, tc), k12, k13⟩) rfl rfl rfl ?_)
      repeat' ((fail_if_success with_reducible refine nph ?_); first | (with_reducible first | (refine d_seq ?_; intro K hK) | (refine hK _ _ ?_; clear hK K) | (refine SG.p ?_; try intro b)) | ((with_reducible refine SC.p ?_); refine And.intro ?_ ?_) <;> intro hc <;> try simp only [push_cast, Int.reduceEq, Int.reduceLT, Int.reduceLE, Int.reduceNe] at hc | with_reducible refine r_rq (by first | decide | omega) ?_ | ((with_reducible refine SL.p ?_); first | refine ⟨_, rfl, ?_⟩ | refine ⟨_, _, _, rfl, ?_⟩ | (refine ⟨?_, rfl, ?_⟩; focus (simp; done))) | ((with_reducible first | apply i_ldn | apply i_ldnq); exact rfl; exact rfl; exact rfl) | ((try with_reducible refine d_reg ?_); simp only [go_sem, Nat.reduceAdd, Nat.reduceEqDiff, Int.reduceToNat, Nat.reduceMul, Nat.reduceSub]) | clear hK K)
      (refine i_ldn (e := e_api_Rec) (x := ⟨k1, k2, k3, k4, k5, k6, k7, k8, k9, (slp ip 0 (ic : Int) 2, 2, ic), (slp tp 0 (tc : Int) 2, 3, tc), k12, k13⟩) rfl rfl rfl ?_)
      (with_reducible first | apply i_ret0 | apply i_ret2 | apply i_ret3 | apply i_ret); exact rfl
      rfl
    · rw [if_neg h3]
      repeat' ((fail_if_success with_reducible refine nph ?_); first | (with_reducible first | (refine d_seq ?_; intro K hK) | (refine hK _ _ ?_; clear hK K) | (refine SG.p ?_; try intro b)) | ((with_reducible refine SC.p ?_); refine And.intro ?_ ?_) <;> intro hc <;> try simp only [push_cast, Int.reduceEq, Int.reduceLT, Int.reduceLE, Int.reduceNe] at hc | with_reducible refine r_rq (by first | decide | omega) ?_ | ((with_reducible refine SL.p ?_); first | refine ⟨_, rfl, ?_⟩ | refine ⟨_, _, _, rfl, ?_⟩ | (refine ⟨?_, rfl, ?_⟩; focus (simp; done))) | ((with_reducible first | apply i_ldn | apply i_ldnq); exact rfl; exact rfl; exact rfl) | ((try with_reducible refine d_reg ?_); simp only [go_sem, Nat.reduceAdd, Nat.reduceEqDiff, Int.reduceToNat, Nat.reduceMul, Nat.reduceSub]) | clear hK K); all_goals try (exfalso; omega)
      (refine i_ldn (e := e_api_Rec) (x := ⟨k1, k2, k3, k4, k5, k6, k7, k8, k9, (slp ip 0 (ic : Int) 2, 2, ic), (tp, tm, tc), k12, k13⟩) rfl rfl rfl ?_)
      repeat' ((fail_if_success with_reducible refine nph ?_); first | (with_reducible first | (refine d_seq ?_; intro K hK) | (refine hK _ _ ?_; clear hK K) | (refine SG.p ?_; try intro b)) | ((with_reducible refine SC.p ?_); refine And.intro ?_ ?_) <;> intro hc <;> try simp only [push_cast, Int.reduceEq, Int.reduceLT, Int.reduceLE, Int.reduceNe] at hc | with_reducible refine r_rq (by first | decide | omega) ?_ | ((with_reducible refine SL.p ?_); first | refine ⟨_, rfl, ?_⟩ | refine ⟨_, _, _, rfl, ?_⟩ | (refine ⟨?_, rfl, ?_⟩; focus (simp; done))) | ((with_reducible first | apply i_ldn | apply i_ldnq); exact rfl; exact rfl; exact rfl) | ((try with_reducible refine d_reg ?_); simp only [go_sem, Nat.reduceAdd, Nat.reduceEqDiff, Int.reduceToNat, Nat.reduceMul, Nat.reduceSub]) | clear hK K)
      (refine i_ldn (e := e_api_Rec) (x := ⟨k1, k2, k3, k4, k5, k6, k7, k8, k9, (slp ip 0 (ic : Int) 2, 2, ic), (tp, tm, tc), k12, k13⟩) rfl rfl rfl ?_)
      (with_reducible first | apply i_ret0 | apply i_ret2 | apply i_ret3 | apply i_ret); exact rfl
      rfl
  · rw [if_neg h2]
    by_cases h3 : 3 < tm
    · rw [if_pos h3]
      repeat' ((fail_if_success with_reducible refine nph ?_); first | (with_reducible first | (refine d_seq ?_; intro K hK) | (refine hK _ _ ?_; clear hK K) | (refine SG.p ?_; try intro b)) | ((with_reducible refine SC.p ?_); refine And.intro ?_ ?_) <;> intro hc <;> try simp only [push_cast, Int.reduceEq, Int.reduceLT, Int.reduceLE, Int.reduceNe] at hc | with_reducible refine r_rq (by first | decide | omega) ?_ | ((with_reducible refine SL.p ?_); first | refine ⟨_, rfl, ?_⟩ | refine ⟨_, _, _, rfl, ?_⟩ | (refine ⟨?_, rfl, ?_⟩; focus (simp; done))) | ((with_reducible first | apply i_ldn | apply i_ldnq); exact rfl; exact rfl; exact rfl) | ((try with_reducible refine d_reg ?_); simp only [go_sem, Nat.reduceAdd, Nat.reduceEqDiff, Int.reduceToNat, Nat.reduceMul, Nat.reduceSub]) | clear hK K); all_goals try (exfalso; omega)
      (refine i_ldn (e := e_api_Rec) (x := ⟨k1, k2, k3, k4, k5, k6, k7, k8, k9, (ip, im, ic), (slp tp 0 (tc : Int) 2, 3, tc), k12, k13⟩) rfl rfl rfl ?_)
      repeat' ((fail_if_success with_reducible refine nph ?_); first | (with_reducible first | (refine d_seq ?_; intro K hK) | (refine hK _ _ ?_; clear hK K) | (refine SG.p ?_; try intro b)) | ((with_reducible refine SC.p ?_); refine And.intro ?_ ?_) <;> intro hc <;> try simp only [push_cast, Int.reduceEq, Int.reduceLT, Int.reduceLE, Int.reduceNe] at hc | with_reducible refine r_rq (by first | decide | omega) ?_ | ((with_reducible refine SL.p ?_); first | refine ⟨_, rfl, ?_⟩ | refine ⟨_, _, _, rfl, ?_⟩ | (refine ⟨?_, rfl, ?_⟩; focus (simp; done))) | ((with_reducible first | apply i_ldn | apply i_ldnq); exact rfl; exact rfl; exact rfl) | ((try with_reducible refine d_reg ?_); simp only [go_sem, Nat.reduceAdd, Nat.reduceEqDiff, Int.reduceToNat, Nat.reduceMul, Nat.reduceSub]) | clear hK K)
      (refine i_ldn (e := e_api_Rec) (x := ⟨k1, k2, k3, k4, k5, k6, k7, k8, k9, (ip, im, ic), (slp tp 0 (tc : Int) 2, 3, tc), k12, k13⟩) rfl rfl rfl ?_)
      (with_reducible first | apply i_ret0 | apply i_ret2 | apply i_ret3 | apply i_ret); exact rfl
      rfl
    · rw [if_neg h3]
      repeat' ((fail_if_success with_reducible refine nph ?_); first | (with_reducible first | (refine d_seq ?_; intro K hK) | (refine hK _ _ ?_; clear hK K) | (refine SG.p ?_; try intro b)) | ((with_reducible refine SC.p ?_); refine And.intro ?_ ?_) <;> intro hc <;> try simp only [push_cast, Int.reduceEq, Int.reduceLT, Int.reduceLE, Int.reduceNe] at hc | with_reducible refine r_rq (by first | decide | omega) ?_ | ((with_reducible refine SL.p ?_); first | refine ⟨_, rfl, ?_⟩ | refine ⟨_, _, _, rfl, ?_⟩ | (refine ⟨?_, rfl, ?_⟩; focus (simp; done))) | ((with_reducible first | apply i_ldn | apply i_ldnq); exact rfl; exact rfl; exact rfl) | ((try with_reducible refine d_reg ?_); simp only [go_sem, Nat.reduceAdd, Nat.reduceEqDiff, Int.reduceToNat, Nat.reduceMul, Nat.reduceSub]) | clear hK K); all_goals try (exfalso; omega)
      (refine i_ldn (e := e_api_Rec) (x := ⟨k1, k2, k3, k4, k5, k6, k7, k8, k9, (ip, im, ic), (tp, tm, tc), k12, k13⟩) rfl rfl rfl ?_)
      repeat' ((fail_if_success with_reducible refine nph ?_); first | (with_reducible first | (refine d_seq ?_; intro K hK) | (refine hK _ _ ?_; clear hK K) | (refine SG.p ?_; try intro b)) | ((with_reducible refine SC.p ?_); refine And.intro ?_ ?_) <;> intro hc <;> try simp only [push_cast, Int.reduceEq, Int.reduceLT, Int.reduceLE, Int.reduceNe] at hc | with_reducible refine r_rq (by first | decide | omega) ?_ | ((with_reducible refine SL.p ?_); first | refine ⟨_, rfl, ?_⟩ | refine ⟨_, _, _, rfl, ?_⟩ | (refine ⟨?_, rfl, ?_⟩; focus (simp; done))) | ((with_reducible first | apply i_ldn | apply i_ldnq); exact rfl; exact rfl; exact rfl) | ((try with_reducible refine d_reg ?_); simp only [go_sem, Nat.reduceAdd, Nat.reduceEqDiff, Int.reduceToNat, Nat.reduceMul, Nat.reduceSub]) | clear hK K)
      (refine i_ldn (e := e_api_Rec) (x := ⟨k1, k2, k3, k4, k5, k6, k7, k8, k9, (ip, im, ic), (tp, tm, tc), k12, k13⟩) rfl rfl rfl ?_)
      (with_reducible first | apply i_ret0 | apply i_ret2 | apply i_ret3 | apply i_ret); exact rfl
      rfl
end Go.Sp
/- The log on a disk that nothing lets go. -/
namespace Go.Sp
open Go Go.Proofs
set_option linter.unusedSimpArgs false
set_option linter.unusedVariables false
set_option maxRecDepth 10000
theorem calm_get {Z : Dk} {sb n : Nat} (h : Z.calm sb n) {i : Nat} (hi : i < n) {s : List UInt8} (hs : s.length ≤ 64) (j : Nat) : (Z.write (i : Int) s).2.get (j : Int) = if i = j then wh s else Z.get (j : Int) := by
  obtain ⟨_, _, w3, _, w5⟩ := h.write hi hs
  unfold Dk.get
  rw [w5, w3]
  by_cases e : i = j
  · subst e
    rw [if_pos rfl, if_pos rfl]
    rfl
  · rw [if_neg (by omega), if_neg e]
theorem sec_len (G : Lg) (i : Nat) : (G.sec i).length ≤ 64 := by
  have := part_le G.all i
  unfold Lg.sec
  simp only [List.length_append, lowb_len]
  omega
/-- A sector is written. -/
theorem lw_calm {Z : Dk} {sb n : Nat} (h : Z.calm sb n) {G : Lg} (hG : G.ok n) (i : Nat) : (Z.lw G i).1 = 0 ∧ (Z.lw G i).2.calm sb n ∧ ∀ j : Nat, (Z.lw G i).2.get (j : Int) = if i < G.sectors ∧ j = G.base + i then wh (G.sec i) else Z.get (j : Int) := by
  have hfit := hG.fit
  unfold Dk.lw
  by_cases h1 : G.sectors ≤ i
  · rw [if_pos h1]
    exact ⟨rfl, h, fun j => by rw [if_neg (by omega)]⟩
  · rw [if_neg h1]
    obtain ⟨w1, w2, _⟩ := h.write (i := G.base + i) (by omega) (sec_len G i)
    refine ⟨w1, w2, fun j => ?_⟩
    rw [calm_get h (by omega) (sec_len G i)]
    by_cases hj : G.base + i = j
    · rw [if_pos hj, if_pos ⟨by omega, hj.symm⟩]
    · rw [if_neg hj, if_neg (by omega)]
theorem lws_calm {sb n : Nat} {G : Lg} (hG : G.ok n) : ∀ (k i : Nat) {Z : Dk}, Z.calm sb n → G.sectors + 1 ≤ k + i → (lws G k i Z).1 = 0 ∧ (lws G k i Z).2.calm sb n ∧ ∀ j : Nat, (lws G k i Z).2.get (j : Int) = if G.base + i ≤ j ∧ 58 * (j - G.base) < G.all.length then wh (G.sec (j - G.base)) else Z.get (j : Int)
  | 0, i, Z, h, hk => by
    have := hG.le
    refine ⟨rfl, h, fun j => ?_⟩
    rw [if_neg (by omega)]
    rfl
  | k + 1, i, Z, h, hk => by
    have hle := hG.le
    by_cases hi : 58 * i < G.all.length
    · obtain ⟨a1, a2, a3⟩ := lw_calm h hG i
      obtain ⟨b1, b2, b3⟩ := lws_calm hG k (i + 1) a2 (by omega)
      have e : lws G (k + 1) i Z = lws G k (i + 1) (Z.lw G i).2 := by
        show (if 58 * i < G.all.length then _ else _) = _
        rw [if_pos hi, if_pos a1]
      rw [e]
      refine ⟨b1, b2, fun j => ?_⟩
      rw [b3, a3]
      by_cases hj : j = G.base + i
      · rw [if_neg (by omega), if_pos ⟨by omega, hj⟩, if_pos ⟨by omega, by rw [hj, Nat.add_sub_cancel_left]; exact hi⟩, hj, Nat.add_sub_cancel_left]
      · by_cases hm : G.base + (i + 1) ≤ j ∧ 58 * (j - G.base) < G.all.length
        · rw [if_pos hm, if_pos ⟨by omega, hm.2⟩]
        · rw [if_neg hm, if_neg (by omega), if_neg (by omega)]
    · have e : lws G (k + 1) i Z = (0, Z) := by
        show (if 58 * i < G.all.length then _ else _) = _
        rw [if_neg hi]
      rw [e]
      refine ⟨rfl, h, fun j => ?_⟩
      rw [if_neg (by omega)]
end Go.Sp
/- What is scanned of a log's sectors. -/
namespace Go.Sp
open Go Go.Proofs
set_option linter.unusedSimpArgs false
set_option linter.unusedVariables false
set_option maxRecDepth 10000
def secb (r : Nat) (p : List UInt8) : List UInt8 := lowb (r : Int) 4 ++ lowb (p.length : Int) 2 ++ p
theorem sec_b (G : Lg) (i : Nat) : G.sec i = secb G.run (part G.all i) := rfl
def at4 (v : List UInt8) : Nat := be (v.take 4)
def n2 (v : List UInt8) : Nat := be ((v.drop 4).take 2)
theorem secb_rd {r : Nat} {p : List UInt8} (hr : r < 4294967296) (hp : p.length ≤ 58) : at4 (wh (secb r p)) = r ∧ n2 (wh (secb r p)) = p.length ∧ ((wh (secb r p)).drop 6).take p.length = p := by
  have l4 := lowb_len (r : Int) 4
  have l2 := lowb_len (p.length : Int) 2
  have e : wh (secb r p) = lowb (r : Int) 4 ++ (lowb (p.length : Int) 2 ++ (p ++ List.replicate (64 - (secb r p).length) 0)) := by
    unfold wh secb
    simp
  have b4 : be (lowb (r : Int) 4) = r := nat_eq (be_fits (by omega) (by rw [show ((256 ^ 4 : Nat) : Int) = 4294967296 by decide]; omega))
  have b2 : be (lowb (p.length : Int) 2) = p.length := nat_eq (be_fits (by omega) (by rw [show ((256 ^ 2 : Nat) : Int) = 65536 by decide]; omega))
  generalize List.replicate (64 - (secb r p).length) (0 : UInt8) = Y at e
  unfold at4 n2
  rw [e]
  refine ⟨by rw [List.take_left' l4, b4], by rw [List.drop_left' l4, List.take_left' l2, b2], ?_⟩
  have e2 : (lowb (r : Int) 4 ++ (lowb (p.length : Int) 2 ++ (p ++ Y))).drop 6 = p ++ Y := by
    rw [← List.append_assoc]
    exact List.drop_left' (by rw [List.length_append, l4, l2])
  rw [e2]
  exact List.take_left' rfl
def prv (ρ : Nat → Nat) (i : Nat) : Nat := if i = 0 then 1 else ρ (i - 1)
/-- What the sectors tell: their bytes go on, each in a run not ahead of the last, and behind them they stop. -/
structure Tells (Z : Dk) (base S : Nat) (all : List UInt8) (ρ : Nat → Nat) : Prop where
  secs : ∀ m, 58 * m < all.length → m < S → Z.get ((base + m : Nat) : Int) = wh (secb (ρ m) (part all m))
  mono : ∀ m, prv ρ m ≤ ρ m
  lt : ∀ m, ρ m < 4294967296
  stop : ∀ m, m < S → 58 * m = all.length → at4 (Z.get ((base + m : Nat) : Int)) < prv ρ m ∨ n2 (Z.get ((base + m : Nat) : Int)) = 0
  le : all.length ≤ 58 * S
theorem part_drop (all : List UInt8) (i : Nat) : all.drop (58 * i) = part all i ++ all.drop (58 * (i + 1)) := by
  unfold part
  rw [show 58 * (i + 1) = 58 * i + 58 by omega, ← List.drop_drop, List.take_append_drop]
theorem part_len (all : List UInt8) (i : Nat) : (part all i).length = min 58 (all.length - 58 * i) := by
  unfold part
  rw [List.length_take, List.length_drop]
theorem scn_is {Z : Dk} {base S top : Nat} {all : List UInt8} {ρ : Nat → Nat} (h : Tells Z base S all ρ) (ht : ∀ m, 58 * m < all.length → ρ m ≤ top) : ∀ k i, S = i + k → 58 * i ≤ all.length → Z.scn base top k i (prv ρ i) = all.drop (58 * i)
  | 0, i, hS, hi => by
    have := h.le
    rw [List.drop_eq_nil_of_le (by omega)]
    rfl
  | k + 1, i, hS, hi => by
    have hp := part_len all i
    by_cases hlt : 58 * i < all.length
    · obtain ⟨a1, a2, a3⟩ := secb_rd (r := ρ i) (p := part all i) (h.lt i) (part_le all i)
      have e := h.secs i hlt (by omega)
      unfold at4 at a1
      unfold n2 at a2
      have hm := h.mono i
      have htt := ht i hlt
      unfold Dk.scn
      rw [e, a1, a2, a3, if_neg (by have := part_le all i; omega), part_drop]
      by_cases h58 : (part all i).length < 58
      · rw [if_pos h58, List.drop_eq_nil_of_le (by omega)]
      · rw [if_neg h58]
        have ih := scn_is h ht k (i + 1) (by omega) (by omega)
        rw [show prv ρ (i + 1) = ρ i from rfl] at ih
        rw [ih]
    · have he : 58 * i = all.length := by omega
      rw [List.drop_eq_nil_of_le (by omega)]
      have hs := h.stop i (by omega) he
      unfold at4 n2 at hs
      unfold Dk.scn
      rcases hs with hs | hs
      · rw [if_pos (.inl hs)]
      · rw [hs]
        split
        · rfl
        · rfl
end Go.Sp
/- Frames in a row are whole. -/
namespace Go.Sp
open Go Go.Proofs
set_option linter.unusedSimpArgs false
set_option linter.unusedVariables false
set_option maxRecDepth 10000
def Frs (fs : List (List UInt8)) : Prop := ∀ f ∈ fs, ∃ c : Rc, c.short ∧ c.frame = (f, 0)
theorem whl_frs : ∀ (fs : List (List UInt8)) (s : List UInt8) (Y : List UInt8) (k a : Nat), Frs fs → a ≤ s.length → s.drop a = fs.flatten ++ Y → (opn0 Y).2.2 ≠ 0 → fs.length < k → whl s k a = a + fs.flatten.length
  | [], s, Y, k + 1, a, _, ha, hd, hY, _ => by
    unfold whl
    rw [opn_nat ha, hd]
    simp only [List.flatten_nil, List.nil_append, List.length_nil, Nat.add_zero]
    rw [if_neg hY]
  | f :: fs, s, Y, k + 1, a, hf, ha, hd, hY, hk => by
    obtain ⟨c, hs, hc⟩ := hf f (by simp)
    have e : s.drop a = f ++ (fs.flatten ++ Y) := by rw [hd]; simp
    have hl := congrArg List.length e
    rw [List.length_drop, List.length_append] at hl
    unfold whl
    rw [opn_nat ha, e, opn0_frame hs hc]
    dsimp only
    rw [if_pos rfl, Int.toNat_natCast]
    have e2 : s.drop (a + f.length) = fs.flatten ++ Y := by
      rw [← List.drop_drop, e]
      exact List.drop_left' rfl
    rw [whl_frs fs s Y k (a + f.length) (fun g hg => hf g (by simp [hg])) (by omega) e2 hY (by simp only [List.length_cons] at hk; omega)]
    simp only [List.flatten_cons, List.length_append]
    omega
theorem opn0_nil : (opn0 []).2.2 ≠ 0 := by decide
theorem frs_len : ∀ {fs : List (List UInt8)}, Frs fs → fs.length ≤ fs.flatten.length
  | [], _ => by simp
  | f :: fs, h => by
    obtain ⟨c, hs, hc⟩ := h f (by simp)
    have h1 := frame_len hs hc
    have h2 := frs_len (fs := fs) fun g hg => h g (by simp [hg])
    simp only [List.flatten_cons, List.length_append, List.length_cons]
    omega
theorem whole_frs {fs : List (List UInt8)} (h : Frs fs) : whole fs.flatten = fs.flatten.length := by
  have := whl_frs fs fs.flatten [] (fs.flatten.length + 1) 0 h (by omega) (by simp) opn0_nil (by have := frs_len h; omega)
  simpa [whole] using this
/-- Records with their frames, and where they stand. -/
def rl : List (List UInt8 × Rc) → Nat → List (Nat × Rc)
  | [], _ => []
  | x :: ps, a => (a + 1, x.2.clean) :: rl ps (a + x.1.length)
def Prs (ps : List (List UInt8 × Rc)) : Prop := ∀ x ∈ ps, x.2.short ∧ x.2.frame = (x.1, 0)
theorem Prs.frs {ps : List (List UInt8 × Rc)} (h : Prs ps) : Frs (ps.map (·.1)) := fun f hf => by
  obtain ⟨x, hx, rfl⟩ := List.mem_map.1 hf
  exact ⟨x.2, h x hx⟩
theorem rcs_prs : ∀ (ps : List (List UInt8 × Rc)) (s : List UInt8) (k a : Nat), Prs ps → a ≤ s.length → s.drop a = (ps.map (·.1)).flatten → ps.length < k → rcs s k a = rl ps a
  | [], s, k + 1, a, _, ha, hd, _ => by
    have hl := congrArg List.length hd
    rw [List.length_drop] at hl
    simp only [List.map_nil, List.flatten_nil, List.length_nil] at hl
    unfold rcs
    rw [if_neg (by omega)]
    rfl
  | x :: ps, s, k + 1, a, hp, ha, hd, hk => by
    obtain ⟨hs, hc⟩ := hp x (by simp)
    have h7 := frame_len hs hc
    have e : s.drop a = x.1 ++ (ps.map (·.1)).flatten := by rw [hd]; simp
    have hl := congrArg List.length e
    rw [List.length_drop, List.length_append] at hl
    unfold rcs
    rw [if_pos (by omega), opn_nat ha, e, opn0_frame hs hc]
    dsimp only
    rw [if_pos rfl, Int.toNat_natCast]
    have e2 : s.drop (a + x.1.length) = (ps.map (·.1)).flatten := by
      rw [← List.drop_drop, e]
      exact List.drop_left' rfl
    rw [rcs_prs ps s k (a + x.1.length) (fun y hy => hp y (by simp [hy])) (by omega) e2 (by simp only [List.length_cons] at hk; omega)]
    rfl
theorem recs_prs {ps : List (List UInt8 × Rc)} (h : Prs ps) : recs (ps.map (·.1)).flatten = rl ps 0 := by
  refine rcs_prs ps _ _ 0 h (by omega) (by simp) ?_
  have := frs_len h.frs
  rw [List.length_map] at this
  omega
end Go.Sp
/- The log on a disk that nothing lets go: mend, Flush. -/
namespace Go.Sp
open Go Go.Proofs
set_option linter.unusedSimpArgs false
set_option linter.unusedVariables false
set_option maxRecDepth 10000
theorem lmend_calm {Z : Dk} {sb n : Nat} (h : Z.calm sb n) {G : Lg} (hG : G.ok n) : (Z.lmend G).1 = 0 ∧ (Z.lmend G).2.2 = G ∧ (Z.lmend G).2.1.calm sb n ∧ (Z.lmend G).2.1.es = [] ∧ ∀ j : Nat, j < n → (Z.lmend G).2.1.get (j : Int) = if G.durable / 58 < G.sectors ∧ j = G.base + G.durable / 58 then wh (G.sec (G.durable / 58)) else Z.get (j : Int) := by
  have hn : 0 < n := by have := hG.fit; have := hG.s1; omega
  obtain ⟨a1, a2, a3⟩ := lw_calm h hG (G.durable / 58)
  obtain ⟨b1, b2, b3, _, b5⟩ := a2.sync hn
  unfold Dk.lmend
  rw [if_pos a1]
  dsimp only
  refine ⟨b1, by rw [b1]; exact down_0 G, b2, b3, fun j hj => ?_⟩
  rw [b5 j hj, a3]
theorem lflush_calm {Z : Dk} {sb n : Nat} (h : Z.calm sb n) {G : Lg} (hG : G.ok n) (hd : G.dead = false) : (Z.lflush G).1 = 0 ∧ (Z.lflush G).2.2 = { G with durable := G.all.length } ∧ (Z.lflush G).2.1.calm sb n ∧ (G.durable < G.all.length → (Z.lflush G).2.1.es = []) ∧
    (G.durable = G.all.length → (Z.lflush G).2.1 = Z) ∧ ∀ j : Nat, j < n → (Z.lflush G).2.1.get (j : Int) = if G.durable < G.all.length ∧ G.base + G.durable / 58 ≤ j ∧ 58 * (j - G.base) < G.all.length then wh (G.sec (j - G.base)) else Z.get (j : Int) := by
  have hn : 0 < n := by have := hG.fit; have := hG.s1; omega
  have hdu := hG.du
  unfold Dk.lflush
  rw [if_neg (by rw [hd]; decide)]
  by_cases hq : G.durable = G.all.length
  · rw [if_pos hq]
    refine ⟨rfl, ?_, h, fun hlt => by omega, fun _ => rfl, fun j hj => by rw [if_neg (by omega)]⟩
    dsimp only
    rw [← hq]
  · rw [if_neg hq]
    obtain ⟨a1, a2, a3⟩ := lws_calm hG (G.sectors + 1) (G.durable / 58) h (by omega)
    obtain ⟨b1, b2, b3, _, b5⟩ := a2.sync hn
    dsimp only
    rw [if_pos a1, if_pos b1]
    refine ⟨rfl, rfl, b2, fun _ => b3, fun e => absurd e hq, fun j hj => ?_⟩
    dsimp only
    rw [b5 j hj, a3]
    by_cases hj2 : G.base + G.durable / 58 ≤ j ∧ 58 * (j - G.base) < G.all.length
    · rw [if_pos hj2, if_pos ⟨by omega, hj2⟩]
    · rw [if_neg hj2, if_neg (fun hx => hj2 hx.2)]
end Go.Sp
/- The log on a disk that nothing lets go: what its sectors tell stays so. -/
namespace Go.Sp
open Go Go.Proofs
set_option linter.unusedSimpArgs false
set_option linter.unusedVariables false
set_option maxRecDepth 10000
structure Wi (Z : Dk) (sb n : Nat) (G : Lg) (ρ : Nat → Nat) : Prop where
  calm : Z.calm sb n
  ok : G.ok n
  dead : G.dead = false
  tells : Tells Z G.base G.sectors (G.all.take G.durable) ρ
  top : ∀ m, 58 * m < G.durable → ρ m ≤ G.run
  fresh : ∀ m, m < G.sectors → G.durable < 58 * m → at4 (Z.get ((G.base + m : Nat) : Int)) < G.run
  edge : ∀ m, m < G.sectors → G.durable = 58 * m → at4 (Z.get ((G.base + m : Nat) : Int)) < G.run ∨ (at4 (Z.get ((G.base + m : Nat) : Int)) = G.run ∧ n2 (Z.get ((G.base + m : Nat) : Int)) = 0)
theorem Wi.append {Z : Dk} {sb n : Nat} {G : Lg} {ρ : Nat → Nat} (h : Wi Z sb n G ρ) {s : List UInt8} (hs : G.all.length + s.length ≤ 58 * G.sectors) : Wi Z sb n { G with all := G.all ++ s } ρ := by
  obtain ⟨a1, a2, a3, a4, a5, a6, a7⟩ := h
  have hdu := a2.du
  have e : (G.all ++ s).take G.durable = G.all.take G.durable := List.take_append_of_le_length hdu
  refine ⟨a1, ⟨a2.s1, a2.fit, a2.n1, a2.r1, a2.r2, by dsimp only; rw [List.length_append]; omega, by dsimp only; rw [List.length_append]; exact hs⟩, a3, ?_, a5, a6, a7⟩
  dsimp only
  rw [e]
  exact a4
theorem part_take {all : List UInt8} {d m : Nat} (h : 58 * m + 58 ≤ d) : part (all.take d) m = part all m := by
  unfold part
  rw [List.drop_take, List.take_take, show min 58 (d - 58 * m) = 58 by omega]
theorem Wi.flush {Z : Dk} {sb n : Nat} {G : Lg} {ρ : Nat → Nat} (h : Wi Z sb n G ρ) : ∃ ρ', Wi (Z.lflush G).2.1 sb n { G with durable := G.all.length } ρ' := by
  obtain ⟨a1, a2, a3, a4, a5, a6, a7⟩ := h
  have hdu := a2.du
  have hle := a2.le
  have hfit := a2.fit
  obtain ⟨l1, l2, l3, l4, l5, l6⟩ := lflush_calm a1 a2 a3
  by_cases hq : G.durable = G.all.length
  · refine ⟨ρ, ?_⟩
    rw [l5 hq, ← hq]
    exact ⟨a1, a2, a3, a4, a5, a6, a7⟩
  · have hget : ∀ m, m < G.sectors → (Z.lflush G).2.1.get ((G.base + m : Nat) : Int) = if G.durable / 58 ≤ m ∧ 58 * m < G.all.length then wh (G.sec m) else Z.get ((G.base + m : Nat) : Int) := fun m hm => by
      rw [l6 (G.base + m) (by omega)]
      have e : G.base + m - G.base = m := by omega
      rw [e]
      by_cases hc : G.durable / 58 ≤ m ∧ 58 * m < G.all.length
      · rw [if_pos hc, if_pos ⟨by omega, by omega, hc.2⟩]
      · rw [if_neg hc, if_neg (by omega)]
    refine ⟨fun m => if m < G.durable / 58 then ρ m else G.run, l3, ⟨a2.s1, a2.fit, a2.n1, a2.r1, a2.r2, Nat.le_refl _, hle⟩, a3, ?_, ?_, ?_, ?_⟩
    · dsimp only
      rw [List.take_length]
      refine ⟨fun m m1 m2 => ?_, fun m => ?_, fun m => ?_, fun m m1 m2 => ?_, hle⟩
      · rw [hget m m2]
        by_cases hm : m < G.durable / 58
        · rw [if_neg (by omega), if_pos hm, a4.secs m (by rw [List.length_take]; omega) m2, part_take (by omega)]
        · rw [if_pos ⟨by omega, m1⟩, if_neg hm]
          rfl
      · have hm0 := a4.mono m
        have hr := a2.r1
        unfold prv at hm0 ⊢
        by_cases m0 : m = 0
        · rw [if_pos m0] at hm0 ⊢
          split <;> omega
        · rw [if_neg m0] at hm0 ⊢
          dsimp only
          by_cases h1 : m < G.durable / 58
          · rw [if_pos (by omega), if_pos h1]; exact hm0
          · rw [if_neg h1]
            split
            · exact a5 (m - 1) (by omega)
            · exact Nat.le_refl _
      · split
        · exact a4.lt m
        · exact a2.r2
      · left
        rw [hget m m1, if_neg (by omega)]
        have hf := a6 m m1 (by omega)
        have hm0 : ¬ m = 0 := by omega
        unfold prv
        rw [if_neg hm0]
        dsimp only
        rw [if_neg (by omega)]
        exact hf
    · intro m hm
      dsimp only
      split
      · exact a5 m (by omega)
      · exact Nat.le_refl _
    · intro m m1 m2
      dsimp only at m1 m2 ⊢
      rw [hget m m1, if_neg (by omega)]
      exact a6 m m1 (by omega)
    · intro m m1 m2
      dsimp only at m1 m2 ⊢
      left
      rw [hget m m1, if_neg (by omega)]
      exact a6 m m1 (by omega)
end Go.Sp
/- The log on a disk that nothing lets go: it is mended, and found again. -/
namespace Go.Sp
open Go Go.Proofs
set_option linter.unusedSimpArgs false
set_option linter.unusedVariables false
set_option maxRecDepth 10000
theorem scan_wi {Z : Dk} {sb n : Nat} {G : Lg} {ρ : Nat → Nat} (h : Wi Z sb n G ρ) {top : Nat} (ht : G.run ≤ top) : Z.scn G.base top G.sectors 0 1 = G.all.take G.durable := by
  have e := scn_is h.tells (top := top) (fun m hm => Nat.le_trans (h.top m (by rw [List.length_take] at hm; omega)) ht) G.sectors 0 (by omega) (by omega)
  simpa [prv] using e
/-- What is mended: the sector at the log's end is of this run, and what stands behind it is of an older one. -/
theorem mend_wi {Z : Dk} {sb n : Nat} {G : Lg} {ρ : Nat → Nat} (hc : Z.calm sb n) (hG : G.ok n) (hd : G.dead = false) (hdur : G.durable = G.all.length)
    (secs : ∀ m, 58 * m < G.durable → m < G.sectors → m < G.durable / 58 → Z.get ((G.base + m : Nat) : Int) = wh (secb (ρ m) (part G.all m)))
    (mono : ∀ m, prv ρ m ≤ ρ m) (lt : ∀ m, ρ m < 4294967296) (top : ∀ m, m < G.durable / 58 → ρ m ≤ G.run)
    (fresh : ∀ m, m < G.sectors → G.durable / 58 < m → at4 (Z.get ((G.base + m : Nat) : Int)) < G.run) :
    ∃ ρ', Wi (Z.lmend G).2.1 sb n G ρ' ∧ (Z.lmend G).1 = 0 ∧ (Z.lmend G).2.2 = G ∧ (Z.lmend G).2.1.es = [] := by
  obtain ⟨m1, m2, m3, m4, m5⟩ := lmend_calm hc hG
  have hfit := hG.fit
  have hle := hG.le
  have hget : ∀ m, m < G.sectors → (Z.lmend G).2.1.get ((G.base + m : Nat) : Int) = if m = G.durable / 58 then wh (G.sec m) else Z.get ((G.base + m : Nat) : Int) := fun m hm => by
    rw [m5 (G.base + m) (by omega)]
    by_cases e : m = G.durable / 58
    · rw [if_pos e, if_pos ⟨by omega, by omega⟩, e]
    · rw [if_neg e, if_neg (by omega)]
  have hr2 := hG.r2
  refine ⟨fun m => if m < G.durable / 58 then ρ m else G.run, ⟨m3, hG, hd, ?_, ?_, ?_, ?_⟩, m1, m2, m4⟩
  · rw [hdur, List.take_length, ← hdur]
    refine ⟨fun m a b => ?_, fun m => ?_, fun m => ?_, fun m a b => ?_, by omega⟩
    · rw [hget m b]
      by_cases hm : m < G.durable / 58
      · rw [if_neg (by omega), if_pos hm]
        exact secs m (by omega) b hm
      · have : m = G.durable / 58 := by omega
        rw [if_pos this, if_neg hm]
        rfl
    · have hm0 := mono m
      have hr := hG.r1
      unfold prv at hm0 ⊢
      by_cases m0 : m = 0
      · rw [if_pos m0] at hm0 ⊢
        split <;> omega
      · rw [if_neg m0] at hm0 ⊢
        dsimp only
        by_cases h1 : m < G.durable / 58
        · rw [if_pos (by omega), if_pos h1]; exact hm0
        · rw [if_neg h1]
          split
          · exact top (m - 1) (by omega)
          · exact Nat.le_refl _
    · split
      · exact lt m
      · exact hG.r2
    · right
      rw [hget m a, if_pos (by omega)]
      obtain ⟨_, b2, _⟩ := secb_rd (r := G.run) (p := part G.all m) hr2 (part_le G.all m)
      rw [sec_b, b2, part_len]
      omega
  · intro m hm
    split
    · exact top m (by omega)
    · exact Nat.le_refl _
  · intro m a b
    rw [hget m a, if_neg (by omega)]
    exact fresh m a (by omega)
  · intro m a b
    right
    rw [hget m a, if_pos (by omega)]
    obtain ⟨b1, b2, _⟩ := secb_rd (r := G.run) (p := part G.all m) hr2 (part_le G.all m)
    rw [sec_b]
    exact ⟨b1, by rw [b2, part_len]; omega⟩
end Go.Sp
/- The log on a disk that nothing lets go: Open, Cut, a loss of power. -/
namespace Go.Sp
open Go Go.Proofs
set_option linter.unusedSimpArgs false
set_option linter.unusedVariables false
set_option maxRecDepth 10000
/-- What is read stays so. -/
theorem Wi.mv {Z Y : Dk} {sb n : Nat} {G : Lg} {ρ : Nat → Nat} (h : Wi Z sb n G ρ) (hc : Y.calm sb n) (hg : ∀ j : Nat, j < n → Y.get (j : Int) = Z.get (j : Int)) : Wi Y sb n G ρ := by
  have hfit := h.ok.fit
  refine ⟨hc, h.ok, h.dead, ⟨fun m a b => ?_, h.tells.mono, h.tells.lt, fun m a b => ?_, h.tells.le⟩, h.top, fun m a b => ?_, fun m a b => ?_⟩
  · rw [hg _ (by omega)]; exact h.tells.secs m a b
  · rw [hg _ (by omega)]; exact h.tells.stop m a b
  · rw [hg _ (by omega)]; exact h.fresh m a b
  · rw [hg _ (by omega)]; exact h.edge m a b
theorem off_get {Z : Dk} {sb n : Nat} (h : Z.calm sb n) (he : Z.es = []) (keep : Int) (j : Nat) : (Z.off keep).on.get (j : Int) = Z.get (j : Int) := by
  obtain ⟨_, _, _, _, h5⟩ := h.off keep
  rcases h5 j with h6 | ⟨v, h6, _⟩
  · rw [h6]
    unfold Dk.get
    rw [he]
    simp [gk]
  · rw [he] at h6
    cases h6
theorem Wi.off {Z : Dk} {sb n : Nat} {G : Lg} {ρ : Nat → Nat} (h : Wi Z sb n G ρ) (he : Z.es = []) (keep : Int) : Wi (Z.off keep).on sb n G ρ :=
  h.mv (h.calm.off keep).1 fun j _ => off_get h.calm he keep j
/-- On a disk of which the sectors have nothing an empty log is found. -/
theorem found_zero {Z : Dk} {q base S run : Nat} (h : at4 (Z.get ((base : Nat) : Int)) = 0) (hS : 1 ≤ S) : Z.found q base S run = ⟨q, base, S, run, [], 0, false⟩ := by
  have e : Z.scn base run S 0 1 = [] := by
    obtain ⟨k, rfl⟩ : ∃ k, S = k + 1 := ⟨S - 1, by omega⟩
    unfold Dk.scn
    unfold at4 at h
    rw [Nat.add_zero, h, if_pos (by omega)]
  unfold Dk.found
  rw [e]
  rfl
theorem mend_zero {Z : Dk} {sb n q base S run : Nat} (hc : Z.calm sb n) (hz : ∀ m, m < S → at4 (Z.get ((base + m : Nat) : Int)) = 0) (hS : 1 ≤ S) (hf : base + S ≤ n) (hn : n ≤ 8192) (r1 : 1 ≤ run) (r2 : run < 4294967296) :
    ∃ ρ', Wi (Z.lmend ⟨q, base, S, run, [], 0, false⟩).2.1 sb n ⟨q, base, S, run, [], 0, false⟩ ρ' ∧ (Z.lmend ⟨q, base, S, run, [], 0, false⟩).1 = 0 ∧ (Z.lmend ⟨q, base, S, run, [], 0, false⟩).2.2 = ⟨q, base, S, run, [], 0, false⟩ ∧ (Z.lmend ⟨q, base, S, run, [], 0, false⟩).2.1.es = [] := by
  refine mend_wi (ρ := fun _ => 1) hc ⟨hS, hf, hn, r1, r2, Nat.le_refl _, by simp⟩ rfl rfl (fun m a => ?_) (fun m => ?_) (fun m => by decide) (fun m _ => r1) (fun m a _ => ?_)
  · simp at a
  · unfold prv; split <;> exact Nat.le_refl _
  · show at4 (Z.get ((base + m : Nat) : Int)) < run
    rw [hz m a]
    exact r1
/-- A log that was left is found as far as it lasts, in a greater run. -/
theorem found_wi {Z : Dk} {sb n : Nat} {G : Lg} {ρ : Nat → Nat} (h : Wi Z sb n G ρ) {q run : Nat} (hr : G.run ≤ run) (hw : whole (G.all.take G.durable) = G.durable) :
    Z.found q G.base G.sectors run = ⟨q, G.base, G.sectors, run, G.all.take G.durable, G.durable, false⟩ := by
  unfold Dk.found
  rw [scan_wi h hr, hw, List.take_take, Nat.min_self]
theorem mend_again {Z : Dk} {sb n : Nat} {G : Lg} {ρ : Nat → Nat} (h : Wi Z sb n G ρ) {q run : Nat} (hr : G.run < run) (r2 : run < 4294967296) :
    ∃ ρ', Wi (Z.lmend ⟨q, G.base, G.sectors, run, G.all.take G.durable, G.durable, false⟩).2.1 sb n ⟨q, G.base, G.sectors, run, G.all.take G.durable, G.durable, false⟩ ρ' ∧ (Z.lmend ⟨q, G.base, G.sectors, run, G.all.take G.durable, G.durable, false⟩).1 = 0 ∧
      (Z.lmend ⟨q, G.base, G.sectors, run, G.all.take G.durable, G.durable, false⟩).2.2 = ⟨q, G.base, G.sectors, run, G.all.take G.durable, G.durable, false⟩ ∧ (Z.lmend ⟨q, G.base, G.sectors, run, G.all.take G.durable, G.durable, false⟩).2.1.es = [] := by
  have hok := h.ok
  have hdu := hok.du
  have hle := hok.le
  have hl : (G.all.take G.durable).length = G.durable := by rw [List.length_take]; omega
  refine mend_wi (ρ := ρ) h.calm ⟨hok.s1, hok.fit, hok.n1, Nat.le_trans hok.r1 (Nat.le_of_lt hr), r2, by dsimp only; rw [hl]; omega, by dsimp only; rw [hl]; omega⟩ rfl hl.symm (fun m a b c => ?_) h.tells.mono h.tells.lt (fun m a => ?_) (fun m a b => ?_)
  · dsimp only at a b c ⊢
    exact h.tells.secs m (by rw [hl]; exact a) b
  · dsimp only at a ⊢
    exact Nat.le_trans (h.top m (by omega)) (Nat.le_of_lt hr)
  · dsimp only at a b ⊢
    exact Nat.lt_trans (h.fresh m a (by omega)) hr
end Go.Sp
/- The log on a disk that nothing lets go: its calls. -/
namespace Go.Sp
open Go Go.Proofs
set_option linter.unusedSimpArgs false
set_option linter.unusedVariables false
set_option maxRecDepth 10000
theorem at4_nil : at4 (wh []) = 0 := by decide
theorem new_get {sb bb mb n j : Nat} (h : j < n) : (Dk.new sb bb mb n).get (j : Int) = wh [] := by
  unfold Dk.get Dk.new
  simp [gk, h]
theorem wopen0 {Z : Dk} {sb n : Nat} (hc : Z.calm sb n) {base S run : Nat} (hz : ∀ m, m < S → at4 (Z.get ((base + m : Nat) : Int)) = 0) (hS : 1 ≤ S) (hf : base + S ≤ n) (hn : n ≤ 8192) (r1 : 1 ≤ run) (r2 : run < 4294967296) :
    Fn (eT2 eP eI) Tryz.prog 17 #[.pointer (some ⟨sb, 0, none⟩), .int .i64 (base : Int), .int .i64 (S : Int), .int .i64 (run : Int)] [dk Z] fun y X => ∃ (q : Nat) (Y : Dk) (ρ : Nat → Nat), y = (some ⟨q, 0, none⟩, 0) ∧ X = [lgp ⟨q, base, S, run, [], 0, false⟩ sb, dk Y] ∧ Wi Y sb n ⟨q, base, S, run, [], 0, false⟩ ρ ∧ Y.es = [] := fun L w hw => by
  have F := g17 Z hc.ok (base : Int) (S : Int) (run : Int) (by unfold wf64; omega) (by unfold wf64; omega)
  rw [hc.sb] at F
  refine (F L w hw).mono ?_
  rintro _ w' ⟨y, he, X, hX, hW⟩
  have e0 : lchk Z.sure.length (base : Int) (S : Int) (run : Int) = 0 := by
    unfold lchk
    rw [hc.n, if_neg (by omega), if_neg (by omega)]
  rw [if_pos e0, if_pos hc.up] at hX
  obtain ⟨q, b, k, r, e1, e2, e3, hok, h⟩ := hX
  obtain rfl : b = base := by omega
  obtain rfl : k = S := by omega
  obtain rfl : r = run := by omega
  rw [found_zero (by have := hz 0 (by omega); simpa using this) hS] at h
  obtain ⟨ρ, m1, m2, m3, m4⟩ := mend_zero (q := q) hc hz hS hf hn r1 r2
  rw [if_pos m2, m3] at h
  exact ⟨y, he, X, ⟨q, _, ρ, h.1, h.2, m1, m4⟩, hW⟩
theorem wopen {Z : Dk} {sb n : Nat} {G : Lg} {ρ : Nat → Nat} (h : Wi Z sb n G ρ) {run : Nat} (hr : G.run < run) (r2 : run < 4294967296) (hw : whole (G.all.take G.durable) = G.durable) :
    Fn (eT2 eP eI) Tryz.prog 17 #[.pointer (some ⟨sb, 0, none⟩), .int .i64 (G.base : Int), .int .i64 (G.sectors : Int), .int .i64 (run : Int)] [dk Z] fun y X => ∃ (q : Nat) (Y : Dk) (ρ' : Nat → Nat), y = (some ⟨q, 0, none⟩, 0) ∧ X = [lgp ⟨q, G.base, G.sectors, run, G.all.take G.durable, G.durable, false⟩ sb, dk Y] ∧ Wi Y sb n ⟨q, G.base, G.sectors, run, G.all.take G.durable, G.durable, false⟩ ρ' ∧ Y.es = [] := fun L w hw' => by
  have hc := h.calm
  have hok := h.ok
  have hfit := hok.fit
  have hn1 := hok.n1
  have hs1 := hok.s1
  have F := g17 Z hc.ok (G.base : Int) (G.sectors : Int) (run : Int) (by unfold wf64; omega) (by unfold wf64; omega)
  rw [hc.sb] at F
  refine (F L w hw').mono ?_
  rintro _ w' ⟨y, he, X, hX, hW⟩
  have e0 : lchk Z.sure.length (G.base : Int) (G.sectors : Int) (run : Int) = 0 := by
    unfold lchk
    rw [hc.n, if_neg (by omega), if_neg (by omega)]
  rw [if_pos e0, if_pos hc.up] at hX
  obtain ⟨q, b, k, r, e1, e2, e3, _, h4⟩ := hX
  obtain rfl : b = G.base := by omega
  obtain rfl : k = G.sectors := by omega
  obtain rfl : r = run := by omega
  rw [found_wi h (Nat.le_of_lt hr) hw] at h4
  obtain ⟨ρ', m1, m2, m3, m4⟩ := mend_again h (q := q) hr r2
  rw [if_pos m2, m3] at h4
  exact ⟨y, he, X, ⟨q, _, ρ', h4.1, h4.2, m1, m4⟩, hW⟩
theorem wappend {Z : Dk} {sb n : Nat} {G : Lg} {ρ : Nat → Nat} (h : Wi Z sb n G ρ) (A : HP) (r : api_Rec) (c : Rc) (hr : RcAt A r c) :
    Fq (eT2 eI eI) Tryz.prog 20 #[G.p, v_api_Rec r] [lgp G sb, A] [lgp (G.append c).2 sb, A] (G.append c).1 := by
  have hfit := h.ok.fit
  have hn1 := h.ok.n1
  exact g20 G sb h.ok.le (by omega) A r c hr
/-- What a record that is appended makes of a log that is not dead. -/
theorem append_is {G : Lg} (hd : G.dead = false) (c : Rc) : G.append c = if c.frame.2 = 0 then (if G.all.length + c.frame.1.length ≤ 58 * G.sectors then ((((G.all.length + 1 : Nat) : Int), 0), { G with all := G.all ++ c.frame.1 }) else ((0, 7), G)) else ((0, c.frame.2), G) := by
  unfold Lg.append Lg.add
  rw [if_neg (by rw [hd]; decide)]
  by_cases h0 : c.frame.2 = 0
  · rw [if_pos h0, if_pos h0]
    by_cases hq : G.all.length + c.frame.1.length ≤ 58 * G.sectors
    · rw [if_pos hq, if_neg (by omega)]
    · rw [if_neg hq, if_pos (by omega)]
  · rw [if_neg h0, if_neg h0]
theorem Wi.app {Z : Dk} {sb n : Nat} {G : Lg} {ρ : Nat → Nat} (h : Wi Z sb n G ρ) (c : Rc) : Wi Z sb n (G.append c).2 ρ := by
  rw [append_is h.dead]
  split
  · split
    · exact h.append (by assumption)
    · exact h
  · exact h
theorem wflush {Z : Dk} {sb n : Nat} {G : Lg} {ρ : Nat → Nat} (h : Wi Z sb n G ρ) :
    ∃ (Y : Dk) (ρ' : Nat → Nat), Fq eI Tryz.prog 21 #[G.p] [lgp G sb, dk Z] [lgp { G with durable := G.all.length } sb, dk Y] 0 ∧ Wi Y sb n { G with durable := G.all.length } ρ' ∧ (Z.es = [] → Y.es = []) := by
  obtain ⟨ρ', hW⟩ := h.flush
  obtain ⟨l1, l2, _, l4, l5, _⟩ := lflush_calm h.calm h.ok h.dead
  refine ⟨_, ρ', ?_, hW, fun he => ?_⟩
  · have F := g21 G Z h.calm.ok (by rw [h.calm.n]; exact h.ok)
    rw [l1, l2, h.calm.sb] at F
    exact F
  · have hdu := h.ok.du
    rcases Nat.lt_or_ge G.durable G.all.length with x | x
    · exact l4 x
    · rw [l5 (by omega)]; exact he
end Go.Sp
/- What a law's arguments are: structs that hold slices of flat values, and slices of such structs, read as they lie. -/
namespace Go.Sp
open Go
inductive Ln
  | f (l : Lf)
  | sl (sz : Nat) (ks : List Lf)
def lnOk (w : World) : Ln → Value → Prop
  | .f l, v => lfOk l v
  | .sl sz ks, v => ∃ (s : SlV) (css : List (List Value)), v = .slice s.1 s.2.1 s.2.2 ∧ Rs (old w) s sz css.flatten ∧ (∀ c ∈ css, lfs ks c) ∧ s.2.1 ≤ s.2.2
def lns (w : World) : List Ln → List Value → Prop
  | [], [] => True
  | k :: ks, v :: vs => lnOk w k v ∧ lns w ks vs
  | _, _ => False
def shNs (P : Program) (sh : TypeId → Option (List Ln)) : List Field → Nat → Option (List Ln)
  | [], _ => some []
  | f :: fs, off => match Nat.beq f.offset off, sh f.type with
    | true, some a => match Nat.beq (P.cellsOf f.type) a.length, shNs P sh fs (off + a.length) with
      | true, some r => some (a ++ r)
      | _, _ => none
    | _, _ => none
def shapeN (P : Program) : Nat → TypeId → Option (List Ln)
  | 0, _ => none
  | n + 1, t => match P.underlying t with
    | some (.int k) => some [.f (.i k)]
    | some .string => some [.f .s]
    | some .bool => some [.f .b]
    | some (.slice e) => match shape P 8 e with
      | some ks => match Nat.beq (P.cellsOf e) ks.length with
        | true => some [.sl ks.length ks]
        | false => none
      | none => none
    | some (.struct fs) => match shNs P (shapeN P n) fs.toList 0 with
      | some r => match Nat.beq (P.cellsOf t) r.length with
        | true => some r
        | false => none
      | none => none
    | _ => none
theorem lns_append {w : World} : ∀ {a b : List Ln} {u v : List Value}, lns w a u → lns w b v → lns w (a ++ b) (u ++ v)
  | [], _, [], _, _, h => h
  | _ :: _, _, _ :: _, _, h, h' => ⟨h.1, lns_append h.2 h'⟩
  | [], _, _ :: _, _, h, _ => h.elim
  | _ :: _, _, [], _, h, _ => h.elim
section
variable {H : Type} {enc : TypeId × Value → H} {P : Program} {w : World} {base : Nat} {spare : Nat → Bool} {held : Bool}
theorem shapeN_ok : ∀ (n : Nat) (t : TypeId) (ks : List Ln), shapeN P n t = some ks → ∀ (fuel : Nat) (cs : List Value) (x : DataW H × List MemPlace), DataW.trod enc P w base spare held fuel t cs = some x → lns w ks cs
  | 0, _, _, h, _, _, _, _ => by cases h
  | n + 1, t, ks, h, fuel, cs, x, hx => by
    unfold shapeN at h
    split at h
    · rename_i k ht
      cases h
      obtain ⟨m, rfl, _, hw⟩ := DataW.trod_int ht hx
      exact ⟨⟨m, rfl, hw⟩, trivial⟩
    · rename_i ht
      cases h
      obtain ⟨s, rfl, _, hs⟩ := DataW.trod_string ht hx
      exact ⟨⟨s.data.toList, rfl, by simpa using hs⟩, trivial⟩
    · rename_i ht
      cases h
      obtain ⟨b, rfl, _⟩ := DataW.trod_bool ht hx
      exact ⟨⟨b, rfl⟩, trivial⟩
    · rename_i e ht
      split at h
      · rename_i r hr
        split at h
        · rename_i he
          cases h
          have hsz := Nat.eq_of_beq_eq_true he
          have hcs : ∃ v, cs = [v] ∧ v.cells.toList = [v] := by
            rcases Deep.open_slice ht hx with ⟨h1, _⟩ | ⟨a, len, cap, _, _, _, _, h1, _⟩
            · exact ⟨_, h1, rfl⟩
            · exact ⟨_, h1, rfl⟩
          obtain ⟨v, rfl, hv⟩ := hcs
          obtain ⟨d, p⟩ := x
          obtain ⟨s, l, h1, h2, h3, h4, h5, _⟩ := open_slice_flat (α := { c : List Value // c.length = r.length }) (cel := fun c => c.1) (Q := fun c => lfs r c.1) (sz := r.length) (d := d) (p := p) ht hr hsz (fun c => c.2) hv (fun cs hc => ⟨⟨cs, lfs_len hc⟩, rfl, hc⟩) ⟨fuel, by rw [hv]; exact hx⟩
          refine ⟨⟨s, l.map fun c => c.1, h1, ?_, ?_, h5.2⟩, trivial⟩
          · rw [List.flatMap_def] at h2; exact h2
          · intro c hc
            obtain ⟨y, hy, rfl⟩ := List.mem_map.1 hc
            exact h4 y hy
        · cases h
      · cases h
    · rename_i fs ht
      obtain ⟨xs, m, _, _, hl, hlen, hf⟩ := DataW.trod_struct ht hx
      have each : ∀ f ∈ fs.toList, ∃ y, DataW.trod enc P w base spare held m f.type ((cs.drop f.offset).take (P.cellsOf f.type)) = some y := by
        intro f hf'
        obtain ⟨i, hi, rfl⟩ := List.getElem_of_mem hf'
        have hi' : i < fs.size := by simpa using hi
        have := hf i fs[i] (by simp [hi'])
        rw [List.getElem?_eq_getElem (by omega)] at this
        exact ⟨_, this⟩
      have go : ∀ (gs : List Field) (off : Nat) (r : List Ln), shNs P (shapeN P n) gs off = some r → (∀ f ∈ gs, ∃ y, DataW.trod enc P w base spare held m f.type ((cs.drop f.offset).take (P.cellsOf f.type)) = some y) →
          off + r.length ≤ cs.length → lns w r ((cs.drop off).take r.length) := by
        intro gs
        induction gs with
        | nil => intro off r hr _ _; simp only [shNs, Option.some.injEq] at hr; subst hr; simp [lns]
        | cons g gs ih =>
          intro off r hr hy hle
          unfold shNs at hr
          split at hr
          · rename_i a h1 h2
            split at hr
            · rename_i r' h3 h4
              simp only [Option.some.injEq] at hr
              subst hr
              have e1 := Nat.eq_of_beq_eq_true h1
              have e3 := Nat.eq_of_beq_eq_true h3
              obtain ⟨y, hy'⟩ := hy g (by simp)
              have hA := shapeN_ok n g.type a h2 m _ y hy'
              rw [e1, e3] at hA
              simp only [List.length_append] at hle
              have hB := ih (off + a.length) r' h4 (fun f hf => hy f (by simp [hf])) (by omega)
              have := lns_append hA hB
              rwa [show ((cs.drop off).take a.length) ++ ((cs.drop (off + a.length)).take r'.length) = (cs.drop off).take (a ++ r').length by
                rw [List.length_append, List.take_add, List.drop_drop]] at this
            · cases hr
          · cases hr
      split at h
      · rename_i r hr
        split at h
        · rename_i he
          cases h
          have e := Nat.eq_of_beq_eq_true he
          have := go fs.toList 0 ks hr each (by omega)
          simpa [show ks.length = cs.length by omega] using this
        · cases h
      · cases h
    · cases h
/-- An argument that is a slice of structs that hold slices. -/
theorem open_slice_n {α : Type} {cel : α → List Value} {Q : α → Prop} {sz : Nat} {t e : TypeId} {v : Value} {d : DataW H} {p : List MemPlace} {ks : List Ln} (ht : P.underlying t = some (.slice e)) (hk : shapeN P 8 e = some ks) (hsz : P.cellsOf e = sz) (hc : ∀ x, (cel x).length = sz)
    (hv : v.cells.toList = [v]) (hof : ∀ cs, lns w ks cs → ∃ x, cs = cel x ∧ Q x) (h : DataW.Trod enc P w base spare held t v d p) :
    ∃ (s : SlV) (l : List α), v = .slice s.1 s.2.1 s.2.2 ∧ Rs (old w) s sz (l.flatMap cel) ∧ s.2.1 = l.length ∧ (∀ x ∈ l, Q x) ∧ (l.length ≤ maxLen ∧ s.2.1 ≤ s.2.2) := by
  obtain ⟨fuel, h⟩ := h
  rw [hv] at h
  rcases Deep.open_slice ht h with ⟨h1, h2⟩ | ⟨a, len, cap, m, n, D, Pl, h1, hb, hl, hm, hmm, hx, hi⟩
  · have : v = .slice none 0 0 := by simpa using h1
    subst this
    exact ⟨(none, 0, 0), [], rfl, ⟨by simp, by simp, by simp⟩, rfl, by simp, ⟨by simp, by simp⟩⟩
  · have : v = .slice (some a) len cap := by simpa using h1
    subst this
    have hle : len ≤ m := by rw [hmm]; split <;> omega
    have each : ∀ i, i < len → ∃ x, w.cells? base (a.add (i * sz)) sz = some (cel x) ∧ Q x := by
      intro i hlt
      obtain ⟨cs', e1, e2⟩ := hi i (by omega)
      obtain ⟨x, rfl, hq⟩ := hof cs' (shapeN_ok 8 e ks hk _ _ _ e2)
      rw [hsz] at e1
      exact ⟨x, e1, hq⟩
    have build : ∀ k, k ≤ len → ∃ l : List α, l.length = k ∧ (∀ i x, l[i]? = some x → w.cells? base (a.add (i * sz)) sz = some (cel x) ∧ Q x) := by
      intro k
      induction k with
      | zero => exact fun _ => ⟨[], rfl, by simp⟩
      | succ k ih =>
        intro hk'
        obtain ⟨l, hl1, hl2⟩ := ih (by omega)
        obtain ⟨x, hx1, hx2⟩ := each k (by omega)
        refine ⟨l ++ [x], by simp [hl1], fun i y hy => ?_⟩
        rcases Nat.lt_or_ge i l.length with h | h
        · rw [List.getElem?_append_left h] at hy; exact hl2 i y hy
        · rw [List.getElem?_append_right h] at hy
          have : i = k := by
            rcases Nat.eq_or_lt_of_le h with h' | h'
            · omega
            · rw [List.getElem?_eq_none (by simp; omega)] at hy; cases hy
          subst this
          simp only [hl1, Nat.sub_self, List.getElem?_cons_zero, Option.some.injEq] at hy
          subst hy
          exact ⟨hx1, hx2⟩
    obtain ⟨l, hl1, hl2⟩ := build len (Nat.le_refl _)
    refine ⟨(some a, len, cap), l, rfl, ⟨?_, by simp, ?_⟩, hl1.symm, ?_, ⟨by omega, hl⟩⟩
    · rw [flat_len hc, hl1]
    · intro a' ha' q hq j u hj
      have : a' = a := by simpa using ha'.symm
      subst this
      have hlt : j < l.length * sz := by
        rcases Nat.lt_or_ge j (l.length * sz) with h | h
        · exact h
        · rw [List.getElem?_eq_none (by rw [flat_len hc]; exact h)] at hj; cases hj
      have hs : 0 < sz := by
        rcases Nat.eq_zero_or_pos sz with h | h
        · subst h; simp at hlt
        · exact h
      have hi1 : j / sz < l.length := Nat.div_lt_of_lt_mul (by rw [Nat.mul_comm]; exact hlt)
      have hx1 : l[j / sz]? = some l[j / sz] := by simp [hi1]
      obtain ⟨e1, _⟩ := hl2 _ _ hx1
      have hmod := Nat.mod_lt j hs
      have hdiv : j / sz * sz + j % sz = j := by rw [Nat.mul_comm]; exact Nat.div_add_mod j sz
      have hu : (cel l[j / sz])[j % sz]? = some u := by
        have e2 : (cel l[j / sz])[j % sz]? = some ((cel l[j / sz])[j % sz]'(by rw [hc]; exact hmod)) := by simp [hc, hmod]
        have := flat_get hc l _ _ hx1 _ _ e2
        rw [hdiv, hj] at this
        rw [e2, this]
      have := (cells_get e1).2 _ _ hu
      rw [Deep.add_add, hdiv] at this
      exact pc_old hq this
    · intro x hx'
      obtain ⟨i, hi', rfl⟩ := List.getElem_of_mem hx'
      exact (hl2 i _ (by simp [hi'])).2
end
end Go.Sp
/- Records as arguments. -/
namespace Go.Sp
open Go Go.Proofs
set_option linter.unusedSimpArgs false
set_option linter.unusedVariables false
theorem lift_list {α : Type} {cel : α → List Value} {P : List Value → Prop} : ∀ (css : List (List Value)), (∀ c ∈ css, P c) → (∀ c, P c → ∃ x, c = cel x) → ∃ l : List α, css.flatten = l.flatMap cel
  | [], _, _ => ⟨[], rfl⟩
  | c :: css, h, hf => by
    obtain ⟨x, rfl⟩ := hf c (h c (by simp))
    obtain ⟨l, e⟩ := lift_list css (fun d hd => h d (by simp [hd])) hf
    exact ⟨x :: l, by simp [e]⟩
/-- A record that lies in what was there: its lists are read, and no list has less room than it is long. -/
def RcOk (A : HP) (r : api_Rec) : Prop := ∃ (is : List api_Image) (tb : List api_Active), Rs A r.Images 2 (is.flatMap cImg) ∧ Rs A r.Table 2 (tb.flatMap cAct) ∧ r.Images.2.1 ≤ r.Images.2.2 ∧ r.Table.2.1 ≤ r.Table.2.2
abbrev recKs : List Ln := [.f (.i .i64), .f (.i .i64), .f (.i .i64), .f (.i .i64), .f (.i .i64), .f .s, .f .s, .f .s, .f (.i .i64), .sl 2 [.i .i64, .s], .sl 2 [.i .i64, .i .i64], .f (.i .i64), .f (.i .i64)]
theorem rec_of {w : World} : ∀ cs, lns w recKs cs → ∃ r : api_Rec, cs = rcl r ∧ RcOk (old w) r := fun cs h => by
  rcases cs with _ | ⟨v1, _ | ⟨v2, _ | ⟨v3, _ | ⟨v4, _ | ⟨v5, _ | ⟨v6, _ | ⟨v7, _ | ⟨v8, _ | ⟨v9, _ | ⟨v10, _ | ⟨v11, _ | ⟨v12, _ | ⟨v13, _ | ⟨v14, cs⟩⟩⟩⟩⟩⟩⟩⟩⟩⟩⟩⟩⟩⟩ <;> simp only [lns, and_false, false_and, and_true] at h
  obtain ⟨⟨n1, rfl, _⟩, ⟨n2, rfl, _⟩, ⟨n3, rfl, _⟩, ⟨n4, rfl, _⟩, ⟨n5, rfl, _⟩, ⟨n6, rfl, _⟩, ⟨n7, rfl, _⟩, ⟨n8, rfl, _⟩, ⟨n9, rfl, _⟩, ⟨s1, c1, rfl, a1, a2, a3⟩, ⟨s2, c2, rfl, b1, b2, b3⟩, ⟨n12, rfl, _⟩, ⟨n13, rfl, _⟩⟩ := h
  obtain ⟨is, e1⟩ := lift_list (cel := cImg) c1 a2 (fun c hc => by
    rcases c with _ | ⟨u1, _ | ⟨u2, _ | ⟨u3, c⟩⟩⟩ <;> simp only [lfs, and_false, false_and, and_true] at hc
    obtain ⟨⟨m1, rfl, _⟩, ⟨m2, rfl, _⟩⟩ := hc
    exact ⟨⟨m1, m2⟩, rfl⟩)
  obtain ⟨tb, e2⟩ := lift_list (cel := cAct) c2 b2 (fun c hc => by
    rcases c with _ | ⟨u1, _ | ⟨u2, _ | ⟨u3, c⟩⟩⟩ <;> simp only [lfs, and_false, false_and, and_true] at hc
    obtain ⟨⟨m1, rfl, _⟩, ⟨m2, rfl, _⟩⟩ := hc
    exact ⟨⟨m1, m2⟩, rfl⟩)
  rw [e1] at a1
  rw [e2] at b1
  exact ⟨⟨n1, n2, n3, n4, n5, n6, n7, n8, n9, s1, s2, n12, n13⟩, rfl, is, tb, a1, b1, a3, b3⟩
theorem rcl_len (r : api_Rec) : (rcl r).length = 13 := rfl
theorem few_fn {A : HP} {r : api_Rec} (h : RcOk A r) : Fp e_api_Rec Tryz.prog 19 #[v_api_Rec r] [] (fewr r) := by
  obtain ⟨_, _, _, _, c, d⟩ := h
  exact g19 r c d
/-- What few leaves of it. -/
theorem few_ok {A : HP} {r : api_Rec} (h : RcOk A r) : ∃ c, RcAt A (fewr r) c := by
  obtain ⟨is, tb, a, b, c, d⟩ := h
  exact ⟨_, few_at a b c d⟩
end Go.Sp
/- The log's layer: its example. -/
namespace Go.Sp
open Go Go.Proofs
set_option linter.unusedSimpArgs false
set_option linter.unusedVariables false
set_option maxRecDepth 10000
theorem i_sj {e : Enc} {L L' : List HP} {A : HP} {α : Type} {cel : α → List Value} {a : Addr} {n c sz i j : Nat} {xs : List α} {x : α} {k : e.α → W} {y : e.α} (hR : Rs A (some a, n, c) sz (xs.flatMap cel)) (hc : ∀ x, (cel x).length = sz) (hx : xs[i]? = some x) [ha : AX L A L'] (hv : (cel x)[j]? = some (e.enc y)) (h : E L (k y)) : E L (ld e ((a.add (i * sz)).add j) k) :=
  r_sj hR hc hx ha.p hv h
theorem RL.two {S : HP} {rs : List api_Rec} {a b : Rc} (h : RL S rs [a, b]) : ∃ r s, rs = [r, s] ∧ RcAt S s b := by
  have hn := h.n
  match rs, hn with
  | [r, s], _ => exact ⟨r, s, rfl, h.g 1 s b rfl rfl⟩
set_option maxHeartbeats 1000000 in
theorem g15 : Fp eB Tryz.prog 15 #[] [] true := fun L => by
  refine c15_fn rfl rfl ?_
  repeat' ((fail_if_success with_reducible refine nph ?_); first | (with_reducible first | (refine d_seq ?_; intro K hK) | (refine hK _ _ ?_; clear hK K) | (refine SG.p ?_; try intro b)) | ((with_reducible refine SC.p ?_); refine And.intro ?_ ?_) <;> intro hc <;> try simp only [push_cast, Int.reduceEq, Int.reduceLT, Int.reduceLE, Int.reduceNe] at hc | with_reducible refine r_rq (by first | decide | omega) ?_ | ((with_reducible refine SL.p ?_); first | refine ⟨_, rfl, ?_⟩ | refine ⟨_, _, _, rfl, ?_⟩ | (refine ⟨?_, rfl, ?_⟩; focus (simp; done))) | ((with_reducible first | apply i_ldn | apply i_ldnq); exact rfl; exact rfl; exact rfl) | ((try with_reducible refine d_reg ?_); simp only [go_sem, Nat.reduceAdd, Nat.reduceEqDiff, Int.reduceToNat, Nat.reduceMul, Nat.reduceSub]) | clear hK K)
  refine i_cal (F25 20 (by decide) (by decide)) ?_
  rintro y X ⟨sb, bb, mb, rfl, rfl⟩
  have hc0 : (Dk.new sb bb mb 20).calm sb 20 := Dk.calm.new (by decide) (by decide)
  have hz : ∀ m, m < 10 → at4 ((Dk.new sb bb mb 20).get ((1 + m : Nat) : Int)) = 0 := fun m hm => by rw [new_get (by omega)]; exact at4_nil
  generalize Dk.new sb bb mb 20 = Z at *
  repeat' ((fail_if_success with_reducible refine nph ?_); first | (with_reducible first | (refine d_seq ?_; intro K hK) | (refine hK _ _ ?_; clear hK K) | (refine SG.p ?_; try intro b)) | ((with_reducible refine SC.p ?_); refine And.intro ?_ ?_) <;> intro hc <;> try simp only [push_cast, Int.reduceEq, Int.reduceLT, Int.reduceLE, Int.reduceNe] at hc | with_reducible refine r_rq (by first | decide | omega) ?_ | ((with_reducible refine SL.p ?_); first | refine ⟨_, rfl, ?_⟩ | refine ⟨_, _, _, rfl, ?_⟩ | (refine ⟨?_, rfl, ?_⟩; focus (simp; done))) | ((with_reducible first | apply i_ldn | apply i_ldnq); exact rfl; exact rfl; exact rfl) | ((try with_reducible refine d_reg ?_); simp only [go_sem, Nat.reduceAdd, Nat.reduceEqDiff, Int.reduceToNat, Nat.reduceMul, Nat.reduceSub]) | clear hK K)
  all_goals try contradiction
  refine i_cal (wopen0 hc0 hz (by decide) (by decide) (by decide) (by decide : 1 ≤ 1) (by decide)) ?_
  rintro y X ⟨q, Y, ρ, rfl, rfl, hW, hE⟩
  repeat' ((fail_if_success with_reducible refine nph ?_); first | (with_reducible first | (refine d_seq ?_; intro K hK) | (refine hK _ _ ?_; clear hK K) | (refine SG.p ?_; try intro b)) | ((with_reducible refine SC.p ?_); refine And.intro ?_ ?_) <;> intro hc <;> try simp only [push_cast, Int.reduceEq, Int.reduceLT, Int.reduceLE, Int.reduceNe] at hc | with_reducible refine r_rq (by first | decide | omega) ?_ | ((with_reducible refine SL.p ?_); first | refine ⟨_, rfl, ?_⟩ | refine ⟨_, _, _, rfl, ?_⟩ | (refine ⟨?_, rfl, ?_⟩; focus (simp; done))) | ((with_reducible first | apply i_ldn | apply i_ldnq); exact rfl; exact rfl; exact rfl) | ((try with_reducible refine d_reg ?_); simp only [go_sem, Nat.reduceAdd, Nat.reduceEqDiff, Int.reduceToNat, Nat.reduceMul, Nat.reduceSub]) | clear hK K)
  all_goals try contradiction
  obtain ⟨f1, c1, l1⟩ := cm_frame (n := 1) ⟨by decide, by decide⟩
  obtain ⟨f2, c2, l2⟩ := cm_frame (n := 2) ⟨by decide, by decide⟩
  obtain ⟨f3, c3, l3⟩ := cm_frame (n := 3) ⟨by decide, by decide⟩
  have e1 : (⟨q, 1, 10, 1, [], 0, false⟩ : Lg).append (cm 1) = ((1, 0), ⟨q, 1, 10, 1, f1, 0, false⟩) := by
    rw [append_is rfl, c1]
    simp [l1]
  have A1 := wappend hW (dk Y) _ _ (cm_at (dk Y) 1)
  have W1 := hW.app (cm 1)
  rw [e1] at A1 W1
  dsimp only at W1
  have e2 : (⟨q, 1, 10, 1, f1, 0, false⟩ : Lg).append (cm 2) = ((20, 0), ⟨q, 1, 10, 1, f1 ++ f2, 0, false⟩) := by
    rw [append_is rfl, c2]
    simp [l1, l2]
  have A2 := wappend W1 (dk Y) _ _ (cm_at (dk Y) 2)
  have W2 := W1.app (cm 2)
  rw [e2] at A2 W2
  dsimp only at W2
  obtain ⟨V, ρ3, F3, W3, hE3⟩ := wflush W2
  dsimp only at F3 W3
  have l12 : (f1 ++ f2).length = 38 := by rw [List.length_append, l1, l2]
  rw [l12] at F3 W3
  have e4 : (⟨q, 1, 10, 1, f1 ++ f2, 38, false⟩ : Lg).append (cm 3) = ((39, 0), ⟨q, 1, 10, 1, f1 ++ f2 ++ f3, 38, false⟩) := by
    rw [append_is rfl, c3]
    simp [l1, l2, l3]
  have A4 := wappend W3 (dk V) _ _ (cm_at (dk V) 3)
  have W4 := W3.app (cm 3)
  rw [e4] at A4 W4
  dsimp only at W4
  have C5 := calm_c W4.calm (by decide) 0
  have C6 := calm_o W4.calm 0
  have W6 := W4.off (hE3 hE) 0
  have hps : Prs [(f1, cm 1), (f2, cm 2)] := fun x hx => by
    simp only [List.mem_cons, List.not_mem_nil, or_false] at hx
    rcases hx with rfl | rfl
    · exact ⟨⟨Nat.zero_le _, Nat.zero_le _⟩, c1⟩
    · exact ⟨⟨Nat.zero_le _, Nat.zero_le _⟩, c2⟩
  have ht : (f1 ++ f2 ++ f3).take 38 = f1 ++ f2 := List.take_left' l12
  have hwh : whole (f1 ++ f2) = 38 := by
    have := whole_frs hps.frs
    simpa [l1, l2] using this
  have O7 := wopen W6 (run := 2) (Nat.lt_succ_self 1) (by decide) (by dsimp only; rw [ht]; exact hwh)
  dsimp only at O7
  rw [ht] at O7
  have hrec : recs (f1 ++ f2) = [(1, cm 1), (20, cm 2)] := by
    have := recs_prs hps
    simp only [List.map_cons, List.map_nil, List.flatten_cons, List.flatten_nil, List.append_nil] at this
    rw [this]
    simp only [rl, l1]
    rfl
  refine i_clp (g37 1) ?_
  refine i_clq A1 ?_
  repeat' ((fail_if_success with_reducible refine nph ?_); first | (with_reducible first | (refine d_seq ?_; intro K hK) | (refine hK _ _ ?_; clear hK K) | (refine SG.p ?_; try intro b)) | ((with_reducible refine SC.p ?_); refine And.intro ?_ ?_) <;> intro hc <;> try simp only [push_cast, Int.reduceEq, Int.reduceLT, Int.reduceLE, Int.reduceNe] at hc | with_reducible refine r_rq (by first | decide | omega) ?_ | ((with_reducible refine SL.p ?_); first | refine ⟨_, rfl, ?_⟩ | refine ⟨_, _, _, rfl, ?_⟩ | (refine ⟨?_, rfl, ?_⟩; focus (simp; done))) | ((with_reducible first | apply i_ldn | apply i_ldnq); exact rfl; exact rfl; exact rfl) | ((try with_reducible refine d_reg ?_); simp only [go_sem, Nat.reduceAdd, Nat.reduceEqDiff, Int.reduceToNat, Nat.reduceMul, Nat.reduceSub]) | clear hK K)
  refine i_clp (g37 2) ?_
  refine i_clq A2 ?_
  repeat' ((fail_if_success with_reducible refine nph ?_); first | (with_reducible first | (refine d_seq ?_; intro K hK) | (refine hK _ _ ?_; clear hK K) | (refine SG.p ?_; try intro b)) | ((with_reducible refine SC.p ?_); refine And.intro ?_ ?_) <;> intro hc <;> try simp only [push_cast, Int.reduceEq, Int.reduceLT, Int.reduceLE, Int.reduceNe] at hc | with_reducible refine r_rq (by first | decide | omega) ?_ | ((with_reducible refine SL.p ?_); first | refine ⟨_, rfl, ?_⟩ | refine ⟨_, _, _, rfl, ?_⟩ | (refine ⟨?_, rfl, ?_⟩; focus (simp; done))) | ((with_reducible first | apply i_ldn | apply i_ldnq); exact rfl; exact rfl; exact rfl) | ((try with_reducible refine d_reg ?_); simp only [go_sem, Nat.reduceAdd, Nat.reduceEqDiff, Int.reduceToNat, Nat.reduceMul, Nat.reduceSub]) | clear hK K)
  refine i_clq F3 ?_
  repeat' ((fail_if_success with_reducible refine nph ?_); first | (with_reducible first | (refine d_seq ?_; intro K hK) | (refine hK _ _ ?_; clear hK K) | (refine SG.p ?_; try intro b)) | ((with_reducible refine SC.p ?_); refine And.intro ?_ ?_) <;> intro hc <;> try simp only [push_cast, Int.reduceEq, Int.reduceLT, Int.reduceLE, Int.reduceNe] at hc | with_reducible refine r_rq (by first | decide | omega) ?_ | ((with_reducible refine SL.p ?_); first | refine ⟨_, rfl, ?_⟩ | refine ⟨_, _, _, rfl, ?_⟩ | (refine ⟨?_, rfl, ?_⟩; focus (simp; done))) | ((with_reducible first | apply i_ldn | apply i_ldnq); exact rfl; exact rfl; exact rfl) | ((try with_reducible refine d_reg ?_); simp only [go_sem, Nat.reduceAdd, Nat.reduceEqDiff, Int.reduceToNat, Nat.reduceMul, Nat.reduceSub]) | clear hK K)
  all_goals try contradiction
  refine i_clp (g37 3) ?_
  refine i_clq A4 ?_
  repeat' ((fail_if_success with_reducible refine nph ?_); first | (with_reducible first | (refine d_seq ?_; intro K hK) | (refine hK _ _ ?_; clear hK K) | (refine SG.p ?_; try intro b)) | ((with_reducible refine SC.p ?_); refine And.intro ?_ ?_) <;> intro hc <;> try simp only [push_cast, Int.reduceEq, Int.reduceLT, Int.reduceLE, Int.reduceNe] at hc | with_reducible refine r_rq (by first | decide | omega) ?_ | ((with_reducible refine SL.p ?_); first | refine ⟨_, rfl, ?_⟩ | refine ⟨_, _, _, rfl, ?_⟩ | (refine ⟨?_, rfl, ?_⟩; focus (simp; done))) | ((with_reducible first | apply i_ldn | apply i_ldnq); exact rfl; exact rfl; exact rfl) | ((try with_reducible refine d_reg ?_); simp only [go_sem, Nat.reduceAdd, Nat.reduceEqDiff, Int.reduceToNat, Nat.reduceMul, Nat.reduceSub]) | clear hK K)
  refine i_clq C5 ?_
  repeat' ((fail_if_success with_reducible refine nph ?_); first | (with_reducible first | (refine d_seq ?_; intro K hK) | (refine hK _ _ ?_; clear hK K) | (refine SG.p ?_; try intro b)) | ((with_reducible refine SC.p ?_); refine And.intro ?_ ?_) <;> intro hc <;> try simp only [push_cast, Int.reduceEq, Int.reduceLT, Int.reduceLE, Int.reduceNe] at hc | with_reducible refine r_rq (by first | decide | omega) ?_ | ((with_reducible refine SL.p ?_); first | refine ⟨_, rfl, ?_⟩ | refine ⟨_, _, _, rfl, ?_⟩ | (refine ⟨?_, rfl, ?_⟩; focus (simp; done))) | ((with_reducible first | apply i_ldn | apply i_ldnq); exact rfl; exact rfl; exact rfl) | ((try with_reducible refine d_reg ?_); simp only [go_sem, Nat.reduceAdd, Nat.reduceEqDiff, Int.reduceToNat, Nat.reduceMul, Nat.reduceSub]) | clear hK K)
  refine i_clq C6 ?_
  repeat' ((fail_if_success with_reducible refine nph ?_); first | (with_reducible first | (refine d_seq ?_; intro K hK) | (refine hK _ _ ?_; clear hK K) | (refine SG.p ?_; try intro b)) | ((with_reducible refine SC.p ?_); refine And.intro ?_ ?_) <;> intro hc <;> try simp only [push_cast, Int.reduceEq, Int.reduceLT, Int.reduceLE, Int.reduceNe] at hc | with_reducible refine r_rq (by first | decide | omega) ?_ | ((with_reducible refine SL.p ?_); first | refine ⟨_, rfl, ?_⟩ | refine ⟨_, _, _, rfl, ?_⟩ | (refine ⟨?_, rfl, ?_⟩; focus (simp; done))) | ((with_reducible first | apply i_ldn | apply i_ldnq); exact rfl; exact rfl; exact rfl) | ((try with_reducible refine d_reg ?_); simp only [go_sem, Nat.reduceAdd, Nat.reduceEqDiff, Int.reduceToNat, Nat.reduceMul, Nat.reduceSub]) | clear hK K)
  refine i_cal O7 ?_
  rintro y X ⟨q2, Y2, ρ2, rfl, rfl, hW2, hE2⟩
  repeat' ((fail_if_success with_reducible refine nph ?_); first | (with_reducible first | (refine d_seq ?_; intro K hK) | (refine hK _ _ ?_; clear hK K) | (refine SG.p ?_; try intro b)) | ((with_reducible refine SC.p ?_); refine And.intro ?_ ?_) <;> intro hc <;> try simp only [push_cast, Int.reduceEq, Int.reduceLT, Int.reduceLE, Int.reduceNe] at hc | with_reducible refine r_rq (by first | decide | omega) ?_ | ((with_reducible refine SL.p ?_); first | refine ⟨_, rfl, ?_⟩ | refine ⟨_, _, _, rfl, ?_⟩ | (refine ⟨?_, rfl, ?_⟩; focus (simp; done))) | ((with_reducible first | apply i_ldn | apply i_ldnq); exact rfl; exact rfl; exact rfl) | ((try with_reducible refine d_reg ?_); simp only [go_sem, Nat.reduceAdd, Nat.reduceEqDiff, Int.reduceToNat, Nat.reduceMul, Nat.reduceSub]) | clear hK K)
  all_goals try contradiction
  have hlen : (f1 ++ f2).length ≤ 1000000 := by omega
  have R8 := g25 ⟨q2, 1, 10, 2, f1 ++ f2, 38, false⟩ sb hlen
  dsimp only at R8
  rw [hrec] at R8
  refine i_cal R8 ?_
  rintro ⟨⟨p, n, c⟩, y2⟩ X ⟨S, rs, rfl, hRL⟩
  replace hRL : RL S rs [cm 1, cm 2] := hRL
  dsimp only [List.cons_append, List.nil_append]
  obtain ⟨r1, r2, rfl, hr⟩ := hRL.two
  have hr2 := hr.e
  have htx : r2.Txn = 2 := by
    have := congrArg Rc.txn hr2
    exact this.symm
  refine i_ow (t := 36) (sz := 13) (p, n, c) fun hR => ?_
  obtain rfl : n = 2 := hR.len rcl_len (by decide)
  obtain ⟨a, rfl⟩ := hR.ptr (by decide)
  repeat' ((fail_if_success with_reducible refine nph ?_); first | (with_reducible first | (refine d_seq ?_; intro K hK) | (refine hK _ _ ?_; clear hK K) | (refine SG.p ?_; try intro b)) | ((with_reducible refine SC.p ?_); refine And.intro ?_ ?_) <;> intro hc <;> try simp only [push_cast, Int.reduceEq, Int.reduceLT, Int.reduceLE, Int.reduceNe] at hc | with_reducible refine r_rq (by first | decide | omega) ?_ | ((with_reducible refine SL.p ?_); first | refine ⟨_, rfl, ?_⟩ | refine ⟨_, _, _, rfl, ?_⟩ | (refine ⟨?_, rfl, ?_⟩; focus (simp; done))) | ((with_reducible first | apply i_ldn | apply i_ldnq); exact rfl; exact rfl; exact rfl) | ((try with_reducible refine d_reg ?_); simp only [go_sem, Nat.reduceAdd, Nat.reduceEqDiff, Int.reduceToNat, Nat.reduceMul, Nat.reduceSub]) | clear hK K)
  all_goals try contradiction
  refine i_sj (i := 1) (j := 1) hR rcl_len (x := r2) rfl rfl ?_
  repeat' ((fail_if_success with_reducible refine nph ?_); first | (with_reducible first | (refine d_seq ?_; intro K hK) | (refine hK _ _ ?_; clear hK K) | (refine SG.p ?_; try intro b)) | ((with_reducible refine SC.p ?_); refine And.intro ?_ ?_) <;> intro hc <;> try simp only [push_cast, Int.reduceEq, Int.reduceLT, Int.reduceLE, Int.reduceNe] at hc | with_reducible refine r_rq (by first | decide | omega) ?_ | ((with_reducible refine SL.p ?_); first | refine ⟨_, rfl, ?_⟩ | refine ⟨_, _, _, rfl, ?_⟩ | (refine ⟨?_, rfl, ?_⟩; focus (simp; done))) | ((with_reducible first | apply i_ldn | apply i_ldnq); exact rfl; exact rfl; exact rfl) | ((try with_reducible refine d_reg ?_); simp only [go_sem, Nat.reduceAdd, Nat.reduceEqDiff, Int.reduceToNat, Nat.reduceMul, Nat.reduceSub]) | clear hK K)
  rw [htx]
  (with_reducible first | apply i_ret0 | apply i_ret2 | apply i_ret3 | apply i_ret); exact rfl
  rfl
end Go.Sp
/- The log on a disk that nothing lets go: what its sectors have behind Open, and behind Flush. -/
namespace Go.Sp
open Go Go.Proofs
set_option linter.unusedSimpArgs false
set_option linter.unusedVariables false
set_option maxRecDepth 10000
theorem get_len {Z : Dk} (h : Z.ok) (j : Nat) : (Z.get (j : Int)).length = 64 := by
  unfold Dk.get
  cases hg : gk Z.es (j : Int) with
  | none =>
    rw [Option.getD_none]
    refine wh_len ?_
    rw [List.getD_eq_getElem?_getD]
    rcases Nat.lt_or_ge (j : Int).toNat Z.sure.length with x | x
    · rw [List.getElem?_eq_getElem x]
      exact h.l64 _ (List.getElem_mem x)
    · rw [List.getElem?_eq_none x]
      simp
  | some v =>
    obtain ⟨x, hx, _, e⟩ := gk_mem hg
    have := h.e64 x hx
    rw [e] at this
    exact this
end Go.Sp
/- The log's law: what is owned, in part; frames one behind the other. -/
namespace Go.Sp
open Go Go.Proofs
set_option linter.unusedSimpArgs false
set_option linter.unusedVariables false
set_option maxRecDepth 10000
section
variable {L L' R : List HP} {G : W} {t : TypeId} {sz : Nat} {xs : List Value}
end
theorem frame_clean (c : Rc) : c.clean.frame = c.frame := by
  unfold Rc.frame
  rw [clean_idem]
abbrev PS := List (List UInt8 × Rc)
def flat (ps : PS) : List UInt8 := (ps.map (·.1)).flatten
def strs (ps : PS) : List Value := ps.map fun x => str x.1
abbrev l1 (q d : Nat) (r : Nat) (ps : PS) : Lg := ⟨q, 1, 30, r, flat ps, d, false⟩
theorem flat_app (a b : PS) : flat (a ++ b) = flat a ++ flat b := by simp [flat]
theorem flat_snoc (ps : PS) (f : List UInt8) (c : Rc) : flat (ps ++ [(f, c)]) = flat ps ++ f := by simp [flat]
theorem strs_snoc (ps : PS) (f : List UInt8) (c : Rc) : strs ps ++ [str f] = strs (ps ++ [(f, c)]) := by simp [strs]
theorem Prs.snoc {ps : PS} (h : Prs ps) {f : List UInt8} {c : Rc} (hs : c.short) (hc : c.frame = (f, 0)) : Prs (ps ++ [(f, c)]) := fun x hx => by
  rcases List.mem_append.1 hx with h1 | h1
  · exact h x h1
  · obtain rfl : x = (f, c) := by simpa using h1
    exact ⟨hs, hc⟩
theorem Prs.take {ps : PS} (h : Prs ps) (k : Nat) : Prs (ps.take k) := fun x hx => h x (List.mem_of_mem_take hx)
theorem flat_whole {ps : PS} (h : Prs ps) : whole (flat ps) = (flat ps).length := whole_frs h.frs
theorem flat_take (ps : PS) (k : Nat) : (flat ps).take (flat (ps.take k)).length = flat (ps.take k) := by
  have e : flat ps = flat (ps.take k) ++ flat (ps.drop k) := by rw [← flat_app, List.take_append_drop]
  rw [e, List.take_left' rfl]
theorem flat_le (ps : PS) (k : Nat) : (flat (ps.take k)).length ≤ (flat ps).length := by
  have := congrArg List.length (flat_take ps k)
  rw [List.length_take] at this
  omega
theorem flat_next (ps : PS) {i : Nat} {x : List UInt8 × Rc} (hx : ps[i]? = some x) : (flat (ps.take (i + 1))).length = (flat (ps.take i)).length + x.1.length := by
  rw [List.take_add_one, hx]
  show (flat (ps.take i ++ [x])).length = _
  rw [flat_app, List.length_append]
  simp [flat]
theorem append_ok {G : Lg} {c : Rc} (hd : G.dead = false) (h1 : c.frame.2 = 0) (h2 : (G.append c).1.2 = 0) : (G.append c).2 = { G with all := G.all ++ c.frame.1 } ∧ G.all.length + c.frame.1.length ≤ 58 * G.sectors ∧ (G.append c).1.1 = ((G.all.length + 1 : Nat) : Int) := by
  rw [append_is hd, if_pos h1] at h2 ⊢
  by_cases hf : G.all.length + c.frame.1.length ≤ 58 * G.sectors
  · rw [if_pos hf]
    exact ⟨rfl, hf, rfl⟩
  · rw [if_neg hf] at h2
    cases h2
theorem append_no {G : Lg} {c : Rc} (hd : G.dead = false) (h : c.frame.2 ≠ 0 ∨ (G.append c).1.2 ≠ 0) : (G.append c).2 = G := by
  rw [append_is hd] at h ⊢
  by_cases h1 : c.frame.2 = 0
  · rw [if_pos h1] at h ⊢
    by_cases hf : G.all.length + c.frame.1.length ≤ 58 * G.sectors
    · rw [if_pos hf] at h
      rcases h with h | h
      · exact absurd h1 h
      · exact absurd rfl h
    · rw [if_neg hf]
  · rw [if_neg h1]
theorem RcAt.sh {A : HP} {r : api_Rec} {c : Rc} (h : RcAt A r c) : c.short := ⟨h.li, h.lt⟩
end Go.Sp
/- The log's law, in plain words: where frames begin, what is read there and from there on. -/
namespace Go.Sp
open Go Go.Proofs
set_option linter.unusedSimpArgs false
set_option linter.unusedVariables false
set_option maxRecDepth 10000
theorem flat_cons (x : List UInt8 × Rc) (ps : PS) : flat (x :: ps) = x.1 ++ flat ps := by simp [flat]
abbrev siz (ps : PS) (i : Nat) : Nat := (flat (ps.take i)).length
theorem siz_lt {ps : PS} (h : Prs ps) {i : Nat} : ∀ {j : Nat}, i < j → j ≤ ps.length → siz ps i < siz ps j
  | 0, hij, _ => by omega
  | j + 1, hij, hj => by
    have hx : ps[j]? = some ps[j] := List.getElem?_eq_getElem (by omega)
    have e := flat_next ps hx
    obtain ⟨h1, h2⟩ := h ps[j] (List.getElem_mem _)
    have h7 := frame_len h1 h2
    rcases Nat.lt_or_ge i j with x | x
    · have := siz_lt h x (by omega)
      unfold siz at this ⊢
      omega
    · obtain rfl : i = j := by omega
      unfold siz
      omega
theorem siz_le {ps : PS} (h : Prs ps) {i j : Nat} (hij : siz ps i ≤ siz ps j) (hi : i ≤ ps.length) : i ≤ j := by
  rcases Nat.lt_or_ge j i with x | x
  · have := siz_lt h x hi
    omega
  · exact x
theorem cut_at : ∀ (ps : PS) (a : Nat), Prs ps → a ≤ (flat ps).length → ∃ (j : Nat) (Y : List UInt8), j ≤ ps.length ∧ (flat ps).take a = flat (ps.take j) ++ Y ∧ (opn0 Y).2.2 ≠ 0 ∧ a = siz ps j + Y.length
  | [], a, _, h => by
    have h0 : a = 0 := by simpa [flat] using h
    subst h0
    exact ⟨0, [], Nat.le_refl _, rfl, opn0_nil, rfl⟩
  | x :: ps, a, hp, h => by
    obtain ⟨h1, h2⟩ := hp x (by simp)
    rcases Nat.lt_or_ge a x.1.length with hx | hx
    · refine ⟨0, x.1.take a, Nat.zero_le _, ?_, opn0_cut h1 h2 hx, ?_⟩
      · rw [flat_cons, List.take_append_of_le_length (by omega)]
        rfl
      · rw [List.length_take]
        show a = 0 + _
        omega
    · rw [flat_cons, List.length_append] at h
      obtain ⟨j, Y, j1, j2, j3, j4⟩ := cut_at ps (a - x.1.length) (fun y hy => hp y (by simp [hy])) (by omega)
      refine ⟨j + 1, Y, by simp; omega, ?_, j3, ?_⟩
      · rw [flat_cons, List.take_append, List.take_of_length_le hx, j2, List.take_succ_cons, flat_cons, List.append_assoc]
      · unfold siz at j4 ⊢
        rw [List.take_succ_cons, flat_cons, List.length_append]
        omega
theorem whole_take {ps : PS} (h : Prs ps) {a : Nat} (ha : a ≤ (flat ps).length) : ∃ j, j ≤ ps.length ∧ whole ((flat ps).take a) = siz ps j ∧ (a = siz ps j ∨ siz ps j < a) := by
  obtain ⟨j, Y, j1, j2, j3, j4⟩ := cut_at ps a h ha
  refine ⟨j, j1, ?_, by omega⟩
  have hf := (h.take j).frs
  have hl := frs_len hf
  have e := whl_frs ((ps.take j).map (·.1)) ((flat ps).take a) Y (((flat ps).take a).length + 1) 0 hf (Nat.zero_le _) (by rw [List.drop_zero, j2]; rfl) j3 (by
    rw [j2, List.length_append]
    show _ < siz ps j + _ + 1
    have : ((ps.take j).map (·.1)).flatten.length = siz ps j := rfl
    omega)
  rw [Nat.zero_add] at e
  exact e
theorem bound_is {G : Lg} {ps : PS} (hall : G.all = flat ps) (h : Prs ps) {k lsn : Int} (hk : (k = -1 ∧ ∀ j, j ≤ ps.length → ((1 + siz ps j : Nat) : Int) ≠ lsn) ∨ ∃ j : Nat, j ≤ ps.length ∧ k = (j : Int) ∧ ((1 + siz ps j : Nat) : Int) = lsn) : G.bound lsn = decide (0 ≤ k) := by
  unfold Lg.bound
  rw [hall]
  rcases hk with ⟨rfl, hn⟩ | ⟨j, j1, rfl, rfl⟩
  · rw [show decide ((0 : Int) ≤ -1) = false from rfl]
    by_cases hr : 1 ≤ lsn ∧ lsn ≤ ((flat ps).length : Int) + 1
    · obtain ⟨j, j1, j2, j3⟩ := whole_take h (a := (lsn - 1).toNat) (by omega)
      have := hn j j1
      rw [j2, Bool.and_eq_false_iff]
      right
      rw [beq_eq_false_iff_ne]
      intro e
      apply this
      omega
    · rw [decide_eq_false hr]
      rfl
  · have hl : siz ps j ≤ (flat ps).length := flat_le ps j
    have ht := flat_take ps j
    rw [show (((1 + siz ps j : Nat) : Int) - 1).toNat = siz ps j by omega, ht, flat_whole (h.take j), decide_eq_true (by omega), decide_eq_true (by omega)]
    simp
theorem drop_siz (ps : PS) (j : Nat) : (flat ps).drop (siz ps j) = flat (ps.drop j) := by
  have e : flat ps = flat (ps.take j) ++ flat (ps.drop j) := by rw [← flat_app, List.take_append_drop]
  rw [e]
  exact List.drop_left' rfl
theorem read_is {G : Lg} {ps : PS} (hall : G.all = flat ps) (h : Prs ps) {j : Nat} {x : List UInt8 × Rc} (hx : ps[j]? = some x) : G.read ((1 + siz ps j : Nat) : Int) = (x.2.clean, ((1 + siz ps j : Nat) : Int) + (x.1.length : Int), 0) := by
  have hj : j < ps.length := by
    rcases Nat.lt_or_ge j ps.length with y | y
    · exact y
    · rw [List.getElem?_eq_none y] at hx; cases hx
  obtain ⟨h1, h2⟩ := h x (List.mem_of_getElem? hx)
  have h7 := frame_len h1 h2
  have fn := flat_next ps hx
  have fl := flat_le ps (j + 1)
  have e0 : ((1 + siz ps j : Nat) : Int) - 1 = (siz ps j : Int) := by omega
  have ed : (flat ps).drop (siz ps j) = x.1 ++ flat (ps.drop (j + 1)) := by
    rw [drop_siz, ← flat_cons]
    congr 1
    rw [List.drop_eq_getElem_cons hj]
    congr 1
    rw [List.getElem?_eq_getElem hj] at hx
    exact Option.some.inj hx
  unfold Lg.read
  rw [hall, if_neg (by unfold siz; omega), e0, opn_nat (by unfold siz; omega), ed, opn0_frame h1 h2]
  dsimp only
  rw [if_pos rfl]
/-- What the document takes from a place on. -/
def wnt (most : Int) : Bool → List UInt8 → PS → List UInt8
  | _, w, [] => w
  | b, w, x :: r => if b = true ∧ most - (w.length : Int) < (x.1.length : Int) then w else wnt most true (w ++ x.1) r
theorem frl_is (most : Int) : ∀ (r : PS) (s : List UInt8) (d : PS) (K : Nat), Prs r → s = flat (d ++ r) → (∀ x ∈ d, 0 < x.1.length) → r.length < K → frl s most K (flat d).length = (wnt most (!d.isEmpty) (flat d) r, 0)
  | [], s, d, K + 1, _, hs, hd, hK => by
    rw [List.append_nil] at hs
    subst hs
    unfold frl wnt
    rw [opn_nat (Nat.le_refl _), List.drop_length, if_neg opn0_nil, if_neg (by omega), List.take_length]
  | x :: r, s, d, K + 1, hr, hs, hd, hK => by
    obtain ⟨h1, h2⟩ := hr x (by simp)
    have h7 := frame_len h1 h2
    have e : s.drop (flat d).length = x.1 ++ flat r := by
      rw [hs, flat_app, List.drop_left' rfl, flat_cons]
    have et : s.take (flat d).length = flat d := by rw [hs, flat_app]; exact List.take_left' rfl
    have hl : (flat d).length ≤ s.length := by rw [hs, flat_app, List.length_append]; omega
    unfold frl wnt
    rw [opn_nat hl, e, opn0_frame h1 h2]
    dsimp only
    rw [if_pos rfl, et, Int.toNat_natCast]
    have hb : (!d.isEmpty) = true ↔ 0 < (flat d).length := by
      cases d with
      | nil => simp [flat]
      | cons y d =>
        have := hd y (by simp)
        rw [flat_cons, List.length_append]
        simp
        omega
    by_cases hc : (!d.isEmpty) = true ∧ most - ((flat d).length : Int) < (x.1.length : Int)
    · rw [if_pos hc, if_pos ⟨hb.1 hc.1, hc.2⟩]
    · rw [if_neg hc, if_neg (fun y => hc ⟨hb.2 y.1, y.2⟩)]
      have ih := frl_is most r s (d ++ [x]) K (fun y hy => hr y (by simp [hy])) (by rw [hs, List.append_assoc]; rfl) (fun y hy => by
        rcases List.mem_append.1 hy with h | h
        · exact hd y h
        · obtain rfl : y = x := by simpa using h
          omega) (by simp at hK; omega)
      have ef : flat (d ++ [x]) = flat d ++ x.1 := by rw [flat_app]; simp [flat]
      rw [ef, List.length_append] at ih
      rw [ih]
      have hne : (!(d ++ [x]).isEmpty) = true := by cases d <;> rfl
      rw [hne]
theorem frl_any (s : List UInt8) (most : Int) : ∀ (K a : Nat), frl s most K a = ([], 4) ∨ (frl s most K a).2 = 0
  | 0, a => .inr rfl
  | K + 1, a => by
    unfold frl
    split
    · split
      · exact .inr rfl
      · exact frl_any s most K _
    · split
      · exact .inl rfl
      · exact .inr rfl
theorem from_is {G : Lg} {ps : PS} (hall : G.all = flat ps) (h : Prs ps) {m j : Nat} (hd : G.durable = siz ps m) (hm : m ≤ ps.length) (hj : j ≤ m) (most : Int) :
    G.from ((1 + siz ps j : Nat) : Int) most = (wnt (if most < 0 then 0 else most) false [] ((ps.take m).drop j), 0) := by
  have hl : siz ps j ≤ siz ps m := by
    rcases Nat.lt_or_ge j m with x | x
    · exact Nat.le_of_lt (siz_lt h x hm)
    · obtain rfl : j = m := by omega
      exact Nat.le_refl _
  unfold Lg.from
  rw [if_neg (by rw [hd]; omega), hall, hd, flat_take]
  have e1 : (((1 + siz ps j : Nat) : Int) - 1).toNat = siz (ps.take m) j := by
    unfold siz
    rw [List.take_take, show min j m = j by omega]
    omega
  rw [e1, drop_siz]
  have hp : Prs ((ps.take m).drop j) := fun x hx => h x (List.mem_of_mem_take (List.mem_of_mem_drop hx))
  have hlen := frs_len hp.frs
  rw [List.length_map] at hlen
  exact frl_is _ ((ps.take m).drop j) (flat ((ps.take m).drop j)) [] _ hp rfl (fun x hx => by cases hx) (by
    have : (((ps.take m).drop j).map (·.1)).flatten.length = (flat ((ps.take m).drop j)).length := rfl
    omega)
end Go.Sp
/- What each region of the Go functions does. Written by my own generator. -/
namespace Go.Sp
open Go
set_option maxRecDepth 100000
set_option linter.unusedVariables false
open Go.Proofs
/-! (*gharry.gharrylaw08.plain).size -/
noncomputable def c34 : Cfg := { P := Tryz.prog, n := 32, T := TT, body := (Tryz.f34.body).getD .skip, res := Tryz.f34.results.toList, li := lk [] [(0, [0, 1]), (1, [0, 1]), (2, [0, 1, 5]), (3, [0, 1, 5, 6]), (4, [0, 1, 5, 6]), (5, [0, 1, 5, 6]), (6, [5])], lo := lk [] [(0, [0, 1]), (1, [0, 1, 5]), (2, [0, 1, 5, 6]), (3, [0, 1, 5, 6, 18]), (4, [0, 1, 5, 6]), (5, [0, 1, 5, 6]), (6, [4]), (1000000, [4])], ord := lk (false, []) [] }
@[go_sem] theorem c34_i0 : c34.li 0 = [0, 1] := rfl
@[go_sem] theorem c34_i1 : c34.li 1 = [0, 1] := rfl
@[go_sem] theorem c34_i2 : c34.li 2 = [0, 1, 5] := rfl
@[go_sem] theorem c34_i3 : c34.li 3 = [0, 1, 5, 6] := rfl
@[go_sem] theorem c34_i4 : c34.li 4 = [0, 1, 5, 6] := rfl
@[go_sem] theorem c34_i5 : c34.li 5 = [0, 1, 5, 6] := rfl
@[go_sem] theorem c34_i6 : c34.li 6 = [5] := rfl
@[go_sem] theorem c34_r0 (p0 : Option Addr) (n1 : Int) (K : Env → W) : RP c34 0 [(0, .pointer p0), (1, .int .i64 n1)] K =
    (K [(0, .pointer p0), (1, .int .i64 n1)]) := by kernel_rfl
@[go_sem] theorem c34_r1 (p0 : Option Addr) (n1 : Int) (K : Env → W) : RP c34 1 [(0, .pointer p0), (1, .int .i64 n1)] K =
    (K [(0, .pointer p0), (1, .int .i64 n1), (5, .int .i64 (0 : Int))]) := by kernel_rfl
@[go_sem] theorem c34_r2 (p0 : Option Addr) (n1 : Int) (out5 : Int) (K : Env → W) : RP c34 2 [(0, .pointer p0), (1, .int .i64 n1), (5, .int .i64 out5)] K =
    (K [(0, .pointer p0), (1, .int .i64 n1), (5, .int .i64 out5), (6, .int .i64 (0 : Int))]) := by kernel_rfl
@[go_sem] theorem c34_r3 (p0 : Option Addr) (n1 : Int) (out5 : Int) (i6 : Int) (K : Env → W) : RP c34 3 [(0, .pointer p0), (1, .int .i64 n1), (5, .int .i64 out5), (6, .int .i64 i6)] K =
    (cnd ((decide (i6 < n1))) (nn p0 fun y1_ => (ld eSl y1_ fun (y2_ : (Option Addr × Nat × Nat)) => (K [(0, .pointer p0), (1, .int .i64 n1), (5, .int .i64 out5), (6, .int .i64 i6), (18, .bool ((decide (i6 < (y2_.2.1 : Int)))))]))) (K [(0, .pointer p0), (1, .int .i64 n1), (5, .int .i64 out5), (6, .int .i64 i6), (18, .bool false)])) := by kernel_rfl
@[go_sem] theorem c34_r4 (p0 : Option Addr) (n1 : Int) (out5 : Int) (i6 : Int) (K : Env → W) : RP c34 4 [(0, .pointer p0), (1, .int .i64 n1), (5, .int .i64 out5), (6, .int .i64 i6)] K =
    (K [(0, .pointer p0), (1, .int .i64 n1), (5, .int .i64 out5), (6, .int .i64 ((IntKind.wrap .i64 (i6 + (1 : Int)))))]) := by kernel_rfl
@[go_sem] theorem c34_r5 (p0 : Option Addr) (n1 : Int) (out5 : Int) (i6 : Int) (K : Env → W) : RP c34 5 [(0, .pointer p0), (1, .int .i64 n1), (5, .int .i64 out5), (6, .int .i64 i6)] K =
    (nn p0 fun y1_ => (ld eSl y1_ fun (y2_ : (Option Addr × Nat × Nat)) => (rq (0 ≤ i6 ∧ i6 < (y2_.2.1 : Int)) (nn y2_.1 fun y3_ => (ld eS ((Addr.add y3_ ((i6).toNat * 1))) fun (y4_ : List UInt8) => (K [(0, .pointer p0), (1, .int .i64 n1), (5, .int .i64 ((IntKind.wrap .i64 (out5 + ((y4_).length : Int))))), (6, .int .i64 i6)])))))) := by kernel_rfl
@[go_sem] theorem c34_r6 (out5 : Int) (K : Env → W) : RP c34 6 [(5, .int .i64 out5)] K =
    (K [(4, .int .i64 out5)]) := by kernel_rfl
@[go_sem] theorem c34_o : c34.lo 1000000 = [4] := rfl
@[go_sem] theorem c34_e (t4 : Int) (k : Value → W) : RTp c34 [(4, .int .i64 t4)] k = (k (.int .i64 t4)) := by kernel_rfl
theorem c34_ok : (c34.P.follows .mixedOrders && okc c34 c34.body) = true := by kernel_rfl
theorem c34_fn {e : Enc} {args : Array Value} {G : e.α → W} {L : List HP} {ρ : Env} (hρ : envA 0 args.toList = ρ) (hs : Nat.ble args.size 32 = true) (h : E L (D c34 (.seq (.reg 0) (.seq (.reg 1) (.seq (.seq (.reg 2) (.block 0 (.loop (.seq (.seq (.reg 3) (.cond (.tmp 18) (.skip) (.exit 0))) (.seq (.block 1 (.reg 5)) (.reg 4)))))) (.seq (.reg 6) (.ret))))) (fnQ c34 e G) ρ)) : E L (cal e Tryz.prog 34 args G) :=
  d_fn (c := c34) Tryz.func34 (by kernel_rfl) (by kernel_rfl) (by kernel_rfl) c34_ok (by kernel_rfl) (by kernel_rfl) hρ hs h
-- loop (first region 3): live slots 0:p0 1:n1 5:out5 6:i6, of which it writes [5, 6]
end Go.Sp
/- What each region of the Go functions does. Written by my own generator. -/
namespace Go.Sp
open Go
set_option maxRecDepth 100000
set_option linter.unusedVariables false
open Go.Proofs
/-! gharry.gharrylaw08.fromIs -/
noncomputable def c36 : Cfg := { P := Tryz.prog, n := 93, T := TT, body := (Tryz.f36.body).getD .skip, res := Tryz.f36.results.toList, li := lk [] [(0, [0, 1, 2, 3, 4]), (1, [0, 1, 2, 3, 4]), (2, [0, 1, 2, 3, 4, 11, 12]), (3, [11, 12]), (4, [1, 2, 4, 11, 12]), (5, [11, 12]), (6, [1, 2, 4, 11, 12]), (7, [1, 2, 11, 12]), (8, [1, 2, 4, 11, 12]), (9, [1, 2, 4, 11, 12, 13]), (10, [1, 2, 4, 11, 12, 13, 14]), (11, [1, 2, 4, 11, 12, 13, 14]), (12, [1, 2, 4, 11, 12, 13, 14]), (13, [1, 2, 4, 11, 12, 13, 14]), (14, [11, 12, 13])], lo := lk [] [(0, [0, 1, 2, 3, 4]), (1, [0, 1, 2, 3, 4, 11, 12]), (2, [1, 2, 4, 11, 12, 29]), (3, [10]), (4, [1, 2, 4, 11, 12, 37]), (5, [10]), (6, [1, 2, 4, 11, 12, 49]), (7, [1, 2, 4, 11, 12]), (8, [1, 2, 4, 11, 12, 13]), (9, [1, 2, 4, 11, 12, 13, 14]), (10, [1, 2, 4, 11, 12, 13, 14, 56]), (11, [1, 2, 4, 11, 12, 13, 14]), (12, [1, 2, 4, 11, 12, 13, 14, 76]), (13, [1, 2, 4, 11, 12, 13, 14]), (14, [10]), (1000000, [10])], ord := lk (false, []) [] }
@[go_sem] theorem c36_i0 : c36.li 0 = [0, 1, 2, 3, 4] := rfl
@[go_sem] theorem c36_i1 : c36.li 1 = [0, 1, 2, 3, 4] := rfl
@[go_sem] theorem c36_i2 : c36.li 2 = [0, 1, 2, 3, 4, 11, 12] := rfl
@[go_sem] theorem c36_i3 : c36.li 3 = [11, 12] := rfl
@[go_sem] theorem c36_i4 : c36.li 4 = [1, 2, 4, 11, 12] := rfl
@[go_sem] theorem c36_i5 : c36.li 5 = [11, 12] := rfl
@[go_sem] theorem c36_i6 : c36.li 6 = [1, 2, 4, 11, 12] := rfl
@[go_sem] theorem c36_i7 : c36.li 7 = [1, 2, 11, 12] := rfl
@[go_sem] theorem c36_i8 : c36.li 8 = [1, 2, 4, 11, 12] := rfl
@[go_sem] theorem c36_i9 : c36.li 9 = [1, 2, 4, 11, 12, 13] := rfl
@[go_sem] theorem c36_i10 : c36.li 10 = [1, 2, 4, 11, 12, 13, 14] := rfl
@[go_sem] theorem c36_i11 : c36.li 11 = [1, 2, 4, 11, 12, 13, 14] := rfl
@[go_sem] theorem c36_i12 : c36.li 12 = [1, 2, 4, 11, 12, 13, 14] := rfl
@[go_sem] theorem c36_i13 : c36.li 13 = [1, 2, 4, 11, 12, 13, 14] := rfl
@[go_sem] theorem c36_i14 : c36.li 14 = [11, 12, 13] := rfl
@[go_sem] theorem c36_r0 (w0 : Option Addr) (p1 : Option Addr) (k2 : Int) (lsn3 : Int) (most4 : Int) (K : Env → W) : RP c36 0 [(0, .pointer w0), (1, .pointer p1), (2, .int .i64 k2), (3, .int .i64 lsn3), (4, .int .i64 most4)] K =
    (K [(0, .pointer w0), (1, .pointer p1), (2, .int .i64 k2), (3, .int .i64 lsn3), (4, .int .i64 most4)]) := by kernel_rfl
@[go_sem] theorem c36_r1 (w0 : Option Addr) (p1 : Option Addr) (k2 : Int) (lsn3 : Int) (most4 : Int) (K : Env → W) : RP c36 1 [(0, .pointer w0), (1, .pointer p1), (2, .int .i64 k2), (3, .int .i64 lsn3), (4, .int .i64 most4)] K =
    (cal (eT2 eS eI) Tryz.prog 39 #[.pointer w0, .int .i64 lsn3, .int .i64 most4] fun (y1_ : ((List UInt8) × Int)) => (K [(0, .pointer w0), (1, .pointer p1), (2, .int .i64 k2), (3, .int .i64 lsn3), (4, .int .i64 most4), (11, str y1_.1), (12, .int .i64 y1_.2)])) := by kernel_rfl
@[go_sem] theorem c36_r2 (w0 : Option Addr) (p1 : Option Addr) (k2 : Int) (lsn3 : Int) (most4 : Int) (s11 : List UInt8) (e12 : Int) (K : Env → W) : RP c36 2 [(0, .pointer w0), (1, .pointer p1), (2, .int .i64 k2), (3, .int .i64 lsn3), (4, .int .i64 most4), (11, str s11), (12, .int .i64 e12)] K =
    (cnd ((decide (lsn3 < (1 : Int)))) (K [(1, .pointer p1), (2, .int .i64 k2), (4, .int .i64 most4), (11, str s11), (12, .int .i64 e12), (29, .bool true)]) (cal eI Tryz.prog 29 #[.pointer w0] fun (y1_ : Int) => (K [(1, .pointer p1), (2, .int .i64 k2), (4, .int .i64 most4), (11, str s11), (12, .int .i64 e12), (29, .bool ((decide (y1_ < lsn3))))]))) := by kernel_rfl
@[go_sem] theorem c36_r3 (s11 : List UInt8) (e12 : Int) (K : Env → W) : RP c36 3 [(11, str s11), (12, .int .i64 e12)] K =
    (cnd ((s11 == ([] : List UInt8))) (K [(10, .bool ((e12 == (6 : Int))))]) (K [(10, .bool false)])) := by kernel_rfl
@[go_sem] theorem c36_r4 (p1 : Option Addr) (k2 : Int) (most4 : Int) (s11 : List UInt8) (e12 : Int) (K : Env → W) : RP c36 4 [(1, .pointer p1), (2, .int .i64 k2), (4, .int .i64 most4), (11, str s11), (12, .int .i64 e12)] K =
    (K [(1, .pointer p1), (2, .int .i64 k2), (4, .int .i64 most4), (11, str s11), (12, .int .i64 e12), (37, .bool ((decide (k2 < (0 : Int)))))]) := by kernel_rfl
@[go_sem] theorem c36_r5 (s11 : List UInt8) (e12 : Int) (K : Env → W) : RP c36 5 [(11, str s11), (12, .int .i64 e12)] K =
    (cnd ((e12 == (4 : Int))) (cnd ((s11 == ([] : List UInt8))) (K [(10, .bool true)]) (K [(10, .bool ((e12 == (0 : Int))))])) (K [(10, .bool ((e12 == (0 : Int))))])) := by kernel_rfl
@[go_sem] theorem c36_r6 (p1 : Option Addr) (k2 : Int) (most4 : Int) (s11 : List UInt8) (e12 : Int) (K : Env → W) : RP c36 6 [(1, .pointer p1), (2, .int .i64 k2), (4, .int .i64 most4), (11, str s11), (12, .int .i64 e12)] K =
    (K [(1, .pointer p1), (2, .int .i64 k2), (4, .int .i64 most4), (11, str s11), (12, .int .i64 e12), (49, .bool ((decide (most4 < (0 : Int)))))]) := by kernel_rfl
@[go_sem] theorem c36_r7 (p1 : Option Addr) (k2 : Int) (s11 : List UInt8) (e12 : Int) (K : Env → W) : RP c36 7 [(1, .pointer p1), (2, .int .i64 k2), (11, str s11), (12, .int .i64 e12)] K =
    (K [(1, .pointer p1), (2, .int .i64 k2), (4, .int .i64 (0 : Int)), (11, str s11), (12, .int .i64 e12)]) := by kernel_rfl
@[go_sem] theorem c36_r8 (p1 : Option Addr) (k2 : Int) (most4 : Int) (s11 : List UInt8) (e12 : Int) (K : Env → W) : RP c36 8 [(1, .pointer p1), (2, .int .i64 k2), (4, .int .i64 most4), (11, str s11), (12, .int .i64 e12)] K =
    (K [(1, .pointer p1), (2, .int .i64 k2), (4, .int .i64 most4), (11, str s11), (12, .int .i64 e12), (13, str (([] : List UInt8)))]) := by kernel_rfl
@[go_sem] theorem c36_r9 (p1 : Option Addr) (k2 : Int) (most4 : Int) (s11 : List UInt8) (e12 : Int) (want13 : List UInt8) (K : Env → W) : RP c36 9 [(1, .pointer p1), (2, .int .i64 k2), (4, .int .i64 most4), (11, str s11), (12, .int .i64 e12), (13, str want13)] K =
    (K [(1, .pointer p1), (2, .int .i64 k2), (4, .int .i64 most4), (11, str s11), (12, .int .i64 e12), (13, str want13), (14, .int .i64 k2)]) := by kernel_rfl
@[go_sem] theorem c36_r10 (p1 : Option Addr) (k2 : Int) (most4 : Int) (s11 : List UInt8) (e12 : Int) (want13 : List UInt8) (i14 : Int) (K : Env → W) : RP c36 10 [(1, .pointer p1), (2, .int .i64 k2), (4, .int .i64 most4), (11, str s11), (12, .int .i64 e12), (13, str want13), (14, .int .i64 i14)] K =
    (nn p1 fun y1_ => (ld eI ((y1_.add 1)) fun (y2_ : Int) => (K [(1, .pointer p1), (2, .int .i64 k2), (4, .int .i64 most4), (11, str s11), (12, .int .i64 e12), (13, str want13), (14, .int .i64 i14), (56, .bool ((decide (i14 < y2_))))]))) := by kernel_rfl
@[go_sem] theorem c36_r11 (p1 : Option Addr) (k2 : Int) (most4 : Int) (s11 : List UInt8) (e12 : Int) (want13 : List UInt8) (i14 : Int) (K : Env → W) : RP c36 11 [(1, .pointer p1), (2, .int .i64 k2), (4, .int .i64 most4), (11, str s11), (12, .int .i64 e12), (13, str want13), (14, .int .i64 i14)] K =
    (K [(1, .pointer p1), (2, .int .i64 k2), (4, .int .i64 most4), (11, str s11), (12, .int .i64 e12), (13, str want13), (14, .int .i64 ((IntKind.wrap .i64 (i14 + (1 : Int)))))]) := by kernel_rfl
@[go_sem] theorem c36_r12 (p1 : Option Addr) (k2 : Int) (most4 : Int) (s11 : List UInt8) (e12 : Int) (want13 : List UInt8) (i14 : Int) (K : Env → W) : RP c36 12 [(1, .pointer p1), (2, .int .i64 k2), (4, .int .i64 most4), (11, str s11), (12, .int .i64 e12), (13, str want13), (14, .int .i64 i14)] K =
    (cnd ((decide (k2 < i14))) (nn p1 fun y1_ => (ld eSl y1_ fun (y2_ : (Option Addr × Nat × Nat)) => (rq (0 ≤ i14 ∧ i14 < (y2_.2.1 : Int)) (nn y2_.1 fun y3_ => (ld eS ((Addr.add y3_ ((i14).toNat * 1))) fun (y4_ : List UInt8) => (K [(1, .pointer p1), (2, .int .i64 k2), (4, .int .i64 most4), (11, str s11), (12, .int .i64 e12), (13, str want13), (14, .int .i64 i14), (76, .bool ((decide ((IntKind.wrap .i64 (most4 - ((want13).length : Int))) < ((y4_).length : Int)))))])))))) (K [(1, .pointer p1), (2, .int .i64 k2), (4, .int .i64 most4), (11, str s11), (12, .int .i64 e12), (13, str want13), (14, .int .i64 i14), (76, .bool false)])) := by kernel_rfl
@[go_sem] theorem c36_r13 (p1 : Option Addr) (k2 : Int) (most4 : Int) (s11 : List UInt8) (e12 : Int) (want13 : List UInt8) (i14 : Int) (K : Env → W) : RP c36 13 [(1, .pointer p1), (2, .int .i64 k2), (4, .int .i64 most4), (11, str s11), (12, .int .i64 e12), (13, str want13), (14, .int .i64 i14)] K =
    (nn p1 fun y1_ => (ld eSl y1_ fun (y2_ : (Option Addr × Nat × Nat)) => (rq (0 ≤ i14 ∧ i14 < (y2_.2.1 : Int)) (nn y2_.1 fun y3_ => (ld eS ((Addr.add y3_ ((i14).toNat * 1))) fun (y4_ : List UInt8) => (rq (((want13).length : Int) + ((y4_).length : Int) ≤ 9223372036854775807) (K [(1, .pointer p1), (2, .int .i64 k2), (4, .int .i64 most4), (11, str s11), (12, .int .i64 e12), (13, str ((want13 ++ y4_))), (14, .int .i64 i14)]))))))) := by kernel_rfl
@[go_sem] theorem c36_r14 (s11 : List UInt8) (e12 : Int) (want13 : List UInt8) (K : Env → W) : RP c36 14 [(11, str s11), (12, .int .i64 e12), (13, str want13)] K =
    (cnd ((s11 == want13)) (K [(10, .bool ((e12 == (0 : Int))))]) (K [(10, .bool false)])) := by kernel_rfl
@[go_sem] theorem c36_o : c36.lo 1000000 = [10] := rfl
@[go_sem] theorem c36_e (t10 : Bool) (k : Value → W) : RTp c36 [(10, .bool t10)] k = (k (.bool t10)) := by kernel_rfl
theorem c36_ok : (c36.P.follows .mixedOrders && okc c36 c36.body) = true := by kernel_rfl
theorem c36_fn {e : Enc} {args : Array Value} {G : e.α → W} {L : List HP} {ρ : Env} (hρ : envA 0 args.toList = ρ) (hs : Nat.ble args.size 93 = true) (h : E L (D c36 (.seq (.reg 0) (.seq (.reg 1) (.seq (.seq (.reg 2) (.cond (.tmp 29) (.seq (.reg 3) (.ret)) (.skip))) (.seq (.seq (.reg 4) (.cond (.tmp 37) (.seq (.reg 5) (.ret)) (.skip))) (.seq (.seq (.reg 6) (.cond (.tmp 49) (.reg 7) (.skip))) (.seq (.reg 8) (.seq (.seq (.reg 9) (.block 0 (.loop (.seq (.seq (.reg 10) (.cond (.tmp 56) (.skip) (.exit 0))) (.seq (.block 1 (.seq (.seq (.reg 12) (.cond (.tmp 76) (.exit 0) (.skip))) (.reg 13))) (.reg 11)))))) (.seq (.reg 14) (.ret))))))))) (fnQ c36 e G) ρ)) : E L (cal e Tryz.prog 36 args G) :=
  d_fn (c := c36) Tryz.func36 (by kernel_rfl) (by kernel_rfl) (by kernel_rfl) c36_ok (by kernel_rfl) (by kernel_rfl) hρ hs h
-- loop (first region 10): live slots 1:p1 2:k2 4:most4 11:s11 12:e12 13:want13 14:i14, of which it writes [13, 14]
end Go.Sp
/- The log's layer: the document's log's size; From is as it should be. -/
namespace Go.Sp
open Go Go.Proofs
set_option linter.unusedSimpArgs false
set_option linter.unusedVariables false
set_option maxRecDepth 10000
abbrev pl (pb : Nat) (s : SlV) (m : Nat) : HP := ar pb 60 [.slice s.1 s.2.1 s.2.2, .int .i64 (m : Int), .int .i64 1, .int .i64 1740]
theorem g34 (pb : Nat) (sv : SlV) (m : Nat) (ps : PS) (hn : sv.2.1 = ps.length) (hl : (flat ps).length ≤ 1000000) (hb : ps.length ≤ 1000000) (n : Int) : Fp eI Tryz.prog 34 #[.pointer (some ⟨pb, 0, none⟩), .int .i64 n] [pl pb sv m, ow 9 1 sv (strs ps)] ((siz ps n.toNat : Nat) : Int) := fun L => by
  obtain ⟨sp, sn, sc⟩ := sv
  dsimp only at hn
  subst hn
  refine c34_fn rfl rfl ?_
  repeat' ((fail_if_success with_reducible refine nph ?_); first | (with_reducible first | (refine d_seq ?_; intro K hK) | (refine hK _ _ ?_; clear hK K) | (refine SG.p ?_; try intro b)) | ((with_reducible refine SC.p ?_); refine And.intro ?_ ?_) <;> intro hc <;> try simp only [push_cast, Int.reduceEq, Int.reduceLT, Int.reduceLE, Int.reduceNe] at hc | with_reducible refine r_rq (by first | decide | omega) ?_ | ((with_reducible refine SL.p ?_); first | refine ⟨_, rfl, ?_⟩ | refine ⟨_, _, _, rfl, ?_⟩ | (refine ⟨?_, rfl, ?_⟩; focus (simp; done))) | ((with_reducible first | apply i_ldn | apply i_ldnq); exact rfl; exact rfl; exact rfl) | ((try with_reducible refine d_reg ?_); simp only [go_sem, Nat.reduceAdd, Nat.reduceEqDiff, Int.reduceToNat, Nat.reduceMul, Nat.reduceSub]) | clear hK K)
  refine d_lp [0, 1, 5, 6] (fun i : Nat => [(0, .pointer (some ⟨pb, 0, none⟩)), (1, .int .i64 n), (5, .int .i64 ((siz ps i : Nat) : Int)), (6, .int .i64 (i : Int))]) (fun _ => pl pb (sp, ps.length, sc) m :: ow 9 1 (sp, ps.length, sc) (strs ps) :: L) (fun i => i ≤ ps.length ∧ i ≤ n.toNat) (fun i => ps.length - i) 0 rfl SX.p ⟨by omega, by omega⟩ ?_
  rintro i ⟨h1, h2⟩
  by_cases hi : (i : Int) < n ∧ i < ps.length
  · refine i_ow (t := 9) (sz := 1) (sp, ps.length, sc) fun hR => ?_
    obtain ⟨a, rfl⟩ := hR.ptr (by omega)
    have hx : ps[i]? = some ps[i] := List.getElem?_eq_getElem hi.2
    have fn := flat_next ps hx
    have fl := flat_le ps (i + 1)
    generalize ps[i] = x at *
    have hs : (strs ps)[i]? = some (str x.1) := by simp [strs, hx]
    have e : IntKind.wrap .i64 (((siz ps i : Nat) : Int) + (x.1.length : Int)) = ((siz ps (i + 1) : Nat) : Int) := by unfold siz; rw [fn, w64 (by omega) (by omega)]; omega
    repeat' ((fail_if_success with_reducible refine nph ?_); first | (with_reducible first | (refine d_seq ?_; intro K hK) | (refine hK _ _ ?_; clear hK K) | (refine SG.p ?_; try intro b)) | ((with_reducible refine SC.p ?_); refine And.intro ?_ ?_) <;> intro hc <;> try simp only [push_cast, Int.reduceEq, Int.reduceLT, Int.reduceLE, Int.reduceNe] at hc | with_reducible refine r_rq (by first | decide | omega) ?_ | ((with_reducible refine SL.p ?_); first | refine ⟨_, rfl, ?_⟩ | refine ⟨_, _, _, rfl, ?_⟩ | (refine ⟨?_, rfl, ?_⟩; focus (simp; done))) | ((with_reducible first | apply i_ldn | apply i_ldnq); exact rfl; exact rfl; exact rfl) | ((try with_reducible refine d_reg ?_); simp only [go_sem, Nat.reduceAdd, Nat.reduceEqDiff, Int.reduceToNat, Nat.reduceMul, Nat.reduceSub]) | clear hK K)
    all_goals try (exfalso; omega)
    refine i_o1 (e := eS) (y := x.1) hs ?_
    repeat' (first | rw [e] | rw [w64 (n := (i : Int) + 1) (by omega) (by omega)] | (fail_if_success with_reducible refine nph ?_); first | (with_reducible first | (refine d_seq ?_; intro K hK) | (refine hK _ _ ?_; clear hK K) | (refine SG.p ?_; try intro b)) | ((with_reducible refine SC.p ?_); refine And.intro ?_ ?_) <;> intro hc <;> try simp only [push_cast, Int.reduceEq, Int.reduceLT, Int.reduceLE, Int.reduceNe] at hc | with_reducible refine r_rq (by first | decide | omega) ?_ | ((with_reducible refine SL.p ?_); first | refine ⟨_, rfl, ?_⟩ | refine ⟨_, _, _, rfl, ?_⟩ | (refine ⟨?_, rfl, ?_⟩; focus (simp; done))) | ((with_reducible first | apply i_ldn | apply i_ldnq); exact rfl; exact rfl; exact rfl) | ((try with_reducible refine d_reg ?_); simp only [go_sem, Nat.reduceAdd, Nat.reduceEqDiff, Int.reduceToNat, Nat.reduceMul, Nat.reduceSub]) | clear hK K)
    exact i_bk (i + 1) rfl ⟨by omega, by omega⟩ (by omega)
  · have e : siz ps i = siz ps n.toNat := by
      by_cases h : i = n.toNat
      · rw [h]
      · unfold siz
        rw [List.take_of_length_le (by omega), List.take_of_length_le (by omega)]
    repeat' ((fail_if_success with_reducible refine nph ?_); first | (with_reducible first | (refine d_seq ?_; intro K hK) | (refine hK _ _ ?_; clear hK K) | (refine SG.p ?_; try intro b)) | ((with_reducible refine SC.p ?_); refine And.intro ?_ ?_) <;> intro hc <;> try simp only [push_cast, Int.reduceEq, Int.reduceLT, Int.reduceLE, Int.reduceNe] at hc | with_reducible refine r_rq (by first | decide | omega) ?_ | ((with_reducible refine SL.p ?_); first | refine ⟨_, rfl, ?_⟩ | refine ⟨_, _, _, rfl, ?_⟩ | (refine ⟨?_, rfl, ?_⟩; focus (simp; done))) | ((with_reducible first | apply i_ldn | apply i_ldnq); exact rfl; exact rfl; exact rfl) | ((try with_reducible refine d_reg ?_); simp only [go_sem, Nat.reduceAdd, Nat.reduceEqDiff, Int.reduceToNat, Nat.reduceMul, Nat.reduceSub]) | clear hK K)
    all_goals try (exfalso; omega)
    all_goals
      (with_reducible first | apply i_ret0 | apply i_ret2 | apply i_ret3 | apply i_ret); exact rfl
      rw [e]
set_option maxHeartbeats 1000000 in
theorem g36 (G : Lg) (sb pb : Nat) (sv : SlV) (ps : PS) (m : Nat) (k lsn most : Int) (hn : sv.2.1 = ps.length) (hall : G.all = flat ps) (h : Prs ps) (hl : (flat ps).length ≤ 1740) (hd : G.durable = siz ps m) (hm : m ≤ ps.length)
    (hk : k = -1 ∨ ∃ j : Nat, j ≤ ps.length ∧ k = (j : Int) ∧ ((1 + siz ps j : Nat) : Int) = lsn) (hw : wf64 most) :
    Fp eB Tryz.prog 36 #[G.p, .pointer (some ⟨pb, 0, none⟩), .int .i64 k, .int .i64 lsn, .int .i64 most] [lgp G sb, pl pb sv m, ow 9 1 sv (strs ps)] true := fun L => by
  obtain ⟨sp, sn, sc⟩ := sv
  dsimp only at hn
  subst hn
  have hsm : siz ps m ≤ (flat ps).length := flat_le ps m
  have FR := g39 G sb (by rw [hall]; omega) (by rw [hall, hd]; exact hsm) lsn most hw
  have DU := g29 G sb (by rw [hd]; omega)
  rw [hd] at DU
  unfold wf64 at hw
  refine c36_fn rfl rfl ?_
  by_cases hr : lsn < 1 ∨ ((siz ps m : Nat) : Int) + 1 < lsn
  · have e : G.from lsn most = ([], 6) := by
      unfold Lg.from
      rw [hd, if_pos hr]
    rw [e] at FR
    repeat' ((fail_if_success with_reducible refine nph ?_); first | (with_reducible first | (refine d_seq ?_; intro K hK) | (refine hK _ _ ?_; clear hK K) | (refine SG.p ?_; try intro b)) | ((with_reducible refine SC.p ?_); refine And.intro ?_ ?_) <;> intro hc <;> try simp only [push_cast, Int.reduceEq, Int.reduceLT, Int.reduceLE, Int.reduceNe] at hc | with_reducible refine r_rq (by first | decide | omega) ?_ | ((with_reducible refine SL.p ?_); first | refine ⟨_, rfl, ?_⟩ | refine ⟨_, _, _, rfl, ?_⟩ | (refine ⟨?_, rfl, ?_⟩; focus (simp; done))) | ((with_reducible first | apply i_ldn | apply i_ldnq); exact rfl; exact rfl; exact rfl) | ((try with_reducible refine d_reg ?_); simp only [go_sem, Nat.reduceAdd, Nat.reduceEqDiff, Int.reduceToNat, Nat.reduceMul, Nat.reduceSub]) | clear hK K)
    refine i_clp FR ?_
    repeat' ((fail_if_success with_reducible refine nph ?_); first | (with_reducible first | (refine d_seq ?_; intro K hK) | (refine hK _ _ ?_; clear hK K) | (refine SG.p ?_; try intro b)) | ((with_reducible refine SC.p ?_); refine And.intro ?_ ?_) <;> intro hc <;> try simp only [push_cast, Int.reduceEq, Int.reduceLT, Int.reduceLE, Int.reduceNe] at hc | with_reducible refine r_rq (by first | decide | omega) ?_ | ((with_reducible refine SL.p ?_); first | refine ⟨_, rfl, ?_⟩ | refine ⟨_, _, _, rfl, ?_⟩ | (refine ⟨?_, rfl, ?_⟩; focus (simp; done))) | ((with_reducible first | apply i_ldn | apply i_ldnq); exact rfl; exact rfl; exact rfl) | ((try with_reducible refine d_reg ?_); simp only [go_sem, Nat.reduceAdd, Nat.reduceEqDiff, Int.reduceToNat, Nat.reduceMul, Nat.reduceSub]) | clear hK K)
    all_goals try (exfalso; omega)
    all_goals try contradiction
    · (with_reducible first | apply i_ret0 | apply i_ret2 | apply i_ret3 | apply i_ret); exact rfl
      rfl
    · refine i_clp DU ?_
      repeat' ((fail_if_success with_reducible refine nph ?_); first | (with_reducible first | (refine d_seq ?_; intro K hK) | (refine hK _ _ ?_; clear hK K) | (refine SG.p ?_; try intro b)) | ((with_reducible refine SC.p ?_); refine And.intro ?_ ?_) <;> intro hc <;> try simp only [push_cast, Int.reduceEq, Int.reduceLT, Int.reduceLE, Int.reduceNe] at hc | with_reducible refine r_rq (by first | decide | omega) ?_ | ((with_reducible refine SL.p ?_); first | refine ⟨_, rfl, ?_⟩ | refine ⟨_, _, _, rfl, ?_⟩ | (refine ⟨?_, rfl, ?_⟩; focus (simp; done))) | ((with_reducible first | apply i_ldn | apply i_ldnq); exact rfl; exact rfl; exact rfl) | ((try with_reducible refine d_reg ?_); simp only [go_sem, Nat.reduceAdd, Nat.reduceEqDiff, Int.reduceToNat, Nat.reduceMul, Nat.reduceSub]) | clear hK K)
      all_goals try (exfalso; omega)
      all_goals try contradiction
      (with_reducible first | apply i_ret0 | apply i_ret2 | apply i_ret3 | apply i_ret); exact rfl
      rfl
  · rcases hk with rfl | ⟨j, j1, rfl, rfl⟩
    · have e : G.from lsn most = ([], 4) ∨ (G.from lsn most).2 = 0 := by
        unfold Lg.from
        rw [hd, if_neg hr]
        exact frl_any _ _ _ _
      generalize G.from lsn most = fr at *
      obtain ⟨fs, fe⟩ := fr
      repeat' ((fail_if_success with_reducible refine nph ?_); first | (with_reducible first | (refine d_seq ?_; intro K hK) | (refine hK _ _ ?_; clear hK K) | (refine SG.p ?_; try intro b)) | ((with_reducible refine SC.p ?_); refine And.intro ?_ ?_) <;> intro hc <;> try simp only [push_cast, Int.reduceEq, Int.reduceLT, Int.reduceLE, Int.reduceNe] at hc | with_reducible refine r_rq (by first | decide | omega) ?_ | ((with_reducible refine SL.p ?_); first | refine ⟨_, rfl, ?_⟩ | refine ⟨_, _, _, rfl, ?_⟩ | (refine ⟨?_, rfl, ?_⟩; focus (simp; done))) | ((with_reducible first | apply i_ldn | apply i_ldnq); exact rfl; exact rfl; exact rfl) | ((try with_reducible refine d_reg ?_); simp only [go_sem, Nat.reduceAdd, Nat.reduceEqDiff, Int.reduceToNat, Nat.reduceMul, Nat.reduceSub]) | clear hK K)
      refine i_clp FR ?_
      repeat' ((fail_if_success with_reducible refine nph ?_); first | (with_reducible first | (refine d_seq ?_; intro K hK) | (refine hK _ _ ?_; clear hK K) | (refine SG.p ?_; try intro b)) | ((with_reducible refine SC.p ?_); refine And.intro ?_ ?_) <;> intro hc <;> try simp only [push_cast, Int.reduceEq, Int.reduceLT, Int.reduceLE, Int.reduceNe] at hc | with_reducible refine r_rq (by first | decide | omega) ?_ | ((with_reducible refine SL.p ?_); first | refine ⟨_, rfl, ?_⟩ | refine ⟨_, _, _, rfl, ?_⟩ | (refine ⟨?_, rfl, ?_⟩; focus (simp; done))) | ((with_reducible first | apply i_ldn | apply i_ldnq); exact rfl; exact rfl; exact rfl) | ((try with_reducible refine d_reg ?_); simp only [go_sem, Nat.reduceAdd, Nat.reduceEqDiff, Int.reduceToNat, Nat.reduceMul, Nat.reduceSub]) | clear hK K)
      all_goals try (exfalso; omega)
      refine i_clp DU ?_
      repeat' ((fail_if_success with_reducible refine nph ?_); first | (with_reducible first | (refine d_seq ?_; intro K hK) | (refine hK _ _ ?_; clear hK K) | (refine SG.p ?_; try intro b)) | ((with_reducible refine SC.p ?_); refine And.intro ?_ ?_) <;> intro hc <;> try simp only [push_cast, Int.reduceEq, Int.reduceLT, Int.reduceLE, Int.reduceNe] at hc | with_reducible refine r_rq (by first | decide | omega) ?_ | ((with_reducible refine SL.p ?_); first | refine ⟨_, rfl, ?_⟩ | refine ⟨_, _, _, rfl, ?_⟩ | (refine ⟨?_, rfl, ?_⟩; focus (simp; done))) | ((with_reducible first | apply i_ldn | apply i_ldnq); exact rfl; exact rfl; exact rfl) | ((try with_reducible refine d_reg ?_); simp only [go_sem, Nat.reduceAdd, Nat.reduceEqDiff, Int.reduceToNat, Nat.reduceMul, Nat.reduceSub]) | clear hK K)
      all_goals try (exfalso; omega)
      all_goals (rcases e with e | e)
      all_goals (first | (simp only [Prod.mk.injEq] at e; obtain ⟨rfl, rfl⟩ := e) | (dsimp only at e; subst e))
      all_goals try contradiction
      all_goals ((with_reducible first | apply i_ret0 | apply i_ret2 | apply i_ret3 | apply i_ret); exact rfl; rfl)
    · have hjm : j ≤ m := siz_le h (by omega) j1
      rw [from_is hall h hd hm hjm] at FR
      generalize hmo : (if most < 0 then (0 : Int) else most) = mo at *
      have hmo1 : 0 ≤ mo ∧ mo ≤ 9223372036854775807 := by rw [← hmo]; split <;> omega
      generalize hW : wnt mo false [] ((ps.take m).drop j) = Wn at *
      repeat' ((fail_if_success with_reducible refine nph ?_); first | (with_reducible first | (refine d_seq ?_; intro K hK) | (refine hK _ _ ?_; clear hK K) | (refine SG.p ?_; try intro b)) | ((with_reducible refine SC.p ?_); refine And.intro ?_ ?_) <;> intro hc <;> try simp only [push_cast, Int.reduceEq, Int.reduceLT, Int.reduceLE, Int.reduceNe] at hc | with_reducible refine r_rq (by first | decide | omega) ?_ | ((with_reducible refine SL.p ?_); first | refine ⟨_, rfl, ?_⟩ | refine ⟨_, _, _, rfl, ?_⟩ | (refine ⟨?_, rfl, ?_⟩; focus (simp; done))) | ((with_reducible first | apply i_ldn | apply i_ldnq); exact rfl; exact rfl; exact rfl) | ((try with_reducible refine d_reg ?_); simp only [go_sem, Nat.reduceAdd, Nat.reduceEqDiff, Int.reduceToNat, Nat.reduceMul, Nat.reduceSub]) | clear hK K)
      refine i_clp FR ?_
      repeat' ((fail_if_success with_reducible refine nph ?_); first | (with_reducible first | (refine d_seq ?_; intro K hK) | (refine hK _ _ ?_; clear hK K) | (refine SG.p ?_; try intro b)) | ((with_reducible refine SC.p ?_); refine And.intro ?_ ?_) <;> intro hc <;> try simp only [push_cast, Int.reduceEq, Int.reduceLT, Int.reduceLE, Int.reduceNe] at hc | with_reducible refine r_rq (by first | decide | omega) ?_ | ((with_reducible refine SL.p ?_); first | refine ⟨_, rfl, ?_⟩ | refine ⟨_, _, _, rfl, ?_⟩ | (refine ⟨?_, rfl, ?_⟩; focus (simp; done))) | ((with_reducible first | apply i_ldn | apply i_ldnq); exact rfl; exact rfl; exact rfl) | ((try with_reducible refine d_reg ?_); simp only [go_sem, Nat.reduceAdd, Nat.reduceEqDiff, Int.reduceToNat, Nat.reduceMul, Nat.reduceSub]) | clear hK K)
      all_goals try (exfalso; omega)
      refine i_clp DU ?_
      repeat' ((fail_if_success with_reducible refine nph ?_); first | (with_reducible first | (refine d_seq ?_; intro K hK) | (refine hK _ _ ?_; clear hK K) | (refine SG.p ?_; try intro b)) | ((with_reducible refine SC.p ?_); refine And.intro ?_ ?_) <;> intro hc <;> try simp only [push_cast, Int.reduceEq, Int.reduceLT, Int.reduceLE, Int.reduceNe] at hc | with_reducible refine r_rq (by first | decide | omega) ?_ | ((with_reducible refine SL.p ?_); first | refine ⟨_, rfl, ?_⟩ | refine ⟨_, _, _, rfl, ?_⟩ | (refine ⟨?_, rfl, ?_⟩; focus (simp; done))) | ((with_reducible first | apply i_ldn | apply i_ldnq); exact rfl; exact rfl; exact rfl) | ((try with_reducible refine d_reg ?_); simp only [go_sem, Nat.reduceAdd, Nat.reduceEqDiff, Int.reduceToNat, Nat.reduceMul, Nat.reduceSub]) | clear hK K)
      all_goals try (exfalso; omega)
      all_goals try contradiction
      all_goals first | rw [show ((4 : Nat), Value.int .i64 0) = (4, Value.int .i64 mo) by rw [← hmo, if_pos (by assumption)]] | rw [show ((4 : Nat), Value.int .i64 most) = (4, Value.int .i64 mo) by rw [← hmo, if_neg (by omega)]]
      all_goals
        refine d_lp [1, 2, 4, 11, 12, 13, 14] (fun t : Nat × List UInt8 => [(1, .pointer (some ⟨pb, 0, none⟩)), (2, .int .i64 (j : Int)), (4, .int .i64 mo), (11, str Wn), (12, .int .i64 0), (13, str t.2), (14, .int .i64 (t.1 : Int))])
          (fun _ => lgp G sb :: pl pb (sp, ps.length, sc) m :: ow 9 1 (sp, ps.length, sc) (strs ps) :: L) (fun t => j ≤ t.1 ∧ t.1 ≤ m ∧ t.2.length ≤ siz ps t.1 ∧ wnt mo (decide (j < t.1)) t.2 ((ps.take m).drop t.1) = Wn) (fun t => m - t.1) (j, []) rfl SX.p ⟨Nat.le_refl _, hjm, Nat.zero_le _, by dsimp only; rw [decide_eq_false (by omega)]; exact hW⟩ ?_
        rintro ⟨i, w⟩ ⟨i1, i2, i3, i4⟩
        dsimp only at i1 i2 i3 i4 ⊢
        have hlm : ps.length ≤ (flat ps).length := by
          have := frs_len h.frs
          rw [List.length_map] at this
          exact this
        have hsi : siz ps i ≤ (flat ps).length := flat_le ps i
        by_cases hi : i < m
        · have hx : ps[i]? = some ps[i] := List.getElem?_eq_getElem (by omega)
          have fn := flat_next ps hx
          have ed : (ps.take m).drop i = ps[i] :: (ps.take m).drop (i + 1) := by
            rw [List.drop_eq_getElem_cons (by rw [List.length_take]; omega)]
            congr 1
            exact List.getElem_take
          rw [ed] at i4
          refine i_ow (t := 9) (sz := 1) (sp, ps.length, sc) fun hR => ?_
          obtain ⟨a, rfl⟩ := hR.ptr (by omega)
          have fl := flat_le ps (i + 1)
          have hsi1 : siz ps (i + 1) = siz ps i + ps[i].1.length := fn
          generalize ps[i] = x at *
          have hs : (strs ps)[i]? = some (str x.1) := by simp [strs, hx]
          have ew : IntKind.wrap .i64 (mo - (w.length : Int)) = mo - (w.length : Int) := w64 (by omega) (by omega)
          unfold wnt at i4
          by_cases hc1 : j < i
          · rw [decide_eq_true hc1] at i4
            by_cases hc2 : mo - (w.length : Int) < (x.1.length : Int)
            · rw [if_pos ⟨rfl, hc2⟩] at i4
              subst i4
              repeat' ((fail_if_success with_reducible refine nph ?_); first | (with_reducible first | (refine d_seq ?_; intro K hK) | (refine hK _ _ ?_; clear hK K) | (refine SG.p ?_; try intro b)) | ((with_reducible refine SC.p ?_); refine And.intro ?_ ?_) <;> intro hc <;> try simp only [push_cast, Int.reduceEq, Int.reduceLT, Int.reduceLE, Int.reduceNe] at hc | with_reducible refine r_rq (by first | decide | omega) ?_ | ((with_reducible refine SL.p ?_); first | refine ⟨_, rfl, ?_⟩ | refine ⟨_, _, _, rfl, ?_⟩ | (refine ⟨?_, rfl, ?_⟩; focus (simp; done))) | ((with_reducible first | apply i_ldn | apply i_ldnq); exact rfl; exact rfl; exact rfl) | ((try with_reducible refine d_reg ?_); simp only [go_sem, Nat.reduceAdd, Nat.reduceEqDiff, Int.reduceToNat, Nat.reduceMul, Nat.reduceSub]) | clear hK K)
              all_goals try (exfalso; omega)
              refine i_o1 (e := eS) (y := x.1) hs ?_
              repeat' (first | rw [ew] | (fail_if_success with_reducible refine nph ?_); first | (with_reducible first | (refine d_seq ?_; intro K hK) | (refine hK _ _ ?_; clear hK K) | (refine SG.p ?_; try intro b)) | ((with_reducible refine SC.p ?_); refine And.intro ?_ ?_) <;> intro hc <;> try simp only [push_cast, Int.reduceEq, Int.reduceLT, Int.reduceLE, Int.reduceNe] at hc | with_reducible refine r_rq (by first | decide | omega) ?_ | ((with_reducible refine SL.p ?_); first | refine ⟨_, rfl, ?_⟩ | refine ⟨_, _, _, rfl, ?_⟩ | (refine ⟨?_, rfl, ?_⟩; focus (simp; done))) | ((with_reducible first | apply i_ldn | apply i_ldnq); exact rfl; exact rfl; exact rfl) | ((try with_reducible refine d_reg ?_); simp only [go_sem, Nat.reduceAdd, Nat.reduceEqDiff, Int.reduceToNat, Nat.reduceMul, Nat.reduceSub]) | clear hK K)
              all_goals try (exfalso; omega)
              all_goals try contradiction
              (with_reducible first | apply i_ret0 | apply i_ret2 | apply i_ret3 | apply i_ret); exact rfl
              rfl
            · rw [if_neg (fun y => hc2 y.2)] at i4
              repeat' ((fail_if_success with_reducible refine nph ?_); first | (with_reducible first | (refine d_seq ?_; intro K hK) | (refine hK _ _ ?_; clear hK K) | (refine SG.p ?_; try intro b)) | ((with_reducible refine SC.p ?_); refine And.intro ?_ ?_) <;> intro hc <;> try simp only [push_cast, Int.reduceEq, Int.reduceLT, Int.reduceLE, Int.reduceNe] at hc | with_reducible refine r_rq (by first | decide | omega) ?_ | ((with_reducible refine SL.p ?_); first | refine ⟨_, rfl, ?_⟩ | refine ⟨_, _, _, rfl, ?_⟩ | (refine ⟨?_, rfl, ?_⟩; focus (simp; done))) | ((with_reducible first | apply i_ldn | apply i_ldnq); exact rfl; exact rfl; exact rfl) | ((try with_reducible refine d_reg ?_); simp only [go_sem, Nat.reduceAdd, Nat.reduceEqDiff, Int.reduceToNat, Nat.reduceMul, Nat.reduceSub]) | clear hK K)
              all_goals try (exfalso; omega)
              refine i_o1 (e := eS) (y := x.1) hs ?_
              repeat' (first | rw [ew] | (fail_if_success with_reducible refine nph ?_); first | (with_reducible first | (refine d_seq ?_; intro K hK) | (refine hK _ _ ?_; clear hK K) | (refine SG.p ?_; try intro b)) | ((with_reducible refine SC.p ?_); refine And.intro ?_ ?_) <;> intro hc <;> try simp only [push_cast, Int.reduceEq, Int.reduceLT, Int.reduceLE, Int.reduceNe] at hc | with_reducible refine r_rq (by first | decide | omega) ?_ | ((with_reducible refine SL.p ?_); first | refine ⟨_, rfl, ?_⟩ | refine ⟨_, _, _, rfl, ?_⟩ | (refine ⟨?_, rfl, ?_⟩; focus (simp; done))) | ((with_reducible first | apply i_ldn | apply i_ldnq); exact rfl; exact rfl; exact rfl) | ((try with_reducible refine d_reg ?_); simp only [go_sem, Nat.reduceAdd, Nat.reduceEqDiff, Int.reduceToNat, Nat.reduceMul, Nat.reduceSub]) | clear hK K)
              all_goals try (exfalso; omega)
              refine i_o1 (e := eS) (y := x.1) hs ?_
              repeat' (first | rw [w64 (n := (i : Int) + 1) (by omega) (by omega)] | (fail_if_success with_reducible refine nph ?_); first | (with_reducible first | (refine d_seq ?_; intro K hK) | (refine hK _ _ ?_; clear hK K) | (refine SG.p ?_; try intro b)) | ((with_reducible refine SC.p ?_); refine And.intro ?_ ?_) <;> intro hc <;> try simp only [push_cast, Int.reduceEq, Int.reduceLT, Int.reduceLE, Int.reduceNe] at hc | with_reducible refine r_rq (by first | decide | omega) ?_ | ((with_reducible refine SL.p ?_); first | refine ⟨_, rfl, ?_⟩ | refine ⟨_, _, _, rfl, ?_⟩ | (refine ⟨?_, rfl, ?_⟩; focus (simp; done))) | ((with_reducible first | apply i_ldn | apply i_ldnq); exact rfl; exact rfl; exact rfl) | ((try with_reducible refine d_reg ?_); simp only [go_sem, Nat.reduceAdd, Nat.reduceEqDiff, Int.reduceToNat, Nat.reduceMul, Nat.reduceSub]) | clear hK K)
              exact i_bk (i + 1, w ++ x.1) rfl ⟨by dsimp only; omega, by dsimp only; omega, by dsimp only; rw [List.length_append]; omega, by dsimp only; rw [decide_eq_true (by omega)]; exact i4⟩ (by dsimp only; omega)
          · rw [decide_eq_false hc1, if_neg (fun y => by cases y.1)] at i4
            repeat' ((fail_if_success with_reducible refine nph ?_); first | (with_reducible first | (refine d_seq ?_; intro K hK) | (refine hK _ _ ?_; clear hK K) | (refine SG.p ?_; try intro b)) | ((with_reducible refine SC.p ?_); refine And.intro ?_ ?_) <;> intro hc <;> try simp only [push_cast, Int.reduceEq, Int.reduceLT, Int.reduceLE, Int.reduceNe] at hc | with_reducible refine r_rq (by first | decide | omega) ?_ | ((with_reducible refine SL.p ?_); first | refine ⟨_, rfl, ?_⟩ | refine ⟨_, _, _, rfl, ?_⟩ | (refine ⟨?_, rfl, ?_⟩; focus (simp; done))) | ((with_reducible first | apply i_ldn | apply i_ldnq); exact rfl; exact rfl; exact rfl) | ((try with_reducible refine d_reg ?_); simp only [go_sem, Nat.reduceAdd, Nat.reduceEqDiff, Int.reduceToNat, Nat.reduceMul, Nat.reduceSub]) | clear hK K)
            all_goals try (exfalso; omega)
            refine i_o1 (e := eS) (y := x.1) hs ?_
            repeat' (first | rw [w64 (n := (i : Int) + 1) (by omega) (by omega)] | (fail_if_success with_reducible refine nph ?_); first | (with_reducible first | (refine d_seq ?_; intro K hK) | (refine hK _ _ ?_; clear hK K) | (refine SG.p ?_; try intro b)) | ((with_reducible refine SC.p ?_); refine And.intro ?_ ?_) <;> intro hc <;> try simp only [push_cast, Int.reduceEq, Int.reduceLT, Int.reduceLE, Int.reduceNe] at hc | with_reducible refine r_rq (by first | decide | omega) ?_ | ((with_reducible refine SL.p ?_); first | refine ⟨_, rfl, ?_⟩ | refine ⟨_, _, _, rfl, ?_⟩ | (refine ⟨?_, rfl, ?_⟩; focus (simp; done))) | ((with_reducible first | apply i_ldn | apply i_ldnq); exact rfl; exact rfl; exact rfl) | ((try with_reducible refine d_reg ?_); simp only [go_sem, Nat.reduceAdd, Nat.reduceEqDiff, Int.reduceToNat, Nat.reduceMul, Nat.reduceSub]) | clear hK K)
            exact i_bk (i + 1, w ++ x.1) rfl ⟨by dsimp only; omega, by dsimp only; omega, by dsimp only; rw [List.length_append]; omega, by dsimp only; rw [decide_eq_true (by omega)]; exact i4⟩ (by dsimp only; omega)
        · rw [List.drop_eq_nil_of_le (by rw [List.length_take]; omega)] at i4
          unfold wnt at i4
          subst i4
          repeat' ((fail_if_success with_reducible refine nph ?_); first | (with_reducible first | (refine d_seq ?_; intro K hK) | (refine hK _ _ ?_; clear hK K) | (refine SG.p ?_; try intro b)) | ((with_reducible refine SC.p ?_); refine And.intro ?_ ?_) <;> intro hc <;> try simp only [push_cast, Int.reduceEq, Int.reduceLT, Int.reduceLE, Int.reduceNe] at hc | with_reducible refine r_rq (by first | decide | omega) ?_ | ((with_reducible refine SL.p ?_); first | refine ⟨_, rfl, ?_⟩ | refine ⟨_, _, _, rfl, ?_⟩ | (refine ⟨?_, rfl, ?_⟩; focus (simp; done))) | ((with_reducible first | apply i_ldn | apply i_ldnq); exact rfl; exact rfl; exact rfl) | ((try with_reducible refine d_reg ?_); simp only [go_sem, Nat.reduceAdd, Nat.reduceEqDiff, Int.reduceToNat, Nat.reduceMul, Nat.reduceSub]) | clear hK K)
          all_goals try (exfalso; omega)
          all_goals try contradiction
          (with_reducible first | apply i_ret0 | apply i_ret2 | apply i_ret3 | apply i_ret); exact rfl
          rfl
end Go.Sp
/- What each region of the Go functions does. Written by my own generator. -/
namespace Go.Sp
open Go
set_option maxRecDepth 100000
set_option linter.unusedVariables false
open Go.Proofs
/-! gharry.gharrylaw08.WalReads -/
noncomputable def c7 : Cfg := { P := Tryz.prog, n := 192, T := TT, body := (Tryz.f7.body).getD .skip, res := Tryz.f7.results.toList, li := lk [] [(0, [0, 1, 2, 3]), (1, [0, 1, 2, 3]), (2, [0, 1, 2, 3, 9, 10]), (3, []), (4, [0, 1, 2, 3, 9]), (5, [0, 1, 2, 3, 11, 12]), (6, []), (7, [0, 1, 2, 3, 11]), (8, [0, 1, 2, 3, 11, 13]), (9, [0, 1, 2, 3, 11, 13, 14]), (10, [0, 1, 2, 3, 11, 13, 14]), (11, [0, 1, 2, 3, 11, 13, 14]), (12, [0, 1, 2, 3, 11, 13, 14, 15, 16]), (13, [0, 1, 2, 3, 11, 13, 14, 15, 16, 18]), (14, [0, 1, 2, 3, 11, 13, 14, 15]), (15, [0, 1, 2, 3, 11, 13, 14]), (16, [0, 1, 2, 3, 11, 13, 14]), (17, []), (18, [0, 1, 2, 3, 11, 13, 14]), (19, [2, 3, 11, 13]), (20, [2, 3, 11, 13, 19]), (21, [2, 3, 11, 13, 19, 20]), (22, [2, 3, 11, 13, 19, 20]), (23, [2, 3, 11, 13, 19, 20]), (24, [2, 3, 11, 13, 20]), (25, [2, 3, 11, 13, 19]), (26, []), (27, [2, 3, 11, 13, 19]), (28, [2, 3, 11, 13, 19, 21, 22, 23]), (29, [2, 3, 11, 13, 19, 22, 23]), (30, []), (31, [2, 3, 11, 13, 19, 21, 22, 23]), (32, [2, 3, 11, 13, 19, 21, 22, 23]), (33, [2, 3, 11, 13, 19, 22, 23, 24, 25]), (34, []), (35, [2, 3, 11, 13, 19])], lo := lk [] [(0, [0, 1, 2, 3]), (1, [0, 1, 2, 3, 9, 10]), (2, [0, 1, 2, 3, 9, 35]), (3, [8]), (4, [0, 1, 2, 3, 11, 12]), (5, [0, 1, 2, 3, 11, 46]), (6, [8]), (7, [0, 1, 2, 3, 11, 13]), (8, [0, 1, 2, 3, 11, 13, 14]), (9, [0, 1, 2, 3, 11, 13, 14, 56]), (10, [0, 1, 2, 3, 11, 13, 14]), (11, [0, 1, 2, 3, 11, 13, 14, 15, 16]), (12, [0, 1, 2, 3, 11, 13, 14, 15, 16, 18]), (13, [0, 1, 2, 3, 11, 13, 14, 15, 83]), (14, [0, 1, 2, 3, 11, 13, 14]), (15, [0, 1, 2, 3, 11, 13, 14, 96]), (16, [0, 1, 2, 3, 11, 13, 14, 99]), (17, [8]), (18, [0, 1, 2, 3, 11, 13, 14]), (19, [2, 3, 11, 13, 19]), (20, [2, 3, 11, 13, 19, 20]), (21, [2, 3, 11, 13, 19, 20, 114]), (22, [2, 3, 11, 13, 19, 20]), (23, [2, 3, 11, 13, 19, 20, 122]), (24, [2, 3, 11, 13, 19, 20]), (25, [2, 3, 11, 13, 19, 129]), (26, [8]), (27, [2, 3, 11, 13, 19, 21, 22, 23]), (28, [2, 3, 11, 13, 19, 21, 22, 23, 144]), (29, [2, 3, 11, 13, 19, 150]), (30, [8]), (31, [2, 3, 11, 13, 19, 21, 22, 23, 152]), (32, [2, 3, 11, 13, 19, 22, 23, 24, 25]), (33, [2, 3, 11, 13, 19, 182]), (34, [8]), (35, [8]), (1000000, [8])], ord := lk (false, []) [] }
@[go_sem] theorem c7_i0 : c7.li 0 = [0, 1, 2, 3] := rfl
@[go_sem] theorem c7_i1 : c7.li 1 = [0, 1, 2, 3] := rfl
@[go_sem] theorem c7_i2 : c7.li 2 = [0, 1, 2, 3, 9, 10] := rfl
@[go_sem] theorem c7_i3 : c7.li 3 = [] := rfl
@[go_sem] theorem c7_i4 : c7.li 4 = [0, 1, 2, 3, 9] := rfl
@[go_sem] theorem c7_i5 : c7.li 5 = [0, 1, 2, 3, 11, 12] := rfl
@[go_sem] theorem c7_i6 : c7.li 6 = [] := rfl
@[go_sem] theorem c7_i7 : c7.li 7 = [0, 1, 2, 3, 11] := rfl
@[go_sem] theorem c7_i8 : c7.li 8 = [0, 1, 2, 3, 11, 13] := rfl
@[go_sem] theorem c7_i9 : c7.li 9 = [0, 1, 2, 3, 11, 13, 14] := rfl
@[go_sem] theorem c7_i10 : c7.li 10 = [0, 1, 2, 3, 11, 13, 14] := rfl
@[go_sem] theorem c7_i11 : c7.li 11 = [0, 1, 2, 3, 11, 13, 14] := rfl
@[go_sem] theorem c7_i12 : c7.li 12 = [0, 1, 2, 3, 11, 13, 14, 15, 16] := rfl
@[go_sem] theorem c7_i13 : c7.li 13 = [0, 1, 2, 3, 11, 13, 14, 15, 16, 18] := rfl
@[go_sem] theorem c7_i14 : c7.li 14 = [0, 1, 2, 3, 11, 13, 14, 15] := rfl
@[go_sem] theorem c7_i15 : c7.li 15 = [0, 1, 2, 3, 11, 13, 14] := rfl
@[go_sem] theorem c7_i16 : c7.li 16 = [0, 1, 2, 3, 11, 13, 14] := rfl
@[go_sem] theorem c7_i17 : c7.li 17 = [] := rfl
@[go_sem] theorem c7_i18 : c7.li 18 = [0, 1, 2, 3, 11, 13, 14] := rfl
@[go_sem] theorem c7_i19 : c7.li 19 = [2, 3, 11, 13] := rfl
@[go_sem] theorem c7_i20 : c7.li 20 = [2, 3, 11, 13, 19] := rfl
@[go_sem] theorem c7_i21 : c7.li 21 = [2, 3, 11, 13, 19, 20] := rfl
@[go_sem] theorem c7_i22 : c7.li 22 = [2, 3, 11, 13, 19, 20] := rfl
@[go_sem] theorem c7_i23 : c7.li 23 = [2, 3, 11, 13, 19, 20] := rfl
@[go_sem] theorem c7_i24 : c7.li 24 = [2, 3, 11, 13, 20] := rfl
@[go_sem] theorem c7_i25 : c7.li 25 = [2, 3, 11, 13, 19] := rfl
@[go_sem] theorem c7_i26 : c7.li 26 = [] := rfl
@[go_sem] theorem c7_i27 : c7.li 27 = [2, 3, 11, 13, 19] := rfl
@[go_sem] theorem c7_i28 : c7.li 28 = [2, 3, 11, 13, 19, 21, 22, 23] := rfl
@[go_sem] theorem c7_i29 : c7.li 29 = [2, 3, 11, 13, 19, 22, 23] := rfl
@[go_sem] theorem c7_i30 : c7.li 30 = [] := rfl
@[go_sem] theorem c7_i31 : c7.li 31 = [2, 3, 11, 13, 19, 21, 22, 23] := rfl
@[go_sem] theorem c7_i32 : c7.li 32 = [2, 3, 11, 13, 19, 21, 22, 23] := rfl
@[go_sem] theorem c7_i33 : c7.li 33 = [2, 3, 11, 13, 19, 22, 23, 24, 25] := rfl
@[go_sem] theorem c7_i34 : c7.li 34 = [] := rfl
@[go_sem] theorem c7_i35 : c7.li 35 = [2, 3, 11, 13, 19] := rfl
@[go_sem] theorem c7_r0 (l0p : Option Addr) (l0n l0c : Nat) (flushed1 : Int) (lsn2 : Int) (most3 : Int) (K : Env → W) : RP c7 0 [(0, .slice l0p l0n l0c), (1, .int .i64 flushed1), (2, .int .i64 lsn2), (3, .int .i64 most3)] K =
    (K [(0, .slice l0p l0n l0c), (1, .int .i64 flushed1), (2, .int .i64 lsn2), (3, .int .i64 most3)]) := by kernel_rfl
@[go_sem] theorem c7_r1 (l0p : Option Addr) (l0n l0c : Nat) (flushed1 : Int) (lsn2 : Int) (most3 : Int) (K : Env → W) : RP c7 1 [(0, .slice l0p l0n l0c), (1, .int .i64 flushed1), (2, .int .i64 lsn2), (3, .int .i64 most3)] K =
    (cal (eT2 eP eI) Tryz.prog 16 #[.int .i64 (31 : Int)] fun (y1_ : ((Option Addr) × Int)) => (K [(0, .slice l0p l0n l0c), (1, .int .i64 flushed1), (2, .int .i64 lsn2), (3, .int .i64 most3), (9, .pointer y1_.1), (10, .int .i64 y1_.2)])) := by kernel_rfl
@[go_sem] theorem c7_r2 (l0p : Option Addr) (l0n l0c : Nat) (flushed1 : Int) (lsn2 : Int) (most3 : Int) (d9 : Option Addr) (e10 : Int) (K : Env → W) : RP c7 2 [(0, .slice l0p l0n l0c), (1, .int .i64 flushed1), (2, .int .i64 lsn2), (3, .int .i64 most3), (9, .pointer d9), (10, .int .i64 e10)] K =
    (cnd ((e10 != (0 : Int))) (K [(0, .slice l0p l0n l0c), (1, .int .i64 flushed1), (2, .int .i64 lsn2), (3, .int .i64 most3), (9, .pointer d9), (35, .bool true)]) (K [(0, .slice l0p l0n l0c), (1, .int .i64 flushed1), (2, .int .i64 lsn2), (3, .int .i64 most3), (9, .pointer d9), (35, .bool ((d9).isNone))])) := by kernel_rfl
@[go_sem] theorem c7_r3 (K : Env → W) : RP c7 3 [] K =
    (K [(8, .bool false)]) := by kernel_rfl
@[go_sem] theorem c7_r4 (l0p : Option Addr) (l0n l0c : Nat) (flushed1 : Int) (lsn2 : Int) (most3 : Int) (d9 : Option Addr) (K : Env → W) : RP c7 4 [(0, .slice l0p l0n l0c), (1, .int .i64 flushed1), (2, .int .i64 lsn2), (3, .int .i64 most3), (9, .pointer d9)] K =
    (cal (eT2 eP eI) Tryz.prog 17 #[.pointer d9, .int .i64 (1 : Int), .int .i64 (30 : Int), .int .i64 (1 : Int)] fun (y1_ : ((Option Addr) × Int)) => (K [(0, .slice l0p l0n l0c), (1, .int .i64 flushed1), (2, .int .i64 lsn2), (3, .int .i64 most3), (11, .pointer y1_.1), (12, .int .i64 y1_.2)])) := by kernel_rfl
@[go_sem] theorem c7_r5 (l0p : Option Addr) (l0n l0c : Nat) (flushed1 : Int) (lsn2 : Int) (most3 : Int) (w11 : Option Addr) (f12 : Int) (K : Env → W) : RP c7 5 [(0, .slice l0p l0n l0c), (1, .int .i64 flushed1), (2, .int .i64 lsn2), (3, .int .i64 most3), (11, .pointer w11), (12, .int .i64 f12)] K =
    (cnd ((f12 != (0 : Int))) (K [(0, .slice l0p l0n l0c), (1, .int .i64 flushed1), (2, .int .i64 lsn2), (3, .int .i64 most3), (11, .pointer w11), (46, .bool true)]) (K [(0, .slice l0p l0n l0c), (1, .int .i64 flushed1), (2, .int .i64 lsn2), (3, .int .i64 most3), (11, .pointer w11), (46, .bool ((w11).isNone))])) := by kernel_rfl
@[go_sem] theorem c7_r6 (K : Env → W) : RP c7 6 [] K =
    (K [(8, .bool false)]) := by kernel_rfl
@[go_sem] theorem c7_r7 (l0p : Option Addr) (l0n l0c : Nat) (flushed1 : Int) (lsn2 : Int) (most3 : Int) (w11 : Option Addr) (K : Env → W) : RP c7 7 [(0, .slice l0p l0n l0c), (1, .int .i64 flushed1), (2, .int .i64 lsn2), (3, .int .i64 most3), (11, .pointer w11)] K =
    (nwc #[.slice none 0 0, .int .i64 (0 : Int), .int .i64 (1 : Int), .int .i64 (1740 : Int)] 60 fun y1_ => (K [(0, .slice l0p l0n l0c), (1, .int .i64 flushed1), (2, .int .i64 lsn2), (3, .int .i64 most3), (11, .pointer w11), (13, .pointer (some y1_))])) := by kernel_rfl
@[go_sem] theorem c7_r8 (l0p : Option Addr) (l0n l0c : Nat) (flushed1 : Int) (lsn2 : Int) (most3 : Int) (w11 : Option Addr) (p13 : Addr) (K : Env → W) : RP c7 8 [(0, .slice l0p l0n l0c), (1, .int .i64 flushed1), (2, .int .i64 lsn2), (3, .int .i64 most3), (11, .pointer w11), (13, .pointer (some p13))] K =
    (K [(0, .slice l0p l0n l0c), (1, .int .i64 flushed1), (2, .int .i64 lsn2), (3, .int .i64 most3), (11, .pointer w11), (13, .pointer (some p13)), (14, .int .i64 (0 : Int))]) := by kernel_rfl
@[go_sem] theorem c7_r9 (l0p : Option Addr) (l0n l0c : Nat) (flushed1 : Int) (lsn2 : Int) (most3 : Int) (w11 : Option Addr) (p13 : Addr) (i14 : Int) (K : Env → W) : RP c7 9 [(0, .slice l0p l0n l0c), (1, .int .i64 flushed1), (2, .int .i64 lsn2), (3, .int .i64 most3), (11, .pointer w11), (13, .pointer (some p13)), (14, .int .i64 i14)] K =
    (cnd ((decide (i14 < (l0n : Int)))) (K [(0, .slice l0p l0n l0c), (1, .int .i64 flushed1), (2, .int .i64 lsn2), (3, .int .i64 most3), (11, .pointer w11), (13, .pointer (some p13)), (14, .int .i64 i14), (56, .bool ((decide (i14 < (20 : Int)))))]) (K [(0, .slice l0p l0n l0c), (1, .int .i64 flushed1), (2, .int .i64 lsn2), (3, .int .i64 most3), (11, .pointer w11), (13, .pointer (some p13)), (14, .int .i64 i14), (56, .bool false)])) := by kernel_rfl
@[go_sem] theorem c7_r10 (l0p : Option Addr) (l0n l0c : Nat) (flushed1 : Int) (lsn2 : Int) (most3 : Int) (w11 : Option Addr) (p13 : Addr) (i14 : Int) (K : Env → W) : RP c7 10 [(0, .slice l0p l0n l0c), (1, .int .i64 flushed1), (2, .int .i64 lsn2), (3, .int .i64 most3), (11, .pointer w11), (13, .pointer (some p13)), (14, .int .i64 i14)] K =
    (K [(0, .slice l0p l0n l0c), (1, .int .i64 flushed1), (2, .int .i64 lsn2), (3, .int .i64 most3), (11, .pointer w11), (13, .pointer (some p13)), (14, .int .i64 ((IntKind.wrap .i64 (i14 + (1 : Int)))))]) := by kernel_rfl
@[go_sem] theorem c7_r11 (l0p : Option Addr) (l0n l0c : Nat) (flushed1 : Int) (lsn2 : Int) (most3 : Int) (w11 : Option Addr) (p13 : Addr) (i14 : Int) (K : Env → W) : RP c7 11 [(0, .slice l0p l0n l0c), (1, .int .i64 flushed1), (2, .int .i64 lsn2), (3, .int .i64 most3), (11, .pointer w11), (13, .pointer (some p13)), (14, .int .i64 i14)] K =
    (rq (0 ≤ i14 ∧ i14 < (l0n : Int)) (nn l0p fun y1_ => (ldn e_api_Rec 13 ((Addr.add y1_ ((i14).toNat * 13))) fun (y2_ : api_Rec) => (cal e_api_Rec Tryz.prog 19 #[v_api_Rec y2_] fun (y3_ : api_Rec) => (cal (eT2 eS eI) Tryz.prog 18 #[v_api_Rec y3_] fun (y4_ : ((List UInt8) × Int)) => (K [(0, .slice l0p l0n l0c), (1, .int .i64 flushed1), (2, .int .i64 lsn2), (3, .int .i64 most3), (11, .pointer w11), (13, .pointer (some p13)), (14, .int .i64 i14), (15, str y4_.1), (16, .int .i64 y4_.2)])))))) := by kernel_rfl
@[go_sem] theorem c7_r12 (l0p : Option Addr) (l0n l0c : Nat) (flushed1 : Int) (lsn2 : Int) (most3 : Int) (w11 : Option Addr) (p13 : Addr) (i14 : Int) (s15 : List UInt8) (g16 : Int) (K : Env → W) : RP c7 12 [(0, .slice l0p l0n l0c), (1, .int .i64 flushed1), (2, .int .i64 lsn2), (3, .int .i64 most3), (11, .pointer w11), (13, .pointer (some p13)), (14, .int .i64 i14), (15, str s15), (16, .int .i64 g16)] K =
    (rq (0 ≤ i14 ∧ i14 < (l0n : Int)) (nn l0p fun y1_ => (ldn e_api_Rec 13 ((Addr.add y1_ ((i14).toNat * 13))) fun (y2_ : api_Rec) => (cal e_api_Rec Tryz.prog 19 #[v_api_Rec y2_] fun (y3_ : api_Rec) => (cal (eT2 eI eI) Tryz.prog 20 #[.pointer w11, v_api_Rec y3_] fun (y4_ : (Int × Int)) => (K [(0, .slice l0p l0n l0c), (1, .int .i64 flushed1), (2, .int .i64 lsn2), (3, .int .i64 most3), (11, .pointer w11), (13, .pointer (some p13)), (14, .int .i64 i14), (15, str s15), (16, .int .i64 g16), (18, .int .i64 y4_.2)])))))) := by kernel_rfl
@[go_sem] theorem c7_r13 (l0p : Option Addr) (l0n l0c : Nat) (flushed1 : Int) (lsn2 : Int) (most3 : Int) (w11 : Option Addr) (p13 : Addr) (i14 : Int) (s15 : List UInt8) (g16 : Int) (h18 : Int) (K : Env → W) : RP c7 13 [(0, .slice l0p l0n l0c), (1, .int .i64 flushed1), (2, .int .i64 lsn2), (3, .int .i64 most3), (11, .pointer w11), (13, .pointer (some p13)), (14, .int .i64 i14), (15, str s15), (16, .int .i64 g16), (18, .int .i64 h18)] K =
    (cnd ((g16 == (0 : Int))) (K [(0, .slice l0p l0n l0c), (1, .int .i64 flushed1), (2, .int .i64 lsn2), (3, .int .i64 most3), (11, .pointer w11), (13, .pointer (some p13)), (14, .int .i64 i14), (15, str s15), (83, .bool ((h18 == (0 : Int))))]) (K [(0, .slice l0p l0n l0c), (1, .int .i64 flushed1), (2, .int .i64 lsn2), (3, .int .i64 most3), (11, .pointer w11), (13, .pointer (some p13)), (14, .int .i64 i14), (15, str s15), (83, .bool false)])) := by kernel_rfl
@[go_sem] theorem c7_r14 (l0p : Option Addr) (l0n l0c : Nat) (flushed1 : Int) (lsn2 : Int) (most3 : Int) (w11 : Option Addr) (p13 : Addr) (i14 : Int) (s15 : List UInt8) (K : Env → W) : RP c7 14 [(0, .slice l0p l0n l0c), (1, .int .i64 flushed1), (2, .int .i64 lsn2), (3, .int .i64 most3), (11, .pointer w11), (13, .pointer (some p13)), (14, .int .i64 i14), (15, str s15)] K =
    (ld eSl p13 fun (y1_ : (Option Addr × Nat × Nat)) => (nwc #[str s15] 9 fun y2_ => (val eSl Tryz.prog (oB_append #[44, 44] 44 #[.slice y1_.1 y1_.2.1 y1_.2.2, .slice ((some y2_)) 1 1]) fun (y3_ : (Option Addr × Nat × Nat)) => (st p13 (.slice y3_.1 y3_.2.1 y3_.2.2) (K [(0, .slice l0p l0n l0c), (1, .int .i64 flushed1), (2, .int .i64 lsn2), (3, .int .i64 most3), (11, .pointer w11), (13, .pointer (some p13)), (14, .int .i64 i14)]))))) := by kernel_rfl
@[go_sem] theorem c7_r15 (l0p : Option Addr) (l0n l0c : Nat) (flushed1 : Int) (lsn2 : Int) (most3 : Int) (w11 : Option Addr) (p13 : Addr) (i14 : Int) (K : Env → W) : RP c7 15 [(0, .slice l0p l0n l0c), (1, .int .i64 flushed1), (2, .int .i64 lsn2), (3, .int .i64 most3), (11, .pointer w11), (13, .pointer (some p13)), (14, .int .i64 i14)] K =
    (K [(0, .slice l0p l0n l0c), (1, .int .i64 flushed1), (2, .int .i64 lsn2), (3, .int .i64 most3), (11, .pointer w11), (13, .pointer (some p13)), (14, .int .i64 i14), (96, .bool ((i14 == flushed1)))]) := by kernel_rfl
@[go_sem] theorem c7_r16 (l0p : Option Addr) (l0n l0c : Nat) (flushed1 : Int) (lsn2 : Int) (most3 : Int) (w11 : Option Addr) (p13 : Addr) (i14 : Int) (K : Env → W) : RP c7 16 [(0, .slice l0p l0n l0c), (1, .int .i64 flushed1), (2, .int .i64 lsn2), (3, .int .i64 most3), (11, .pointer w11), (13, .pointer (some p13)), (14, .int .i64 i14)] K =
    (cal eI Tryz.prog 21 #[.pointer w11] fun (y1_ : Int) => (K [(0, .slice l0p l0n l0c), (1, .int .i64 flushed1), (2, .int .i64 lsn2), (3, .int .i64 most3), (11, .pointer w11), (13, .pointer (some p13)), (14, .int .i64 i14), (99, .bool ((y1_ != (0 : Int))))])) := by kernel_rfl
@[go_sem] theorem c7_r17 (K : Env → W) : RP c7 17 [] K =
    (K [(8, .bool false)]) := by kernel_rfl
@[go_sem] theorem c7_r18 (l0p : Option Addr) (l0n l0c : Nat) (flushed1 : Int) (lsn2 : Int) (most3 : Int) (w11 : Option Addr) (p13 : Addr) (i14 : Int) (K : Env → W) : RP c7 18 [(0, .slice l0p l0n l0c), (1, .int .i64 flushed1), (2, .int .i64 lsn2), (3, .int .i64 most3), (11, .pointer w11), (13, .pointer (some p13)), (14, .int .i64 i14)] K =
    (ld eSl p13 fun (y1_ : (Option Addr × Nat × Nat)) => (st ((p13.add 1)) (.int .i64 ((y1_.2.1 : Int))) (K [(0, .slice l0p l0n l0c), (1, .int .i64 flushed1), (2, .int .i64 lsn2), (3, .int .i64 most3), (11, .pointer w11), (13, .pointer (some p13)), (14, .int .i64 i14)]))) := by kernel_rfl
@[go_sem] theorem c7_r19 (lsn2 : Int) (most3 : Int) (w11 : Option Addr) (p13 : Addr) (K : Env → W) : RP c7 19 [(2, .int .i64 lsn2), (3, .int .i64 most3), (11, .pointer w11), (13, .pointer (some p13))] K =
    (K [(2, .int .i64 lsn2), (3, .int .i64 most3), (11, .pointer w11), (13, .pointer (some p13)), (19, .int .i64 (-1 : Int))]) := by kernel_rfl
@[go_sem] theorem c7_r20 (lsn2 : Int) (most3 : Int) (w11 : Option Addr) (p13 : Addr) (k19 : Int) (K : Env → W) : RP c7 20 [(2, .int .i64 lsn2), (3, .int .i64 most3), (11, .pointer w11), (13, .pointer (some p13)), (19, .int .i64 k19)] K =
    (K [(2, .int .i64 lsn2), (3, .int .i64 most3), (11, .pointer w11), (13, .pointer (some p13)), (19, .int .i64 k19), (20, .int .i64 (0 : Int))]) := by kernel_rfl
@[go_sem] theorem c7_r21 (lsn2 : Int) (most3 : Int) (w11 : Option Addr) (p13 : Addr) (k19 : Int) (i20 : Int) (K : Env → W) : RP c7 21 [(2, .int .i64 lsn2), (3, .int .i64 most3), (11, .pointer w11), (13, .pointer (some p13)), (19, .int .i64 k19), (20, .int .i64 i20)] K =
    (ld eSl p13 fun (y1_ : (Option Addr × Nat × Nat)) => (K [(2, .int .i64 lsn2), (3, .int .i64 most3), (11, .pointer w11), (13, .pointer (some p13)), (19, .int .i64 k19), (20, .int .i64 i20), (114, .bool ((decide (i20 ≤ (y1_.2.1 : Int)))))])) := by kernel_rfl
@[go_sem] theorem c7_r22 (lsn2 : Int) (most3 : Int) (w11 : Option Addr) (p13 : Addr) (k19 : Int) (i20 : Int) (K : Env → W) : RP c7 22 [(2, .int .i64 lsn2), (3, .int .i64 most3), (11, .pointer w11), (13, .pointer (some p13)), (19, .int .i64 k19), (20, .int .i64 i20)] K =
    (K [(2, .int .i64 lsn2), (3, .int .i64 most3), (11, .pointer w11), (13, .pointer (some p13)), (19, .int .i64 k19), (20, .int .i64 ((IntKind.wrap .i64 (i20 + (1 : Int)))))]) := by kernel_rfl
@[go_sem] theorem c7_r23 (lsn2 : Int) (most3 : Int) (w11 : Option Addr) (p13 : Addr) (k19 : Int) (i20 : Int) (K : Env → W) : RP c7 23 [(2, .int .i64 lsn2), (3, .int .i64 most3), (11, .pointer w11), (13, .pointer (some p13)), (19, .int .i64 k19), (20, .int .i64 i20)] K =
    (cal eI Tryz.prog 34 #[.pointer (some p13), .int .i64 i20] fun (y1_ : Int) => (K [(2, .int .i64 lsn2), (3, .int .i64 most3), (11, .pointer w11), (13, .pointer (some p13)), (19, .int .i64 k19), (20, .int .i64 i20), (122, .bool (((IntKind.wrap .i64 ((1 : Int) + y1_)) == lsn2)))])) := by kernel_rfl
@[go_sem] theorem c7_r24 (lsn2 : Int) (most3 : Int) (w11 : Option Addr) (p13 : Addr) (i20 : Int) (K : Env → W) : RP c7 24 [(2, .int .i64 lsn2), (3, .int .i64 most3), (11, .pointer w11), (13, .pointer (some p13)), (20, .int .i64 i20)] K =
    (K [(2, .int .i64 lsn2), (3, .int .i64 most3), (11, .pointer w11), (13, .pointer (some p13)), (19, .int .i64 i20), (20, .int .i64 i20)]) := by kernel_rfl
@[go_sem] theorem c7_r25 (lsn2 : Int) (most3 : Int) (w11 : Option Addr) (p13 : Addr) (k19 : Int) (K : Env → W) : RP c7 25 [(2, .int .i64 lsn2), (3, .int .i64 most3), (11, .pointer w11), (13, .pointer (some p13)), (19, .int .i64 k19)] K =
    (cal eB Tryz.prog 32 #[.pointer w11, .int .i64 lsn2] fun (y1_ : Bool) => (K [(2, .int .i64 lsn2), (3, .int .i64 most3), (11, .pointer w11), (13, .pointer (some p13)), (19, .int .i64 k19), (129, .bool ((!(y1_ == (decide ((0 : Int) ≤ k19))))))])) := by kernel_rfl
@[go_sem] theorem c7_r26 (K : Env → W) : RP c7 26 [] K =
    (K [(8, .bool false)]) := by kernel_rfl
@[go_sem] theorem c7_r27 (lsn2 : Int) (most3 : Int) (w11 : Option Addr) (p13 : Addr) (k19 : Int) (K : Env → W) : RP c7 27 [(2, .int .i64 lsn2), (3, .int .i64 most3), (11, .pointer w11), (13, .pointer (some p13)), (19, .int .i64 k19)] K =
    (cal (eT3 e_api_Rec eI eI) Tryz.prog 35 #[.pointer w11, .int .i64 lsn2] fun (y1_ : (api_Rec × Int × Int)) => (nwc #[.int .i64 (0 : Int), .int .i64 (0 : Int), .int .i64 (0 : Int), .int .i64 (0 : Int), .int .i64 (0 : Int), str (([] : List UInt8)), str (([] : List UInt8)), str (([] : List UInt8)), .int .i64 (0 : Int), .slice none 0 0, .slice none 0 0, .int .i64 (0 : Int), .int .i64 (0 : Int)] 36 fun y2_ => (stl [.int .i64 y1_.1.Kind, .int .i64 y1_.1.Txn, .int .i64 y1_.1.Prev, .int .i64 y1_.1.Page, .int .i64 y1_.1.Act, str y1_.1.Key, str y1_.1.Old, str y1_.1.New, .int .i64 y1_.1.Next, .slice y1_.1.Images.1 y1_.1.Images.2.1 y1_.1.Images.2.2, .slice y1_.1.Table.1 y1_.1.Table.2.1 y1_.1.Table.2.2, .int .i64 y1_.1.Epoch, .int .i64 y1_.1.Node] y2_ 0 (K [(2, .int .i64 lsn2), (3, .int .i64 most3), (11, .pointer w11), (13, .pointer (some p13)), (19, .int .i64 k19), (21, .pointer (some y2_)), (22, .int .i64 y1_.2.1), (23, .int .i64 y1_.2.2)])))) := by kernel_rfl
@[go_sem] theorem c7_r28 (lsn2 : Int) (most3 : Int) (w11 : Option Addr) (p13 : Addr) (k19 : Int) (r21 : Addr) (next22 : Int) (g23 : Int) (K : Env → W) : RP c7 28 [(2, .int .i64 lsn2), (3, .int .i64 most3), (11, .pointer w11), (13, .pointer (some p13)), (19, .int .i64 k19), (21, .pointer (some r21)), (22, .int .i64 next22), (23, .int .i64 g23)] K =
    (cnd ((decide (lsn2 < (1 : Int)))) (K [(2, .int .i64 lsn2), (3, .int .i64 most3), (11, .pointer w11), (13, .pointer (some p13)), (19, .int .i64 k19), (21, .pointer (some r21)), (22, .int .i64 next22), (23, .int .i64 g23), (144, .bool true)]) (cal eI Tryz.prog 28 #[.pointer w11] fun (y1_ : Int) => (K [(2, .int .i64 lsn2), (3, .int .i64 most3), (11, .pointer w11), (13, .pointer (some p13)), (19, .int .i64 k19), (21, .pointer (some r21)), (22, .int .i64 next22), (23, .int .i64 g23), (144, .bool ((decide (y1_ ≤ lsn2))))]))) := by kernel_rfl
@[go_sem] theorem c7_r29 (lsn2 : Int) (most3 : Int) (w11 : Option Addr) (p13 : Addr) (k19 : Int) (next22 : Int) (g23 : Int) (K : Env → W) : RP c7 29 [(2, .int .i64 lsn2), (3, .int .i64 most3), (11, .pointer w11), (13, .pointer (some p13)), (19, .int .i64 k19), (22, .int .i64 next22), (23, .int .i64 g23)] K =
    (cnd ((next22 != (0 : Int))) (K [(2, .int .i64 lsn2), (3, .int .i64 most3), (11, .pointer w11), (13, .pointer (some p13)), (19, .int .i64 k19), (150, .bool true)]) (K [(2, .int .i64 lsn2), (3, .int .i64 most3), (11, .pointer w11), (13, .pointer (some p13)), (19, .int .i64 k19), (150, .bool ((g23 != (8 : Int))))])) := by kernel_rfl
@[go_sem] theorem c7_r30 (K : Env → W) : RP c7 30 [] K =
    (K [(8, .bool false)]) := by kernel_rfl
@[go_sem] theorem c7_r31 (lsn2 : Int) (most3 : Int) (w11 : Option Addr) (p13 : Addr) (k19 : Int) (r21 : Addr) (next22 : Int) (g23 : Int) (K : Env → W) : RP c7 31 [(2, .int .i64 lsn2), (3, .int .i64 most3), (11, .pointer w11), (13, .pointer (some p13)), (19, .int .i64 k19), (21, .pointer (some r21)), (22, .int .i64 next22), (23, .int .i64 g23)] K =
    (K [(2, .int .i64 lsn2), (3, .int .i64 most3), (11, .pointer w11), (13, .pointer (some p13)), (19, .int .i64 k19), (21, .pointer (some r21)), (22, .int .i64 next22), (23, .int .i64 g23), (152, .bool ((decide ((0 : Int) ≤ k19))))]) := by kernel_rfl
@[go_sem] theorem c7_r32 (lsn2 : Int) (most3 : Int) (w11 : Option Addr) (p13 : Addr) (k19 : Int) (r21 : Addr) (next22 : Int) (g23 : Int) (K : Env → W) : RP c7 32 [(2, .int .i64 lsn2), (3, .int .i64 most3), (11, .pointer w11), (13, .pointer (some p13)), (19, .int .i64 k19), (21, .pointer (some r21)), (22, .int .i64 next22), (23, .int .i64 g23)] K =
    (ldn e_api_Rec 13 r21 fun (y1_ : api_Rec) => (cal (eT2 eS eI) Tryz.prog 18 #[v_api_Rec y1_] fun (y2_ : ((List UInt8) × Int)) => (K [(2, .int .i64 lsn2), (3, .int .i64 most3), (11, .pointer w11), (13, .pointer (some p13)), (19, .int .i64 k19), (22, .int .i64 next22), (23, .int .i64 g23), (24, str y2_.1), (25, .int .i64 y2_.2)]))) := by kernel_rfl
@[go_sem] theorem c7_r33 (lsn2 : Int) (most3 : Int) (w11 : Option Addr) (p13 : Addr) (k19 : Int) (next22 : Int) (g23 : Int) (s24 : List UInt8) (h25 : Int) (K : Env → W) : RP c7 33 [(2, .int .i64 lsn2), (3, .int .i64 most3), (11, .pointer w11), (13, .pointer (some p13)), (19, .int .i64 k19), (22, .int .i64 next22), (23, .int .i64 g23), (24, str s24), (25, .int .i64 h25)] K =
    (cnd ((g23 != (0 : Int))) (K [(2, .int .i64 lsn2), (3, .int .i64 most3), (11, .pointer w11), (13, .pointer (some p13)), (19, .int .i64 k19), (182, .bool true)]) (cnd ((h25 != (0 : Int))) (K [(2, .int .i64 lsn2), (3, .int .i64 most3), (11, .pointer w11), (13, .pointer (some p13)), (19, .int .i64 k19), (182, .bool true)]) (ld eSl p13 fun (y1_ : (Option Addr × Nat × Nat)) => (rq (0 ≤ k19 ∧ k19 < (y1_.2.1 : Int)) (nn y1_.1 fun y2_ => (ld eS ((Addr.add y2_ ((k19).toNat * 1))) fun (y3_ : List UInt8) => (cnd ((!(s24 == y3_))) (K [(2, .int .i64 lsn2), (3, .int .i64 most3), (11, .pointer w11), (13, .pointer (some p13)), (19, .int .i64 k19), (182, .bool true)]) (K [(2, .int .i64 lsn2), (3, .int .i64 most3), (11, .pointer w11), (13, .pointer (some p13)), (19, .int .i64 k19), (182, .bool ((next22 != (IntKind.wrap .i64 (lsn2 + ((s24).length : Int))))))])))))))) := by kernel_rfl
@[go_sem] theorem c7_r34 (K : Env → W) : RP c7 34 [] K =
    (K [(8, .bool false)]) := by kernel_rfl
@[go_sem] theorem c7_r35 (lsn2 : Int) (most3 : Int) (w11 : Option Addr) (p13 : Addr) (k19 : Int) (K : Env → W) : RP c7 35 [(2, .int .i64 lsn2), (3, .int .i64 most3), (11, .pointer w11), (13, .pointer (some p13)), (19, .int .i64 k19)] K =
    (cal eB Tryz.prog 36 #[.pointer w11, .pointer (some p13), .int .i64 k19, .int .i64 lsn2, .int .i64 most3] fun (y1_ : Bool) => (cnd y1_ (cal eB Tryz.prog 15 #[] fun (y2_ : Bool) => (K [(8, .bool y2_)])) (K [(8, .bool false)]))) := by kernel_rfl
@[go_sem] theorem c7_o : c7.lo 1000000 = [8] := rfl
@[go_sem] theorem c7_e (t8 : Bool) (k : Value → W) : RTp c7 [(8, .bool t8)] k = (k (.bool t8)) := by kernel_rfl
theorem c7_ok : (c7.P.follows .mixedOrders && okc c7 c7.body) = true := by kernel_rfl
theorem c7_fn {e : Enc} {args : Array Value} {G : e.α → W} {L : List HP} {ρ : Env} (hρ : envA 0 args.toList = ρ) (hs : Nat.ble args.size 192 = true) (h : E L (D c7 (.seq (.reg 0) (.seq (.reg 1) (.seq (.seq (.reg 2) (.cond (.tmp 35) (.seq (.reg 3) (.ret)) (.skip))) (.seq (.reg 4) (.seq (.seq (.reg 5) (.cond (.tmp 46) (.seq (.reg 6) (.ret)) (.skip))) (.seq (.reg 7) (.seq (.seq (.reg 8) (.block 0 (.loop (.seq (.seq (.reg 9) (.cond (.tmp 56) (.skip) (.exit 0))) (.seq (.block 1 (.seq (.reg 11) (.seq (.reg 12) (.seq (.seq (.reg 13) (.cond (.tmp 83) (.reg 14) (.skip))) (.seq (.reg 15) (.cond (.tmp 96) (.seq (.seq (.reg 16) (.cond (.tmp 99) (.seq (.reg 17) (.ret)) (.skip))) (.reg 18)) (.skip))))))) (.reg 10)))))) (.seq (.reg 19) (.seq (.seq (.reg 20) (.block 2 (.loop (.seq (.seq (.reg 21) (.cond (.tmp 114) (.skip) (.exit 2))) (.seq (.block 3 (.seq (.reg 23) (.cond (.tmp 122) (.reg 24) (.skip)))) (.reg 22)))))) (.seq (.seq (.reg 25) (.cond (.tmp 129) (.seq (.reg 26) (.ret)) (.skip))) (.seq (.reg 27) (.seq (.seq (.reg 28) (.cond (.tmp 144) (.seq (.reg 29) (.cond (.tmp 150) (.seq (.reg 30) (.ret)) (.skip))) (.seq (.reg 31) (.cond (.tmp 152) (.seq (.reg 32) (.seq (.reg 33) (.cond (.tmp 182) (.seq (.reg 34) (.ret)) (.skip)))) (.skip))))) (.seq (.reg 35) (.ret)))))))))))))) (fnQ c7 e G) ρ)) : E L (cal e Tryz.prog 7 args G) :=
  d_fn (c := c7) Tryz.func7 (by kernel_rfl) (by kernel_rfl) (by kernel_rfl) c7_ok (by kernel_rfl) (by kernel_rfl) hρ hs h
-- loop (first region 21): live slots 2:lsn2 3:most3 11:w11 13:p13 19:k19 20:i20, of which it writes [19, 20]
-- loop (first region 9): live slots 0:l0 1:flushed1 2:lsn2 3:most3 11:w11 13:p13 14:i14, of which it writes [14]
end Go.Sp
