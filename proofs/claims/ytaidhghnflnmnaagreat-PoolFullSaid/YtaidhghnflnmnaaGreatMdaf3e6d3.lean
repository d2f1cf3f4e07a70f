/- Texts of a proof, one behind the other: S3 S4 S5 U2 U3 U4 U5 U6 K26 K27 Gp0 P1 P2 U7. No condition. -/
import Derived.Test.YtaidhghnflnmnaaGreatM82fb4eb9
import Derived.Test.YtaidhghnflnmnaaGreatM504112b3
import Derived.Test.YtaidhghnflnmnaaGreatMd541d382
/- The store: a page is read. -/
namespace Go.Sp
open Go Go.Proofs
set_option linter.unusedSimpArgs false
set_option linter.unusedVariables false
set_option maxRecDepth 10000
def Dk.sc (Z : Dk) (a i : Nat) : List UInt8 := Z.get ((a + i : Nat) : Int)
def Dk.rtx (Z : Dk) (a : Nat) : Nat → List UInt8
  | 0 => []
  | i + 1 => Z.rtx a i ++ (Z.sc a i).drop 8
def Dk.rsm (Z : Dk) (a gen : Nat) : Nat → Bool
  | 0 => false
  | i + 1 => Z.rsm a gen i || (be ((Z.sc a i).take 2) == gen)
def Dk.rwh (Z : Dk) (a : Nat) : Nat → Bool
  | 0 => true
  | i + 1 => Z.rwh a i && ((Z.sc a i).take 8 == (Z.sc a 0).take 8)
def Dk.rpg (Z : Dk) (S : St) (id : Int) : List UInt8 × Int × Int :=
  if S.chk id = 0 then (if Z.up then (if Z.rsm (S.base + 4 * id.toNat) S.gen 4 then (if Z.rwh (S.base + 4 * id.toNat) 4 then (Z.rtx (S.base + 4 * id.toNat) 4, (be ((((Z.sc (S.base + 4 * id.toNat) 0).take 8).drop 2).take 6) : Int), 0) else ([], 0, 10)) else ([], 0, 8)) else ([], 0, 9)) else ([], 0, 6)
theorem ss_08 (s : List UInt8) : ss s 0 8 = s.take 8 := by unfold ss; simp
theorem ss_8n {s : List UInt8} : ss s 8 (s.length : Int) = s.drop 8 := by unfold ss; simp
theorem nbeq (m n : Nat) : ((m : Int) == (n : Int)) = (m == n) := by
  rw [Bool.eq_iff_iff, beq_iff_eq, beq_iff_eq]
  omega
set_option maxHeartbeats 1000000 in
theorem f49 (S : St) (Z : Dk) (h : Z.ok) (hS : S.ok Z.sure.length) (id : Int) : Fp (eT3 eS eI eI) Tryz.prog 65 #[S.p, .int .i64 id] [spt S Z.sb, dk Z] (Z.rpg S id) := by
  have C := f82 S Z.sb id
  unfold Dk.rpg
  rcases S.chk_or id with hc | hc
  · rw [hc] at C ⊢
    rw [if_neg (by decide : ¬ (6 : Int) = 0)]
    intro L
    refine c65_fn rfl rfl ?_
    repeat' ((fail_if_success with_reducible refine nph ?_); first | (with_reducible first | (refine d_seq ?_; intro K hK) | (refine hK _ _ ?_; clear hK K) | (refine SG.p ?_; try intro b)) | ((with_reducible refine SC.p ?_); refine And.intro ?_ ?_) <;> intro hc <;> try simp only [push_cast, Int.reduceEq, Int.reduceLT, Int.reduceLE, Int.reduceNe] at hc | with_reducible refine r_rq (by first | decide | omega) ?_ | ((with_reducible refine SL.p ?_); first | refine ⟨_, rfl, ?_⟩ | refine ⟨_, _, _, rfl, ?_⟩ | (refine ⟨?_, rfl, ?_⟩; focus (simp; done))) | ((with_reducible first | apply i_ldn | apply i_ldnq); exact rfl; exact rfl; exact rfl) | ((try with_reducible refine d_reg ?_); simp only [go_sem, Nat.reduceAdd, Nat.reduceEqDiff, Int.reduceToNat, Nat.reduceMul, Nat.reduceSub]) | clear hK K)
    refine i_clp C ?_
    repeat' ((fail_if_success with_reducible refine nph ?_); first | (with_reducible first | (refine d_seq ?_; intro K hK) | (refine hK _ _ ?_; clear hK K) | (refine SG.p ?_; try intro b)) | ((with_reducible refine SC.p ?_); refine And.intro ?_ ?_) <;> intro hc <;> try simp only [push_cast, Int.reduceEq, Int.reduceLT, Int.reduceLE, Int.reduceNe] at hc | with_reducible refine r_rq (by first | decide | omega) ?_ | ((with_reducible refine SL.p ?_); first | refine ⟨_, rfl, ?_⟩ | refine ⟨_, _, _, rfl, ?_⟩ | (refine ⟨?_, rfl, ?_⟩; focus (simp; done))) | ((with_reducible first | apply i_ldn | apply i_ldnq); exact rfl; exact rfl; exact rfl) | ((try with_reducible refine d_reg ?_); simp only [go_sem, Nat.reduceAdd, Nat.reduceEqDiff, Int.reduceToNat, Nat.reduceMul, Nat.reduceSub]) | clear hK K)
    all_goals try (first | contradiction | (simp only [ reduceCtorEq] at *; done) | (exfalso; omega))
    (with_reducible first | apply i_ret0 | apply i_ret2 | apply i_ret3 | apply i_ret); exact rfl
    rfl
  · obtain ⟨p, rfl, hp⟩ := St.chk_in hc
    rw [hc] at C ⊢
    rw [if_pos rfl, Int.toNat_natCast]
    obtain ⟨a, ha⟩ : ∃ a, a = S.base + 4 * p := ⟨_, rfl⟩
    rw [← ha]
    have hfit := hS.fit
    have hn1 := hS.n1
    have e3 : ∀ i : Nat, i < 4 → IntKind.wrap .i64 (IntKind.wrap .i64 ((S.base : Int) + IntKind.wrap .i64 (4 * (p : Int))) + (i : Int)) = ((a + i : Nat) : Int) := fun i hi => by
      rw [w64 (n := 4 * (p : Int)) (by omega) (by omega), w64 (n := (S.base : Int) + 4 * (p : Int)) (by omega) (by omega), w64 (by omega) (by omega)]; omega
    clear hc
    cases hu : Z.up
    · have F : Fp (eT2 eS eI) Tryz.prog 22 #[.pointer (some ⟨Z.sb, 0, none⟩), .int .i64 ((a + 0 : Nat) : Int)] [dk Z] ([], 9) := by
        have := F31 Z h ((a + 0 : Nat) : Int)
        have e : Z.chk ((a + 0 : Nat) : Int) = 9 := by unfold Dk.chk; rw [hu, if_pos rfl]
        rw [e, if_neg (by decide : ¬ (9 : Int) = 0)] at this
        exact this
      rw [← e3 0 (by decide)] at F
      rw [if_neg Bool.false_ne_true]
      intro L
      refine c65_fn rfl rfl ?_
      repeat' ((fail_if_success with_reducible refine nph ?_); first | (with_reducible first | (refine d_seq ?_; intro K hK) | (refine hK _ _ ?_; clear hK K) | (refine SG.p ?_; try intro b)) | ((with_reducible refine SC.p ?_); refine And.intro ?_ ?_) <;> intro hc <;> try simp only [push_cast, Int.reduceEq, Int.reduceLT, Int.reduceLE, Int.reduceNe] at hc | with_reducible refine r_rq (by first | decide | omega) ?_ | ((with_reducible refine SL.p ?_); first | refine ⟨_, rfl, ?_⟩ | refine ⟨_, _, _, rfl, ?_⟩ | (refine ⟨?_, rfl, ?_⟩; focus (simp; done))) | ((with_reducible first | apply i_ldn | apply i_ldnq); exact rfl; exact rfl; exact rfl) | ((try with_reducible refine d_reg ?_); simp only [go_sem, Nat.reduceAdd, Nat.reduceEqDiff, Int.reduceToNat, Nat.reduceMul, Nat.reduceSub]) | clear hK K)
      refine i_clp C ?_
      repeat' ((fail_if_success with_reducible refine nph ?_); first | (with_reducible first | (refine d_seq ?_; intro K hK) | (refine hK _ _ ?_; clear hK K) | (refine SG.p ?_; try intro b)) | ((with_reducible refine SC.p ?_); refine And.intro ?_ ?_) <;> intro hc <;> try simp only [push_cast, Int.reduceEq, Int.reduceLT, Int.reduceLE, Int.reduceNe] at hc | with_reducible refine r_rq (by first | decide | omega) ?_ | ((with_reducible refine SL.p ?_); first | refine ⟨_, rfl, ?_⟩ | refine ⟨_, _, _, rfl, ?_⟩ | (refine ⟨?_, rfl, ?_⟩; focus (simp; done))) | ((with_reducible first | apply i_ldn | apply i_ldnq); exact rfl; exact rfl; exact rfl) | ((try with_reducible refine d_reg ?_); simp only [go_sem, Nat.reduceAdd, Nat.reduceEqDiff, Int.reduceToNat, Nat.reduceMul, Nat.reduceSub]) | clear hK K)
      all_goals try (first | contradiction | (simp only [ reduceCtorEq] at *; done) | (exfalso; omega))
      refine d_lp [0, 1, 8, 9, 10, 11, 23] (fun _ : Unit => [(0, .pointer (some ⟨S.q, 0, none⟩)), (1, .int .i64 (p : Int)), (8, str []), (9, str []), (10, .bool false), (11, .bool true), (23, .int .i64 0)])
        (fun _ => spt S Z.sb :: dk Z :: L) (fun _ => True) (fun _ => 0) () rfl SX.p trivial ?_
      intro _ _
      repeat' ((fail_if_success with_reducible refine nph ?_); first | (with_reducible first | (refine d_seq ?_; intro K hK) | (refine hK _ _ ?_; clear hK K) | (refine SG.p ?_; try intro b)) | ((with_reducible refine SC.p ?_); refine And.intro ?_ ?_) <;> intro hc <;> try simp only [push_cast, Int.reduceEq, Int.reduceLT, Int.reduceLE, Int.reduceNe] at hc | with_reducible refine r_rq (by first | decide | omega) ?_ | ((with_reducible refine SL.p ?_); first | refine ⟨_, rfl, ?_⟩ | refine ⟨_, _, _, rfl, ?_⟩ | (refine ⟨?_, rfl, ?_⟩; focus (simp; done))) | ((with_reducible first | apply i_ldn | apply i_ldnq); exact rfl; exact rfl; exact rfl) | ((try with_reducible refine d_reg ?_); simp only [go_sem, Nat.reduceAdd, Nat.reduceEqDiff, Int.reduceToNat, Nat.reduceMul, Nat.reduceSub]) | clear hK K)
      all_goals try (first | contradiction | (simp only [ reduceCtorEq] at *; done) | (exfalso; omega))
      repeat' (first | (with_reducible first | (refine d_seq ?_; intro K hK) | (refine hK _ _ ?_; clear hK K) | (refine SG.p ?_; try intro b)) | ((with_reducible refine SC.p ?_); refine And.intro ?_ ?_) <;> intro hc <;> try simp only [push_cast, Int.reduceEq, Int.reduceLT, Int.reduceLE, Int.reduceNe] at hc | with_reducible refine r_rq (by first | decide | omega) ?_ | ((with_reducible refine SL.p ?_); first | refine ⟨_, rfl, ?_⟩ | refine ⟨_, _, _, rfl, ?_⟩ | (refine ⟨?_, rfl, ?_⟩; focus (simp; done))) | ((with_reducible first | apply i_ldn | apply i_ldnq); exact rfl; exact rfl; exact rfl) | ((try with_reducible refine d_reg ?_); simp only [go_sem, Nat.reduceAdd, Nat.reduceEqDiff, Int.reduceToNat, Nat.reduceMul, Nat.reduceSub]) | clear hK K)
      refine i_clp F ?_
      repeat' (first | (with_reducible first | (refine d_seq ?_; intro K hK) | (refine hK _ _ ?_; clear hK K) | (refine SG.p ?_; try intro b)) | ((with_reducible refine SC.p ?_); refine And.intro ?_ ?_) <;> intro hc <;> try simp only [push_cast, Int.reduceEq, Int.reduceLT, Int.reduceLE, Int.reduceNe] at hc | with_reducible refine r_rq (by first | decide | omega) ?_ | ((with_reducible refine SL.p ?_); first | refine ⟨_, rfl, ?_⟩ | refine ⟨_, _, _, rfl, ?_⟩ | (refine ⟨?_, rfl, ?_⟩; focus (simp; done))) | ((with_reducible first | apply i_ldn | apply i_ldnq); exact rfl; exact rfl; exact rfl) | ((try with_reducible refine d_reg ?_); simp only [go_sem, Nat.reduceAdd, Nat.reduceEqDiff, Int.reduceToNat, Nat.reduceMul, Nat.reduceSub]) | clear hK K)
      all_goals try (first | contradiction | (simp only [ reduceCtorEq] at *; done) | (exfalso; omega))
      (with_reducible first | apply i_ret0 | apply i_ret2 | apply i_ret3 | apply i_ret); exact rfl
      rfl
    · have F : ∀ i : Nat, i < 4 → Fp (eT2 eS eI) Tryz.prog 22 #[.pointer (some ⟨Z.sb, 0, none⟩), .int .i64 ((a + i : Nat) : Int)] [dk Z] (Z.sc a i, 0) := fun i hi => by
        have := F31 Z h ((a + i : Nat) : Int)
        have e : Z.chk ((a + i : Nat) : Int) = 0 := by unfold Dk.chk; rw [hu, if_neg (by simp), if_neg (by omega)]
        rw [e, if_pos rfl] at this
        exact this
      have Ln : ∀ i : Nat, i < 4 → (Z.sc a i).length = 64 := fun i hi => by
        refine Dk.get_len h ?_
        unfold Dk.chk; rw [hu, if_neg (by simp), if_neg (by omega)]
      rw [if_pos rfl]
      intro L
      refine c65_fn rfl rfl ?_
      repeat' ((fail_if_success with_reducible refine nph ?_); first | (with_reducible first | (refine d_seq ?_; intro K hK) | (refine hK _ _ ?_; clear hK K) | (refine SG.p ?_; try intro b)) | ((with_reducible refine SC.p ?_); refine And.intro ?_ ?_) <;> intro hc <;> try simp only [push_cast, Int.reduceEq, Int.reduceLT, Int.reduceLE, Int.reduceNe] at hc | with_reducible refine r_rq (by first | decide | omega) ?_ | ((with_reducible refine SL.p ?_); first | refine ⟨_, rfl, ?_⟩ | refine ⟨_, _, _, rfl, ?_⟩ | (refine ⟨?_, rfl, ?_⟩; focus (simp; done))) | ((with_reducible first | apply i_ldn | apply i_ldnq); exact rfl; exact rfl; exact rfl) | ((try with_reducible refine d_reg ?_); simp only [go_sem, Nat.reduceAdd, Nat.reduceEqDiff, Int.reduceToNat, Nat.reduceMul, Nat.reduceSub]) | clear hK K)
      refine i_clp C ?_
      repeat' ((fail_if_success with_reducible refine nph ?_); first | (with_reducible first | (refine d_seq ?_; intro K hK) | (refine hK _ _ ?_; clear hK K) | (refine SG.p ?_; try intro b)) | ((with_reducible refine SC.p ?_); refine And.intro ?_ ?_) <;> intro hc <;> try simp only [push_cast, Int.reduceEq, Int.reduceLT, Int.reduceLE, Int.reduceNe] at hc | with_reducible refine r_rq (by first | decide | omega) ?_ | ((with_reducible refine SL.p ?_); first | refine ⟨_, rfl, ?_⟩ | refine ⟨_, _, _, rfl, ?_⟩ | (refine ⟨?_, rfl, ?_⟩; focus (simp; done))) | ((with_reducible first | apply i_ldn | apply i_ldnq); exact rfl; exact rfl; exact rfl) | ((try with_reducible refine d_reg ?_); simp only [go_sem, Nat.reduceAdd, Nat.reduceEqDiff, Int.reduceToNat, Nat.reduceMul, Nat.reduceSub]) | clear hK K)
      all_goals try (first | contradiction | (simp only [ reduceCtorEq] at *; done) | (exfalso; omega))
      refine d_lp [0, 1, 8, 9, 10, 11, 23] (fun i : Nat => [(0, .pointer (some ⟨S.q, 0, none⟩)), (1, .int .i64 (p : Int)), (8, str (Z.rtx a i)), (9, str (if i = 0 then [] else (Z.sc a 0).take 8)), (10, .bool (Z.rsm a S.gen i)), (11, .bool (Z.rwh a i)), (23, .int .i64 (i : Int))])
        (fun i => spt S Z.sb :: dk Z :: L) (fun i => i ≤ 4 ∧ (Z.rtx a i).length = 56 * i) (fun i => 4 - i) 0 rfl SX.p ⟨by omega, rfl⟩ ?_
      rintro i ⟨hi, ht⟩
      have Fi := F i
      have Li := Ln i
      have T1 : Z.rtx a (i + 1) = Z.rtx a i ++ (Z.sc a i).drop 8 := rfl
      have T2 : Z.rsm a S.gen (i + 1) = (Z.rsm a S.gen i || (be ((Z.sc a i).take 2) == S.gen)) := rfl
      have T3 : Z.rwh a (i + 1) = (Z.rwh a i && ((Z.sc a i).take 8 == (Z.sc a 0).take 8)) := rfl
      repeat' ((fail_if_success with_reducible refine nph ?_); first | (with_reducible first | (refine d_seq ?_; intro K hK) | (refine hK _ _ ?_; clear hK K) | (refine SG.p ?_; try intro b)) | ((with_reducible refine SC.p ?_); refine And.intro ?_ ?_) <;> intro hc <;> try simp only [push_cast, Int.reduceEq, Int.reduceLT, Int.reduceLE, Int.reduceNe] at hc | with_reducible refine r_rq (by first | decide | omega) ?_ | ((with_reducible refine SL.p ?_); first | refine ⟨_, rfl, ?_⟩ | refine ⟨_, _, _, rfl, ?_⟩ | (refine ⟨?_, rfl, ?_⟩; focus (simp; done))) | ((with_reducible first | apply i_ldn | apply i_ldnq); exact rfl; exact rfl; exact rfl) | ((try with_reducible refine d_reg ?_); simp only [go_sem, Nat.reduceAdd, Nat.reduceEqDiff, Int.reduceToNat, Nat.reduceMul, Nat.reduceSub]) | clear hK K)
      · repeat' (first | (with_reducible first | (refine d_seq ?_; intro K hK) | (refine hK _ _ ?_; clear hK K) | (refine SG.p ?_; try intro b)) | ((with_reducible refine SC.p ?_); refine And.intro ?_ ?_) <;> intro hc <;> try simp only [push_cast, Int.reduceEq, Int.reduceLT, Int.reduceLE, Int.reduceNe] at hc | with_reducible refine r_rq (by first | decide | omega) ?_ | ((with_reducible refine SL.p ?_); first | refine ⟨_, rfl, ?_⟩ | refine ⟨_, _, _, rfl, ?_⟩ | (refine ⟨?_, rfl, ?_⟩; focus (simp; done))) | ((with_reducible first | apply i_ldn | apply i_ldnq); exact rfl; exact rfl; exact rfl) | ((try with_reducible refine d_reg ?_); simp only [go_sem, Nat.reduceAdd, Nat.reduceEqDiff, Int.reduceToNat, Nat.reduceMul, Nat.reduceSub]) | clear hK K)
        rw [e3 i (by omega)]
        refine i_clp (Fi (by omega)) ?_
        repeat' ((fail_if_success with_reducible refine (id : E _ (D _ (.seq (.seq _ _) _) _ _) → E _ (D _ (.seq (.seq _ _) _) _ _)) ?_); first | (with_reducible first | (refine d_seq ?_; intro K hK) | (refine hK _ _ ?_; clear hK K) | (refine SG.p ?_; try intro b)) | ((with_reducible refine SC.p ?_); refine And.intro ?_ ?_) <;> intro hc <;> try simp only [push_cast, Int.reduceEq, Int.reduceLT, Int.reduceLE, Int.reduceNe] at hc | with_reducible refine r_rq (by first | decide | omega) ?_ | ((with_reducible refine SL.p ?_); first | refine ⟨_, rfl, ?_⟩ | refine ⟨_, _, _, rfl, ?_⟩ | (refine ⟨?_, rfl, ?_⟩; focus (simp; done))) | ((with_reducible first | apply i_ldn | apply i_ldnq); exact rfl; exact rfl; exact rfl) | ((try with_reducible refine d_reg ?_); simp only [go_sem, Nat.reduceAdd, Nat.reduceEqDiff, Int.reduceToNat, Nat.reduceMul, Nat.reduceSub]) | clear hK K)
        first | (with_reducible first | (refine d_seq ?_; intro K hK) | (refine hK _ _ ?_; clear hK K) | (refine SG.p ?_; try intro b)) | ((with_reducible refine SC.p ?_); refine And.intro ?_ ?_) <;> intro hc <;> try simp only [push_cast, Int.reduceEq, Int.reduceLT, Int.reduceLE, Int.reduceNe] at hc | with_reducible refine r_rq (by first | decide | omega) ?_ | ((with_reducible refine SL.p ?_); first | refine ⟨_, rfl, ?_⟩ | refine ⟨_, _, _, rfl, ?_⟩ | (refine ⟨?_, rfl, ?_⟩; focus (simp; done))) | ((with_reducible first | apply i_ldn | apply i_ldnq); exact rfl; exact rfl; exact rfl) | ((try with_reducible refine d_reg ?_); simp only [go_sem, Nat.reduceAdd, Nat.reduceEqDiff, Int.reduceToNat, Nat.reduceMul, Nat.reduceSub]) | clear hK K
        repeat' ((fail_if_success with_reducible refine (id : E _ (D _ (.seq (.seq _ _) _) _ _) → E _ (D _ (.seq (.seq _ _) _) _ _)) ?_); first | (with_reducible first | (refine d_seq ?_; intro K hK) | (refine hK _ _ ?_; clear hK K) | (refine SG.p ?_; try intro b)) | ((with_reducible refine SC.p ?_); refine And.intro ?_ ?_) <;> intro hc <;> try simp only [push_cast, Int.reduceEq, Int.reduceLT, Int.reduceLE, Int.reduceNe] at hc | with_reducible refine r_rq (by first | decide | omega) ?_ | ((with_reducible refine SL.p ?_); first | refine ⟨_, rfl, ?_⟩ | refine ⟨_, _, _, rfl, ?_⟩ | (refine ⟨?_, rfl, ?_⟩; focus (simp; done))) | ((with_reducible first | apply i_ldn | apply i_ldnq); exact rfl; exact rfl; exact rfl) | ((try with_reducible refine d_reg ?_); simp only [go_sem, Nat.reduceAdd, Nat.reduceEqDiff, Int.reduceToNat, Nat.reduceMul, Nat.reduceSub]) | clear hK K)
        all_goals try (first | contradiction | (simp only [ reduceCtorEq] at *; done) | (exfalso; omega))
        first | (with_reducible first | (refine d_seq ?_; intro K hK) | (refine hK _ _ ?_; clear hK K) | (refine SG.p ?_; try intro b)) | ((with_reducible refine SC.p ?_); refine And.intro ?_ ?_) <;> intro hc <;> try simp only [push_cast, Int.reduceEq, Int.reduceLT, Int.reduceLE, Int.reduceNe] at hc | with_reducible refine r_rq (by first | decide | omega) ?_ | ((with_reducible refine SL.p ?_); first | refine ⟨_, rfl, ?_⟩ | refine ⟨_, _, _, rfl, ?_⟩ | (refine ⟨?_, rfl, ?_⟩; focus (simp; done))) | ((with_reducible first | apply i_ldn | apply i_ldnq); exact rfl; exact rfl; exact rfl) | ((try with_reducible refine d_reg ?_); simp only [go_sem, Nat.reduceAdd, Nat.reduceEqDiff, Int.reduceToNat, Nat.reduceMul, Nat.reduceSub]) | clear hK K
        have hL := Li (by omega)
        have fin : ∀ (tl : Env), E (spt S Z.sb :: dk Z :: L) (K ((0, .pointer (some ⟨S.q, 0, none⟩)) :: (1, .int .i64 (p : Int)) :: (8, str (Z.rtx a i)) :: (9, str ((Z.sc a 0).take 8)) :: (10, .bool (Z.rsm a S.gen i)) :: (11, .bool (Z.rwh a i)) :: (13, str (Z.sc a i)) :: (23, .int .i64 (i : Int)) :: tl)) := by
          intro tl
          generalize Z.sc a i = s at *
          generalize Z.sc a 0 = s0 at *
          generalize Z.rtx a i = tx at *
          generalize Z.rsm a S.gen i = sm at *
          generalize Z.rwh a i = wl at *
          refine hK _ _ ?_; clear hK K
          repeat' ((fail_if_success with_reducible refine nph ?_); first | (with_reducible first | (refine d_seq ?_; intro K hK) | (refine hK _ _ ?_; clear hK K) | (refine SG.p ?_; try intro b)) | ((with_reducible refine SC.p ?_); refine And.intro ?_ ?_) <;> intro hc <;> try simp only [push_cast, Int.reduceEq, Int.reduceLT, Int.reduceLE, Int.reduceNe] at hc | with_reducible refine r_rq (by first | decide | omega) ?_ | ((with_reducible refine SL.p ?_); first | refine ⟨_, rfl, ?_⟩ | refine ⟨_, _, _, rfl, ?_⟩ | (refine ⟨?_, rfl, ?_⟩; focus (simp; done))) | ((with_reducible first | apply i_ldn | apply i_ldnq); exact rfl; exact rfl; exact rfl) | ((try with_reducible refine d_reg ?_); simp only [go_sem, Nat.reduceAdd, Nat.reduceEqDiff, Int.reduceToNat, Nat.reduceMul, Nat.reduceSub]) | clear hK K)
          refine i_cal (f72 s) ?_
          rintro y X ⟨rb, rfl, rfl⟩
          have N := num_go rb s 0 2 (by omega) (by omega) (by omega) (by omega)
          rw [List.drop_zero] at N
          repeat' ((fail_if_success with_reducible refine nph ?_); first | (with_reducible first | (refine d_seq ?_; intro K hK) | (refine hK _ _ ?_; clear hK K) | (refine SG.p ?_; try intro b)) | ((with_reducible refine SC.p ?_); refine And.intro ?_ ?_) <;> intro hc <;> try simp only [push_cast, Int.reduceEq, Int.reduceLT, Int.reduceLE, Int.reduceNe] at hc | with_reducible refine r_rq (by first | decide | omega) ?_ | ((with_reducible refine SL.p ?_); first | refine ⟨_, rfl, ?_⟩ | refine ⟨_, _, _, rfl, ?_⟩ | (refine ⟨?_, rfl, ?_⟩; focus (simp; done))) | ((with_reducible first | apply i_ldn | apply i_ldnq); exact rfl; exact rfl; exact rfl) | ((try with_reducible refine d_reg ?_); simp only [go_sem, Nat.reduceAdd, Nat.reduceEqDiff, Int.reduceToNat, Nat.reduceMul, Nat.reduceSub]) | clear hK K)
          refine r_ph [spt S Z.sb] ?_ ?_
          · exact SX.p
          repeat' (first | (with_reducible first | (refine d_seq ?_; intro K hK) | (refine hK _ _ ?_; clear hK K) | (refine SG.p ?_; try intro b)) | ((with_reducible refine SC.p ?_); refine And.intro ?_ ?_) <;> intro hc <;> try simp only [push_cast, Int.reduceEq, Int.reduceLT, Int.reduceLE, Int.reduceNe] at hc | with_reducible refine r_rq (by first | decide | omega) ?_ | ((with_reducible refine SL.p ?_); first | refine ⟨_, rfl, ?_⟩ | refine ⟨_, _, _, rfl, ?_⟩ | (refine ⟨?_, rfl, ?_⟩; focus (simp; done))) | ((with_reducible first | apply i_ldn | apply i_ldnq); exact rfl; exact rfl; exact rfl) | ((try with_reducible refine d_reg ?_); simp only [go_sem, Nat.reduceAdd, Nat.reduceEqDiff, Int.reduceToNat, Nat.reduceMul, Nat.reduceSub]) | clear hK K)
          all_goals try (refine i_clq N ?_)
          repeat' (first | rw [ss_08] | rw [ss_8n] | first | (with_reducible first | (refine d_seq ?_; intro K hK) | (refine hK _ _ ?_; clear hK K) | (refine SG.p ?_; try intro b)) | ((with_reducible refine SC.p ?_); refine And.intro ?_ ?_) <;> intro hc <;> try simp only [push_cast, Int.reduceEq, Int.reduceLT, Int.reduceLE, Int.reduceNe] at hc | with_reducible refine r_rq (by first | decide | omega) ?_ | ((with_reducible refine SL.p ?_); first | refine ⟨_, rfl, ?_⟩ | refine ⟨_, _, _, rfl, ?_⟩ | (refine ⟨?_, rfl, ?_⟩; focus (simp; done))) | ((with_reducible first | apply i_ldn | apply i_ldnq); exact rfl; exact rfl; exact rfl) | ((try with_reducible refine d_reg ?_); simp only [go_sem, Nat.reduceAdd, Nat.reduceEqDiff, Int.reduceToNat, Nat.reduceMul, Nat.reduceSub]) | clear hK K)
          all_goals try (exfalso; omega)
          all_goals
            refine r_rq (by rw [List.length_drop]; omega) ?_
            repeat' (first | (with_reducible first | (refine d_seq ?_; intro K hK) | (refine hK _ _ ?_; clear hK K) | (refine SG.p ?_; try intro b)) | ((with_reducible refine SC.p ?_); refine And.intro ?_ ?_) <;> intro hc <;> try simp only [push_cast, Int.reduceEq, Int.reduceLT, Int.reduceLE, Int.reduceNe] at hc | with_reducible refine r_rq (by first | decide | omega) ?_ | ((with_reducible refine SL.p ?_); first | refine ⟨_, rfl, ?_⟩ | refine ⟨_, _, _, rfl, ?_⟩ | (refine ⟨?_, rfl, ?_⟩; focus (simp; done))) | ((with_reducible first | apply i_ldn | apply i_ldnq); exact rfl; exact rfl; exact rfl) | ((try with_reducible refine d_reg ?_); simp only [go_sem, Nat.reduceAdd, Nat.reduceEqDiff, Int.reduceToNat, Nat.reduceMul, Nat.reduceSub]) | clear hK K)
            rw [w64 (by omega) (by omega)]
            refine i_bk (i + 1) ?_ ⟨by omega, by rw [T1, List.length_append, List.length_drop]; omega⟩ (by omega)
            simp only [go_sem, Nat.reduceEqDiff]
            rw [T1, T2, T3]
            simp [*, nbeq]
        by_cases hi0 : i = 0
        · subst hi0
          rw [if_pos rfl]
          repeat' ((fail_if_success with_reducible refine (id : E _ (D _ (.seq (.seq _ _) _) _ _) → E _ (D _ (.seq (.seq _ _) _) _ _)) ?_); first | (with_reducible first | (refine d_seq ?_; intro K hK) | (refine hK _ _ ?_; clear hK K) | (refine SG.p ?_; try intro b)) | ((with_reducible refine SC.p ?_); refine And.intro ?_ ?_) <;> intro hc <;> try simp only [push_cast, Int.reduceEq, Int.reduceLT, Int.reduceLE, Int.reduceNe] at hc | with_reducible refine r_rq (by first | decide | omega) ?_ | ((with_reducible refine SL.p ?_); first | refine ⟨_, rfl, ?_⟩ | refine ⟨_, _, _, rfl, ?_⟩ | (refine ⟨?_, rfl, ?_⟩; focus (simp; done))) | ((with_reducible first | apply i_ldn | apply i_ldnq); exact rfl; exact rfl; exact rfl) | ((try with_reducible refine d_reg ?_); simp only [go_sem, Nat.reduceAdd, Nat.reduceEqDiff, Int.reduceToNat, Nat.reduceMul, Nat.reduceSub]) | clear hK K)
          all_goals try (exfalso; omega)
          all_goals try (first | contradiction | (simp only [ reduceCtorEq] at *; done) | (exfalso; omega))
          rw [ss_08]
          exact fin []
        · rw [if_neg hi0]
          repeat' ((fail_if_success with_reducible refine (id : E _ (D _ (.seq (.seq _ _) _) _ _) → E _ (D _ (.seq (.seq _ _) _) _ _)) ?_); first | (with_reducible first | (refine d_seq ?_; intro K hK) | (refine hK _ _ ?_; clear hK K) | (refine SG.p ?_; try intro b)) | ((with_reducible refine SC.p ?_); refine And.intro ?_ ?_) <;> intro hc <;> try simp only [push_cast, Int.reduceEq, Int.reduceLT, Int.reduceLE, Int.reduceNe] at hc | with_reducible refine r_rq (by first | decide | omega) ?_ | ((with_reducible refine SL.p ?_); first | refine ⟨_, rfl, ?_⟩ | refine ⟨_, _, _, rfl, ?_⟩ | (refine ⟨?_, rfl, ?_⟩; focus (simp; done))) | ((with_reducible first | apply i_ldn | apply i_ldnq); exact rfl; exact rfl; exact rfl) | ((try with_reducible refine d_reg ?_); simp only [go_sem, Nat.reduceAdd, Nat.reduceEqDiff, Int.reduceToNat, Nat.reduceMul, Nat.reduceSub]) | clear hK K)
          all_goals try (exfalso; omega)
          exact fin [_]
      all_goals
        obtain rfl : i = 4 := by omega
      · (with_reducible first | apply i_ret0 | apply i_ret2 | apply i_ret3 | apply i_ret); exact rfl
        rw [if_neg (by rw [show Z.rsm a S.gen 4 = false by assumption]; decide)]
      · have h1 : Z.rsm a S.gen 4 = true := by assumption
        (with_reducible first | apply i_ret0 | apply i_ret2 | apply i_ret3 | apply i_ret); exact rfl
        rw [if_pos h1, if_neg (by rw [show Z.rwh a 4 = false by assumption]; decide)]
      · have h1 : Z.rsm a S.gen 4 = true := by assumption
        have h2 : Z.rwh a 4 = true := by assumption
        have l0 := Ln 0 (by decide)
        rw [if_neg (by decide)]
        generalize Z.sc a 0 = s0 at *
        have hl8 : (s0.take 8).length = 8 := by simp; omega
        generalize s0.take 8 = m at *
        refine i_cal (f72 m) ?_
        rintro y X ⟨rb, rfl, rfl⟩
        repeat' ((fail_if_success with_reducible refine nph ?_); first | (with_reducible first | (refine d_seq ?_; intro K hK) | (refine hK _ _ ?_; clear hK K) | (refine SG.p ?_; try intro b)) | ((with_reducible refine SC.p ?_); refine And.intro ?_ ?_) <;> intro hc <;> try simp only [push_cast, Int.reduceEq, Int.reduceLT, Int.reduceLE, Int.reduceNe] at hc | with_reducible refine r_rq (by first | decide | omega) ?_ | ((with_reducible refine SL.p ?_); first | refine ⟨_, rfl, ?_⟩ | refine ⟨_, _, _, rfl, ?_⟩ | (refine ⟨?_, rfl, ?_⟩; focus (simp; done))) | ((with_reducible first | apply i_ldn | apply i_ldnq); exact rfl; exact rfl; exact rfl) | ((try with_reducible refine d_reg ?_); simp only [go_sem, Nat.reduceAdd, Nat.reduceEqDiff, Int.reduceToNat, Nat.reduceMul, Nat.reduceSub]) | clear hK K)
        refine i_clq (num_go rb m 0 2 (by omega) (by omega) (by omega) (by omega)) ?_
        repeat' ((fail_if_success with_reducible refine nph ?_); first | (with_reducible first | (refine d_seq ?_; intro K hK) | (refine hK _ _ ?_; clear hK K) | (refine SG.p ?_; try intro b)) | ((with_reducible refine SC.p ?_); refine And.intro ?_ ?_) <;> intro hc <;> try simp only [push_cast, Int.reduceEq, Int.reduceLT, Int.reduceLE, Int.reduceNe] at hc | with_reducible refine r_rq (by first | decide | omega) ?_ | ((with_reducible refine SL.p ?_); first | refine ⟨_, rfl, ?_⟩ | refine ⟨_, _, _, rfl, ?_⟩ | (refine ⟨?_, rfl, ?_⟩; focus (simp; done))) | ((with_reducible first | apply i_ldn | apply i_ldnq); exact rfl; exact rfl; exact rfl) | ((try with_reducible refine d_reg ?_); simp only [go_sem, Nat.reduceAdd, Nat.reduceEqDiff, Int.reduceToNat, Nat.reduceMul, Nat.reduceSub]) | clear hK K)
        refine i_clq (num_go rb m 2 6 (by omega) (by omega) (by omega) (by omega)) ?_
        repeat' ((fail_if_success with_reducible refine nph ?_); first | (with_reducible first | (refine d_seq ?_; intro K hK) | (refine hK _ _ ?_; clear hK K) | (refine SG.p ?_; try intro b)) | ((with_reducible refine SC.p ?_); refine And.intro ?_ ?_) <;> intro hc <;> try simp only [push_cast, Int.reduceEq, Int.reduceLT, Int.reduceLE, Int.reduceNe] at hc | with_reducible refine r_rq (by first | decide | omega) ?_ | ((with_reducible refine SL.p ?_); first | refine ⟨_, rfl, ?_⟩ | refine ⟨_, _, _, rfl, ?_⟩ | (refine ⟨?_, rfl, ?_⟩; focus (simp; done))) | ((with_reducible first | apply i_ldn | apply i_ldnq); exact rfl; exact rfl; exact rfl) | ((try with_reducible refine d_reg ?_); simp only [go_sem, Nat.reduceAdd, Nat.reduceEqDiff, Int.reduceToNat, Nat.reduceMul, Nat.reduceSub]) | clear hK K)
        (with_reducible first | apply i_ret0 | apply i_ret2 | apply i_ret3 | apply i_ret); exact rfl
        rw [if_pos h1, if_pos h2]
end Go.Sp
/- The store: its other functions; what every sector has. -/
namespace Go.Sp
open Go Go.Proofs
set_option linter.unusedSimpArgs false
set_option linter.unusedVariables false
set_option maxRecDepth 10000
theorem f48 (S : St) (Z : Dk) (h : Z.ok) : Fq eI Tryz.prog 122 #[S.p] [spt S Z.sb, dk Z] [spt S Z.sb, dk Z.sync.2] Z.sync.1 := fun L => by
  have F := F28 Z h
  simp only [Dk.p] at F
  refine c122_fn rfl rfl ?_
  repeat' ((fail_if_success with_reducible refine nph ?_); first | (with_reducible first | (refine d_seq ?_; intro K hK) | (refine hK _ _ ?_; clear hK K) | (refine SG.p ?_; try intro b)) | ((with_reducible refine SC.p ?_); refine And.intro ?_ ?_) <;> intro hc <;> try simp only [push_cast, Int.reduceEq, Int.reduceLT, Int.reduceLE, Int.reduceNe] at hc | with_reducible refine r_rq (by first | decide | omega) ?_ | ((with_reducible refine SL.p ?_); first | refine ⟨_, rfl, ?_⟩ | refine ⟨_, _, _, rfl, ?_⟩ | (refine ⟨?_, rfl, ?_⟩; focus (simp; done))) | ((with_reducible first | apply i_ldn | apply i_ldnq); exact rfl; exact rfl; exact rfl) | ((try with_reducible refine d_reg ?_); simp only [go_sem, Nat.reduceAdd, Nat.reduceEqDiff, Int.reduceToNat, Nat.reduceMul, Nat.reduceSub]) | clear hK K)
  refine i_clq F ?_
  repeat' ((fail_if_success with_reducible refine nph ?_); first | (with_reducible first | (refine d_seq ?_; intro K hK) | (refine hK _ _ ?_; clear hK K) | (refine SG.p ?_; try intro b)) | ((with_reducible refine SC.p ?_); refine And.intro ?_ ?_) <;> intro hc <;> try simp only [push_cast, Int.reduceEq, Int.reduceLT, Int.reduceLE, Int.reduceNe] at hc | with_reducible refine r_rq (by first | decide | omega) ?_ | ((with_reducible refine SL.p ?_); first | refine ⟨_, rfl, ?_⟩ | refine ⟨_, _, _, rfl, ?_⟩ | (refine ⟨?_, rfl, ?_⟩; focus (simp; done))) | ((with_reducible first | apply i_ldn | apply i_ldnq); exact rfl; exact rfl; exact rfl) | ((try with_reducible refine d_reg ?_); simp only [go_sem, Nat.reduceAdd, Nat.reduceEqDiff, Int.reduceToNat, Nat.reduceMul, Nat.reduceSub]) | clear hK K)
  (with_reducible first | apply i_ret0 | apply i_ret2 | apply i_ret3 | apply i_ret); exact rfl
  rfl
theorem f53 (S : St) (Z : Dk) (h : Z.ok) (hS : S.ok Z.sure.length) (id lsn : Int) : Fp eB Tryz.prog 51 #[S.p, .int .i64 id, .int .i64 lsn] [spt S Z.sb, dk Z] (decide ((Z.rpg S id).2.2 = 0) && (Z.rpg S id).2.1 == lsn) := fun L => by
  have F := f49 S Z h hS id
  generalize Z.rpg S id = r at *
  obtain ⟨t, n, e⟩ := r
  refine c51_fn rfl rfl ?_
  repeat' ((fail_if_success with_reducible refine nph ?_); first | (with_reducible first | (refine d_seq ?_; intro K hK) | (refine hK _ _ ?_; clear hK K) | (refine SG.p ?_; try intro b)) | ((with_reducible refine SC.p ?_); refine And.intro ?_ ?_) <;> intro hc <;> try simp only [push_cast, Int.reduceEq, Int.reduceLT, Int.reduceLE, Int.reduceNe] at hc | with_reducible refine r_rq (by first | decide | omega) ?_ | ((with_reducible refine SL.p ?_); first | refine ⟨_, rfl, ?_⟩ | refine ⟨_, _, _, rfl, ?_⟩ | (refine ⟨?_, rfl, ?_⟩; focus (simp; done))) | ((with_reducible first | apply i_ldn | apply i_ldnq); exact rfl; exact rfl; exact rfl) | ((try with_reducible refine d_reg ?_); simp only [go_sem, Nat.reduceAdd, Nat.reduceEqDiff, Int.reduceToNat, Nat.reduceMul, Nat.reduceSub]) | clear hK K)
  refine i_clp F ?_
  repeat' ((fail_if_success with_reducible refine nph ?_); first | (with_reducible first | (refine d_seq ?_; intro K hK) | (refine hK _ _ ?_; clear hK K) | (refine SG.p ?_; try intro b)) | ((with_reducible refine SC.p ?_); refine And.intro ?_ ?_) <;> intro hc <;> try simp only [push_cast, Int.reduceEq, Int.reduceLT, Int.reduceLE, Int.reduceNe] at hc | with_reducible refine r_rq (by first | decide | omega) ?_ | ((with_reducible refine SL.p ?_); first | refine ⟨_, rfl, ?_⟩ | refine ⟨_, _, _, rfl, ?_⟩ | (refine ⟨?_, rfl, ?_⟩; focus (simp; done))) | ((with_reducible first | apply i_ldn | apply i_ldnq); exact rfl; exact rfl; exact rfl) | ((try with_reducible refine d_reg ?_); simp only [go_sem, Nat.reduceAdd, Nat.reduceEqDiff, Int.reduceToNat, Nat.reduceMul, Nat.reduceSub]) | clear hK K)
  all_goals ((with_reducible first | apply i_ret0 | apply i_ret2 | apply i_ret3 | apply i_ret); exact rfl; simp [*])
/-- What becomes of a wish for a store. -/
theorem f51 (Z : Dk) (h : Z.ok) (base pages gen : Int) (w1 : wf64 base) (w2 : wf64 pages) (w3 : wf64 gen) :
    Fn (eT2 eP eI) Tryz.prog 88 #[.pointer (some ⟨Z.sb, 0, none⟩), .int .i64 base, .int .i64 pages, .int .i64 gen] [dk Z] fun y X =>
      if gen < 1 ∨ 65535 < gen ∨ base < 0 ∨ pages < 1 ∨ 200 < pages then X = [dk Z] ∧ y = (none, 1)
      else if (Z.sure.length : Int) < base ∨ (Z.sure.length : Int) - base < 4 * pages then X = [dk Z] ∧ y = (none, 6)
      else ∃ S : St, base = (S.base : Int) ∧ pages = (S.pages : Int) ∧ gen = (S.gen : Int) ∧ S.ok Z.sure.length ∧ y = (some ⟨S.q, 0, none⟩, 0) ∧ X = [spt S Z.sb, dk Z] := fun L => by
  have F := F26 Z h
  have hn := h.n1
  simp only [Dk.p] at F
  unfold wf64 at w1 w2 w3
  refine c88_fn rfl rfl ?_
  by_cases hA : gen < 1 ∨ 65535 < gen ∨ base < 0 ∨ pages < 1 ∨ 200 < pages
  · simp only [hA, if_true]
    repeat' ((fail_if_success with_reducible refine nph ?_); first | (with_reducible first | (refine d_seq ?_; intro K hK) | (refine hK _ _ ?_; clear hK K) | (refine SG.p ?_; try intro b)) | ((with_reducible refine SC.p ?_); refine And.intro ?_ ?_) <;> intro hc <;> try simp only [push_cast, Int.reduceEq, Int.reduceLT, Int.reduceLE, Int.reduceNe] at hc | with_reducible refine r_rq (by first | decide | omega) ?_ | ((with_reducible refine SL.p ?_); first | refine ⟨_, rfl, ?_⟩ | refine ⟨_, _, _, rfl, ?_⟩ | (refine ⟨?_, rfl, ?_⟩; focus (simp; done))) | ((with_reducible first | apply i_ldn | apply i_ldnq); exact rfl; exact rfl; exact rfl) | ((try with_reducible refine d_reg ?_); simp only [go_sem, Nat.reduceAdd, Nat.reduceEqDiff, Int.reduceToNat, Nat.reduceMul, Nat.reduceSub]) | clear hK K)
    all_goals try (exfalso; omega)
    all_goals exact i_done (e := eT2 eP eI) (none, 1) [dk Z] rfl ⟨rfl, rfl⟩
  · simp only [hA, if_false]
    by_cases hB : (Z.sure.length : Int) < base ∨ (Z.sure.length : Int) - base < 4 * pages
    · simp only [hB, if_true]
      repeat' ((fail_if_success with_reducible refine nph ?_); first | (with_reducible first | (refine d_seq ?_; intro K hK) | (refine hK _ _ ?_; clear hK K) | (refine SG.p ?_; try intro b)) | ((with_reducible refine SC.p ?_); refine And.intro ?_ ?_) <;> intro hc <;> try simp only [push_cast, Int.reduceEq, Int.reduceLT, Int.reduceLE, Int.reduceNe] at hc | with_reducible refine r_rq (by first | decide | omega) ?_ | ((with_reducible refine SL.p ?_); first | refine ⟨_, rfl, ?_⟩ | refine ⟨_, _, _, rfl, ?_⟩ | (refine ⟨?_, rfl, ?_⟩; focus (simp; done))) | ((with_reducible first | apply i_ldn | apply i_ldnq); exact rfl; exact rfl; exact rfl) | ((try with_reducible refine d_reg ?_); simp only [go_sem, Nat.reduceAdd, Nat.reduceEqDiff, Int.reduceToNat, Nat.reduceMul, Nat.reduceSub]) | clear hK K)
      all_goals try (exfalso; omega)
      refine i_clp F ?_
      repeat' ((fail_if_success with_reducible refine nph ?_); first | (with_reducible first | (refine d_seq ?_; intro K hK) | (refine hK _ _ ?_; clear hK K) | (refine SG.p ?_; try intro b)) | ((with_reducible refine SC.p ?_); refine And.intro ?_ ?_) <;> intro hc <;> try simp only [push_cast, Int.reduceEq, Int.reduceLT, Int.reduceLE, Int.reduceNe] at hc | with_reducible refine r_rq (by first | decide | omega) ?_ | ((with_reducible refine SL.p ?_); first | refine ⟨_, rfl, ?_⟩ | refine ⟨_, _, _, rfl, ?_⟩ | (refine ⟨?_, rfl, ?_⟩; focus (simp; done))) | ((with_reducible first | apply i_ldn | apply i_ldnq); exact rfl; exact rfl; exact rfl) | ((try with_reducible refine d_reg ?_); simp only [go_sem, Nat.reduceAdd, Nat.reduceEqDiff, Int.reduceToNat, Nat.reduceMul, Nat.reduceSub]) | clear hK K)
      all_goals try (exfalso; omega)
      · exact i_done (e := eT2 eP eI) (none, 6) [dk Z] rfl ⟨rfl, rfl⟩
      · refine i_clp F ?_
        rw [w64 (by omega) (by omega), w64 (by omega) (by omega)]
        repeat' ((fail_if_success with_reducible refine nph ?_); first | (with_reducible first | (refine d_seq ?_; intro K hK) | (refine hK _ _ ?_; clear hK K) | (refine SG.p ?_; try intro b)) | ((with_reducible refine SC.p ?_); refine And.intro ?_ ?_) <;> intro hc <;> try simp only [push_cast, Int.reduceEq, Int.reduceLT, Int.reduceLE, Int.reduceNe] at hc | with_reducible refine r_rq (by first | decide | omega) ?_ | ((with_reducible refine SL.p ?_); first | refine ⟨_, rfl, ?_⟩ | refine ⟨_, _, _, rfl, ?_⟩ | (refine ⟨?_, rfl, ?_⟩; focus (simp; done))) | ((with_reducible first | apply i_ldn | apply i_ldnq); exact rfl; exact rfl; exact rfl) | ((try with_reducible refine d_reg ?_); simp only [go_sem, Nat.reduceAdd, Nat.reduceEqDiff, Int.reduceToNat, Nat.reduceMul, Nat.reduceSub]) | clear hK K)
        all_goals try (exfalso; omega)
        exact i_done (e := eT2 eP eI) (none, 6) [dk Z] rfl ⟨rfl, rfl⟩
    · simp only [hB, if_false]
      repeat' ((fail_if_success with_reducible refine nph ?_); first | (with_reducible first | (refine d_seq ?_; intro K hK) | (refine hK _ _ ?_; clear hK K) | (refine SG.p ?_; try intro b)) | ((with_reducible refine SC.p ?_); refine And.intro ?_ ?_) <;> intro hc <;> try simp only [push_cast, Int.reduceEq, Int.reduceLT, Int.reduceLE, Int.reduceNe] at hc | with_reducible refine r_rq (by first | decide | omega) ?_ | ((with_reducible refine SL.p ?_); first | refine ⟨_, rfl, ?_⟩ | refine ⟨_, _, _, rfl, ?_⟩ | (refine ⟨?_, rfl, ?_⟩; focus (simp; done))) | ((with_reducible first | apply i_ldn | apply i_ldnq); exact rfl; exact rfl; exact rfl) | ((try with_reducible refine d_reg ?_); simp only [go_sem, Nat.reduceAdd, Nat.reduceEqDiff, Int.reduceToNat, Nat.reduceMul, Nat.reduceSub]) | clear hK K)
      all_goals try (exfalso; omega)
      refine i_clp F ?_
      repeat' ((fail_if_success with_reducible refine nph ?_); first | (with_reducible first | (refine d_seq ?_; intro K hK) | (refine hK _ _ ?_; clear hK K) | (refine SG.p ?_; try intro b)) | ((with_reducible refine SC.p ?_); refine And.intro ?_ ?_) <;> intro hc <;> try simp only [push_cast, Int.reduceEq, Int.reduceLT, Int.reduceLE, Int.reduceNe] at hc | with_reducible refine r_rq (by first | decide | omega) ?_ | ((with_reducible refine SL.p ?_); first | refine ⟨_, rfl, ?_⟩ | refine ⟨_, _, _, rfl, ?_⟩ | (refine ⟨?_, rfl, ?_⟩; focus (simp; done))) | ((with_reducible first | apply i_ldn | apply i_ldnq); exact rfl; exact rfl; exact rfl) | ((try with_reducible refine d_reg ?_); simp only [go_sem, Nat.reduceAdd, Nat.reduceEqDiff, Int.reduceToNat, Nat.reduceMul, Nat.reduceSub]) | clear hK K)
      all_goals try (exfalso; omega)
      refine i_clp F ?_
      rw [w64 (by omega) (by omega), w64 (by omega) (by omega)]
      repeat' ((fail_if_success with_reducible refine nph ?_); first | (with_reducible first | (refine d_seq ?_; intro K hK) | (refine hK _ _ ?_; clear hK K) | (refine SG.p ?_; try intro b)) | ((with_reducible refine SC.p ?_); refine And.intro ?_ ?_) <;> intro hc <;> try simp only [push_cast, Int.reduceEq, Int.reduceLT, Int.reduceLE, Int.reduceNe] at hc | with_reducible refine r_rq (by first | decide | omega) ?_ | ((with_reducible refine SL.p ?_); first | refine ⟨_, rfl, ?_⟩ | refine ⟨_, _, _, rfl, ?_⟩ | (refine ⟨?_, rfl, ?_⟩; focus (simp; done))) | ((with_reducible first | apply i_ldn | apply i_ldnq); exact rfl; exact rfl; exact rfl) | ((try with_reducible refine d_reg ?_); simp only [go_sem, Nat.reduceAdd, Nat.reduceEqDiff, Int.reduceToNat, Nat.reduceMul, Nat.reduceSub]) | clear hK K)
      all_goals try (exfalso; omega)
      obtain ⟨m, rfl⟩ : ∃ m : Nat, base = (m : Int) := ⟨base.toNat, by omega⟩
      obtain ⟨n, rfl⟩ : ∃ m : Nat, pages = (m : Int) := ⟨pages.toNat, by omega⟩
      obtain ⟨g, rfl⟩ : ∃ m : Nat, gen = (m : Int) := ⟨gen.toNat, by omega⟩
      exact i_done (e := eT2 eP eI) (some ⟨b, 0, none⟩, 0) [spt ⟨b, m, n, g⟩ Z.sb, dk Z] rfl ⟨⟨b, m, n, g⟩, rfl, rfl, rfl, ⟨by dsimp only; omega, by dsimp only; omega, by dsimp only; omega, by dsimp only; omega, by dsimp only; omega, hn⟩, rfl, rfl⟩
end Go.Sp
/- The store: what every sector has, whatever is done; a page that is written is read. -/
namespace Go.Sp
open Go Go.Proofs
set_option linter.unusedSimpArgs false
set_option linter.unusedVariables false
set_option maxRecDepth 10000
/-- All that a sector may have, lasting or waiting. -/
def All (P : Nat → List UInt8 → Prop) (Z : Dk) : Prop := ∀ j, j < Z.sure.length → P j (wh (Z.sure.getD j [])) ∧ ∀ v, gk Z.es (j : Int) = some v → P j v
section
variable {P : Nat → List UInt8 → Prop} {Z : Dk}
theorem All.get (h : All P Z) {j : Nat} (hj : j < Z.sure.length) : P j (Z.get (j : Int)) := by
  obtain ⟨h1, h2⟩ := h j hj
  unfold Dk.get
  cases hg : gk Z.es (j : Int) with
  | none => simpa using h1
  | some v => simpa using h2 v hg
theorem All.of {Z' : Dk} (h : All P Z) (hs : Z'.sure = Z.sure) (he : Z'.es = Z.es) : All P Z' := by
  intro j hj
  rw [hs] at hj ⊢
  rw [he]
  exact h j hj
theorem All.off (hok : Z.ok) (h : All P Z) (keep : Int) : All P (Z.off keep) := by
  have hl := Dk.cutn_len Z keep Z.keys.length
  intro j hj
  have hj' : j < Z.sure.length := by rw [← hl]; exact hj
  refine ⟨?_, fun v hv => by cases hv⟩
  show P j (wh ((Z.cutn keep Z.keys.length).getD j []))
  rcases Dk.cut_or hok keep Z.keys.length (Nat.le_refl _) j with h1 | h1
  · rw [h1]; exact (h j hj').1
  · obtain ⟨x, hx, _, hv⟩ := gk_mem h1
    have h64 := hok.e64 x hx
    rw [hv] at h64
    rw [wh_full h64]
    exact (h j hj').2 _ h1
theorem All.act (hok : Z.ok) (h : All P Z) : All P Z.act.2 := by
  unfold Dk.act
  split
  · exact All.off hok h _
  · exact All.of h rfl rfl
theorem All.write (hok : Z.ok) (h : All P Z) {i : Nat} {s : List UInt8} (hp : s.length ≤ 64 → P i (wh s)) : All P (Z.write (i : Int) s).2 := by
  have ha := All.act hok h
  unfold Dk.write
  split
  · split
    · exact h
    · rename_i hs
      split
      · intro j hj
        refine ⟨(ha j hj).1, fun v hv => ?_⟩
        have e : gk (Z.act.2.put (i : Int) (wh s)).es (j : Int) = if (i : Int) = (j : Int) then some (wh s) else gk Z.act.2.es (j : Int) := gk_pk _ _ _ _ _
        rw [e] at hv
        by_cases hij : (i : Int) = (j : Int)
        · rw [if_pos hij] at hv
          have : i = j := by omega
          subst this
          simp only [Option.some.injEq] at hv
          rw [← hv]
          exact hp (by omega)
        · rw [if_neg hij] at hv
          exact (ha j hj).2 v hv
      · exact ha
  · exact h
theorem All.flush (hok : Z.ok) (h : All P Z) : All P Z.flush := by
  intro j hj
  have hj' : j < Z.sure.length := by rw [← sy_len Z.es Z.sure]; exact hj
  refine ⟨?_, fun v hv => by cases hv⟩
  have e := Dk.flush_get hok hj'
  have e2 : Z.flush.get (j : Int) = wh (Z.flush.sure.getD j []) := by
    unfold Dk.get
    simp [Dk.flush, gk]
  rw [← e2, e]
  exact h.get hj'
theorem All.sync (hok : Z.ok) (h : All P Z) : All P Z.sync.2 := by
  have ha := All.act hok h
  unfold Dk.sync
  split
  · split
    · exact All.flush (Dk.act_ok hok) ha
    · exact ha
  · exact h
theorem All.wp (hok : Z.ok) (h : All P Z) {a : Nat} {m text : List UInt8} (hm : m.length = 8) (ht : text.length = 224) (hp : ∀ i, i < 4 → P (a + i) (m ++ pt text i)) : ∀ k, k ≤ 4 → All P (Z.wp a m text k).2
  | 0, _ => h
  | k + 1, hk => by
    have ih := All.wp hok h hm ht hp k (by omega)
    have h1 := (Dk.wp_ok hok a m text k).1
    unfold Dk.wp
    split
    · refine All.write h1 ih fun _ => ?_
      rw [wh_full (by rw [List.length_append, pt_len ht (by omega)]; omega)]
      exact hp k (by omega)
    · exact ih
theorem All.wpg {S : St} (hok : Z.ok) (h : All P Z) {id : Int} {text : List UInt8} {lsn : Int} (hp : ∀ p : Nat, id = (p : Int) → p < S.pages → text.length = 224 → 0 ≤ lsn → lsn < 281474976710656 → ∀ i, i < 4 → P (S.base + 4 * p + i) (mk8 S.gen lsn ++ pt text i)) : All P (Z.wpg S id text lsn).2 := by
  unfold Dk.wpg
  split
  · rename_i hc
    obtain ⟨p, rfl, hlt⟩ := St.chk_in hc
    split
    · rename_i ht
      split
      · exact h
      · rw [Int.toNat_natCast]
        exact All.wp hok h (mk8_len _ _) ht (hp p rfl hlt ht (by omega) (by omega)) 4 (Nat.le_refl _)
    · exact h
  · exact h
end
theorem Dk.write_n (Z : Dk) (i : Int) (s : List UInt8) : (Z.write i s).2.sure.length = Z.sure.length := by
  have := Dk.act_len Z
  unfold Dk.write
  split
  · split
    · rfl
    · split
      · exact this
      · exact this
  · rfl
theorem Dk.sync_n (Z : Dk) : Z.sync.2.sure.length = Z.sure.length := by
  have := Dk.act_len Z
  unfold Dk.sync
  split
  · split
    · exact (sy_len _ _).trans this
    · exact this
  · rfl
theorem Dk.wp_n (Z : Dk) (a : Nat) (m text : List UInt8) : ∀ k, (Z.wp a m text k).2.sure.length = Z.sure.length
  | 0 => rfl
  | k + 1 => by
    have ih := Dk.wp_n Z a m text k
    unfold Dk.wp
    split
    · rw [Dk.write_n]; exact ih
    · exact ih
theorem Dk.wpg_same {Z : Dk} (h : Z.ok) (S : St) (id : Int) (text : List UInt8) (lsn : Int) : (Z.wpg S id text lsn).2.ok ∧ (Z.wpg S id text lsn).2.sb = Z.sb ∧ (Z.wpg S id text lsn).2.sure.length = Z.sure.length := by
  unfold Dk.wpg
  split
  · split
    · split
      · exact ⟨h, rfl, rfl⟩
      · obtain ⟨a, b⟩ := Dk.wp_ok h (S.base + 4 * id.toNat) (mk8 S.gen lsn) text 4
        exact ⟨a, b, Dk.wp_n _ _ _ _ _⟩
    · exact ⟨h, rfl, rfl⟩
  · exact ⟨h, rfl, rfl⟩
/-! ### Writes on a disk that nothing lets go -/
theorem Dk.calm.wp {Z : Dk} {sb n : Nat} (h : Z.calm sb n) {a : Nat} (ha : a + 4 ≤ n) {m text : List UInt8} (hm : m.length = 8) (ht : text.length = 224) : ∀ k, k ≤ 4 → (Z.wp a m text k).1 = 0 ∧ (Z.wp a m text k).2.calm sb n ∧ (Z.wp a m text k).2.sure = Z.sure ∧
    ∀ j : Nat, gk (Z.wp a m text k).2.es (j : Int) = if a ≤ j ∧ j < a + k then some (m ++ pt text (j - a)) else gk Z.es (j : Int)
  | 0, _ => ⟨rfl, h, rfl, fun j => by rw [if_neg (by omega)]; rfl⟩
  | k + 1, hk => by
    obtain ⟨h1, h2, h3, h4⟩ := Dk.calm.wp h ha hm ht k (by omega)
    have hpl := pt_len ht (i := k) (by omega)
    have hl : (m ++ pt text k).length = 64 := by rw [List.length_append]; omega
    obtain ⟨w1, w2, w3, w4, w5⟩ := h2.write (i := a + k) (by omega) (by omega : (m ++ pt text k).length ≤ 64)
    have e : Z.wp a m text (k + 1) = (Z.wp a m text k).2.write ((a + k : Nat) : Int) (m ++ pt text k) := by show ite _ _ _ = _; rw [if_pos h1]
    rw [e]
    refine ⟨w1, w2, w3.trans h3, fun j => ?_⟩
    rw [w5, h4, wh_full hl]
    by_cases hj : a + k = j
    · rw [if_pos (by omega), if_pos ⟨by omega, by omega⟩]
      have : j - a = k := by omega
      rw [this]
    · rw [if_neg (by omega)]
      by_cases hc : a ≤ j ∧ j < a + k
      · rw [if_pos hc, if_pos ⟨hc.1, by omega⟩]
      · rw [if_neg hc, if_neg (by omega)]
theorem pt_all {text : List UInt8} (ht : text.length = 224) : pt text 0 ++ pt text 1 ++ pt text 2 ++ pt text 3 = text := by
  have g : ∀ a w : Nat, text.take a ++ (text.drop a).take w = text.take (a + w) := fun a w => by rw [List.take_add]
  unfold pt
  rw [Nat.mul_zero, List.drop_zero, g, g, g, List.take_of_length_le (by omega)]
theorem mk8_gen {gen : Nat} (hg : gen < 65536) (lsn : Int) : be ((mk8 gen lsn).take 2) = gen := by
  have e : (mk8 gen lsn).take 2 = lowb (gen : Int) 2 := by
    unfold mk8
    rw [List.take_left' (lowb_len _ _)]
  rw [e]
  have := be_fits (n := (gen : Int)) (w := 2) (by omega) (by rw [p2562]; omega)
  omega
theorem mk8_lsn (gen : Nat) {lsn : Int} (h0 : 0 ≤ lsn) (h1 : lsn < 281474976710656) : (be (((mk8 gen lsn).drop 2).take 6) : Int) = lsn := by
  have e : ((mk8 gen lsn).drop 2).take 6 = lowb lsn 6 := by
    unfold mk8
    rw [List.drop_left' (lowb_len _ _), List.take_of_length_le (by rw [lowb_len]; omega)]
  rw [e]
  exact be_fits h0 (by rw [p2566]; exact h1)
theorem sc_parts {m u : List UInt8} (hm : m.length = 8) : (m ++ u).take 8 = m ∧ (m ++ u).drop 8 = u ∧ (m ++ u).take 2 = m.take 2 := by
  refine ⟨List.take_left' hm, List.drop_left' hm, ?_⟩
  rw [List.take_append_of_le_length (by omega)]
/-- A page whose sectors are as one write made them. -/
theorem rpg_of {Z : Dk} {S : St} {n p : Nat} (hS : S.ok n) (hp : p < S.pages) (hu : Z.up = true) {text : List UInt8} (ht : text.length = 224) {lsn : Int} (h0 : 0 ≤ lsn) (h1 : lsn < 281474976710656)
    (hs : ∀ i, i < 4 → Z.sc (S.base + 4 * p) i = mk8 S.gen lsn ++ pt text i) : Z.rpg S (p : Int) = (text, lsn, 0) := by
  have hc : S.chk (p : Int) = 0 := by unfold St.chk; rw [if_neg (by omega)]
  have hm := mk8_len S.gen lsn
  have hg := mk8_gen hS.g2 lsn
  have hq := mk8_lsn S.gen h0 h1
  unfold Dk.rpg
  rw [if_pos hc, hu, if_pos rfl, Int.toNat_natCast]
  generalize S.base + 4 * p = a at *
  have s0 := hs 0 (by decide)
  have s1 := hs 1 (by decide)
  have s2 := hs 2 (by decide)
  have s3 := hs 3 (by decide)
  have q0 := sc_parts (m := mk8 S.gen lsn) (u := pt text 0) hm
  have q1 := sc_parts (m := mk8 S.gen lsn) (u := pt text 1) hm
  have q2 := sc_parts (m := mk8 S.gen lsn) (u := pt text 2) hm
  have q3 := sc_parts (m := mk8 S.gen lsn) (u := pt text 3) hm
  have e1 : Z.rsm a S.gen 4 = true := by
    simp only [Dk.rsm]
    rw [s0, q0.2.2, hg]
    simp
  have e2 : Z.rwh a 4 = true := by
    simp only [Dk.rwh]
    rw [s0, s1, s2, s3, q0.1, q1.1, q2.1, q3.1]
    simp
  have e3 : Z.rtx a 4 = text := by
    simp only [Dk.rtx]
    rw [s0, s1, s2, s3, q0.2.1, q1.2.1, q2.2.1, q3.2.1]
    simpa using pt_all ht
  rw [e1, e2, e3, if_pos rfl, if_pos rfl, s0, q0.1, hq]
end Go.Sp
/- The log: a sector is written; scan. -/
namespace Go.Sp
open Go Go.Proofs
set_option linter.unusedSimpArgs false
set_option linter.unusedVariables false
set_option maxRecDepth 10000
def part (s : List UInt8) (i : Nat) : List UInt8 := (s.drop (58 * i)).take 58
theorem part_le (s : List UInt8) (i : Nat) : (part s i).length ≤ 58 := by unfold part; rw [List.length_take]; omega
def Lg.sec (G : Lg) (i : Nat) : List UInt8 := lowb (G.run : Int) 4 ++ lowb ((part G.all i).length : Int) 2 ++ part G.all i
def Dk.lw (Z : Dk) (G : Lg) (i : Nat) : Int × Dk := if G.sectors ≤ i then (0, Z) else Z.write ((G.base + i : Nat) : Int) (G.sec i)
theorem min_part (s : List UInt8) (i : Nat) (hs : s.length ≤ 1000000) (hi : i ≤ 8192) :
    (if (s.length : Int) < (i : Int) * 58 then (s.length : Int) else (i : Int) * 58) = ((min (58 * i) s.length : Nat) : Int) := by
  split <;> omega
theorem ss_part (s : List UInt8) (i : Nat) : ss s ((min (58 * i) s.length : Nat) : Int) ((min (58 * (i + 1)) s.length : Nat) : Int) = part s i := by
  unfold ss part
  simp only [Int.toNat_natCast]
  rcases Nat.lt_or_ge (58 * i) s.length with h | h
  · rw [show min (58 * i) s.length = 58 * i by omega]
    rcases Nat.lt_or_ge (58 * (i + 1)) s.length with h2 | h2
    · rw [show min (58 * (i + 1)) s.length = 58 * i + 58 by omega, List.drop_take]
      congr 1
      omega
    · rw [show min (58 * (i + 1)) s.length = s.length by omega, List.take_length, List.take_of_length_le (by rw [List.length_drop]; omega)]
  · rw [show min (58 * i) s.length = s.length by omega, show min (58 * (i + 1)) s.length = s.length by omega, List.take_length, List.drop_length, List.drop_eq_nil_of_le h]
    rfl
theorem layN_go {s : List UInt8} {n : Int} {w : Nat} (h : fitN n w) : layN (s, 0) n w = (s ++ lowb n w, 0) := by
  have h' : ¬ (n < 0 ∨ ((256 ^ w : Nat) : Int) ≤ n) := by
    have h1 := h.1
    have h2 := h.2
    omega
  have e : putN s n w = (s ++ lowb n w, 0) := if_neg h'
  unfold layN lay1
  rw [if_neg (by simp), e, if_neg (by simp)]
theorem fit4 {n : Nat} (h : n < 4294967296) : fitN (n : Int) 4 := ⟨by omega, by rw [show ((256 ^ 4 : Nat) : Int) = 4294967296 by decide]; omega⟩
theorem sec_w (G : Lg) (i : Nat) (h1 : G.run < 4294967296) : layN (layN ([], 0) (G.run : Int) 4) ((part G.all i).length : Int) 2 = (lowb (G.run : Int) 4 ++ lowb ((part G.all i).length : Int) 2, 0) := by
  have hp := part_le G.all i
  rw [layN_go (fit4 h1), layN_go (fit2 (by omega))]
  rfl
theorem g77 (G : Lg) (Z : Dk) (h : Z.ok) (hG : G.ok Z.sure.length) (i : Nat) (hi : i ≤ 8192) : Fq eI Tryz.prog 77 #[G.p, .int .i64 (i : Int)] [lgp G Z.sb, dk Z] [lgp G Z.sb, dk (Z.lw G i).2] (Z.lw G i).1 := fun L => by
  have hfit := hG.fit
  have hn1 := hG.n1
  have hle := hG.le
  have F := F27 Z h ((G.base + i : Nat) : Int) (G.sec i)
  have hp := part_le G.all i
  simp only [Dk.p] at F
  unfold Dk.lw Lg.sec
  refine c77_fn rfl rfl ?_
  by_cases h1 : G.sectors ≤ i
  · rw [if_pos h1]
    repeat' ((fail_if_success with_reducible refine nph ?_); first | (with_reducible first | (refine d_seq ?_; intro K hK) | (refine hK _ _ ?_; clear hK K) | (refine SG.p ?_; try intro b)) | ((with_reducible refine SC.p ?_); refine And.intro ?_ ?_) <;> intro hc <;> try simp only [push_cast, Int.reduceEq, Int.reduceLT, Int.reduceLE, Int.reduceNe] at hc | with_reducible refine r_rq (by first | decide | omega) ?_ | ((with_reducible refine SL.p ?_); first | refine ⟨_, rfl, ?_⟩ | refine ⟨_, _, _, rfl, ?_⟩ | (refine ⟨?_, rfl, ?_⟩; focus (simp; done))) | ((with_reducible first | apply i_ldn | apply i_ldnq); exact rfl; exact rfl; exact rfl) | ((try with_reducible refine d_reg ?_); simp only [go_sem, Nat.reduceAdd, Nat.reduceEqDiff, Int.reduceToNat, Nat.reduceMul, Nat.reduceSub]) | clear hK K)
    all_goals try (exfalso; omega)
    (with_reducible first | apply i_ret0 | apply i_ret2 | apply i_ret3 | apply i_ret); exact rfl
    rfl
  · rw [if_neg h1]
    have W := sec_w G i hG.r2
    have m1 := min_part G.all i (by omega) hi
    have m2 := min_part G.all (i + 1) (by omega) (by omega)
    have e1 : IntKind.wrap .i64 ((i : Int) * 58) = (i : Int) * 58 := w64 (by omega) (by omega)
    have e2 : IntKind.wrap .i64 (IntKind.wrap .i64 ((i : Int) + 1) * 58) = ((i + 1 : Nat) : Int) * 58 := by rw [w64 (n := (i : Int) + 1) (by omega) (by omega), w64 (by omega) (by omega)]; omega
    have e3 : IntKind.wrap .i64 ((G.base : Int) + (i : Int)) = ((G.base + i : Nat) : Int) := by rw [w64 (by omega) (by omega)]; omega
    have l1 := layN_len ([], 0) (G.run : Int) 4
    unfold Lg.sec at F
    repeat' ((fail_if_success with_reducible refine nph ?_); first | (with_reducible first | (refine d_seq ?_; intro K hK) | (refine hK _ _ ?_; clear hK K) | (refine SG.p ?_; try intro b)) | ((with_reducible refine SC.p ?_); refine And.intro ?_ ?_) <;> intro hc <;> try simp only [push_cast, Int.reduceEq, Int.reduceLT, Int.reduceLE, Int.reduceNe] at hc | with_reducible refine r_rq (by first | decide | omega) ?_ | ((with_reducible refine SL.p ?_); first | refine ⟨_, rfl, ?_⟩ | refine ⟨_, _, _, rfl, ?_⟩ | (refine ⟨?_, rfl, ?_⟩; focus (simp; done))) | ((with_reducible first | apply i_ldn | apply i_ldnq); exact rfl; exact rfl; exact rfl) | ((try with_reducible refine d_reg ?_); simp only [go_sem, Nat.reduceAdd, Nat.reduceEqDiff, Int.reduceToNat, Nat.reduceMul, Nat.reduceSub]) | clear hK K)
    all_goals try (exfalso; omega)
    refine r_ph0 ?_
    repeat' (first | rw [e1] | rw [e2] | rw [m1] | rw [m2] | rw [ss_part] | (fail_if_success with_reducible refine nph ?_); first | (with_reducible first | (refine d_seq ?_; intro K hK) | (refine hK _ _ ?_; clear hK K) | (refine SG.p ?_; try intro b)) | ((with_reducible refine SC.p ?_); refine And.intro ?_ ?_) <;> intro hc <;> try simp only [push_cast, Int.reduceEq, Int.reduceLT, Int.reduceLE, Int.reduceNe] at hc | with_reducible refine r_rq (by first | decide | omega) ?_ | ((with_reducible refine SL.p ?_); first | refine ⟨_, rfl, ?_⟩ | refine ⟨_, _, _, rfl, ?_⟩ | (refine ⟨?_, rfl, ?_⟩; focus (simp; done))) | ((with_reducible first | apply i_ldn | apply i_ldnq); exact rfl; exact rfl; exact rfl) | ((try with_reducible refine d_reg ?_); simp only [go_sem, Nat.reduceAdd, Nat.reduceEqDiff, Int.reduceToNat, Nat.reduceMul, Nat.reduceSub]) | clear hK K)
    refine i_clq (gN b ([], 0) (G.run : Int) 4 (by decide) (by decide) (by decide)) ?_
    repeat' ((fail_if_success with_reducible refine nph ?_); first | (with_reducible first | (refine d_seq ?_; intro K hK) | (refine hK _ _ ?_; clear hK K) | (refine SG.p ?_; try intro b)) | ((with_reducible refine SC.p ?_); refine And.intro ?_ ?_) <;> intro hc <;> try simp only [push_cast, Int.reduceEq, Int.reduceLT, Int.reduceLE, Int.reduceNe] at hc | with_reducible refine r_rq (by first | decide | omega) ?_ | ((with_reducible refine SL.p ?_); first | refine ⟨_, rfl, ?_⟩ | refine ⟨_, _, _, rfl, ?_⟩ | (refine ⟨?_, rfl, ?_⟩; focus (simp; done))) | ((with_reducible first | apply i_ldn | apply i_ldnq); exact rfl; exact rfl; exact rfl) | ((try with_reducible refine d_reg ?_); simp only [go_sem, Nat.reduceAdd, Nat.reduceEqDiff, Int.reduceToNat, Nat.reduceMul, Nat.reduceSub]) | clear hK K)
    refine i_clq (gN b (layN ([], 0) (G.run : Int) 4) ((part G.all i).length : Int) 2 (by decide) (by decide) (by dsimp only [List.length_nil] at l1; omega)) ?_
    rw [W]
    repeat' ((fail_if_success with_reducible refine nph ?_); first | (with_reducible first | (refine d_seq ?_; intro K hK) | (refine hK _ _ ?_; clear hK K) | (refine SG.p ?_; try intro b)) | ((with_reducible refine SC.p ?_); refine And.intro ?_ ?_) <;> intro hc <;> try simp only [push_cast, Int.reduceEq, Int.reduceLT, Int.reduceLE, Int.reduceNe] at hc | with_reducible refine r_rq (by first | decide | omega) ?_ | ((with_reducible refine SL.p ?_); first | refine ⟨_, rfl, ?_⟩ | refine ⟨_, _, _, rfl, ?_⟩ | (refine ⟨?_, rfl, ?_⟩; focus (simp; done))) | ((with_reducible first | apply i_ldn | apply i_ldnq); exact rfl; exact rfl; exact rfl) | ((try with_reducible refine d_reg ?_); simp only [go_sem, Nat.reduceAdd, Nat.reduceEqDiff, Int.reduceToNat, Nat.reduceMul, Nat.reduceSub]) | clear hK K)
    refine i_clp (f96 b (lowb (G.run : Int) 4 ++ lowb ((part G.all i).length : Int) 2, 0)) ?_
    have q4 := lowb_len (G.run : Int) 4
    have q2 := lowb_len ((part G.all i).length : Int) 2
    repeat' ((fail_if_success with_reducible refine nph ?_); first | (with_reducible first | (refine d_seq ?_; intro K hK) | (refine hK _ _ ?_; clear hK K) | (refine SG.p ?_; try intro b)) | ((with_reducible refine SC.p ?_); refine And.intro ?_ ?_) <;> intro hc <;> try simp only [push_cast, Int.reduceEq, Int.reduceLT, Int.reduceLE, Int.reduceNe] at hc | with_reducible refine r_rq (by first | decide | omega) ?_ | ((with_reducible refine SL.p ?_); first | refine ⟨_, rfl, ?_⟩ | refine ⟨_, _, _, rfl, ?_⟩ | (refine ⟨?_, rfl, ?_⟩; focus (simp; done))) | ((with_reducible first | apply i_ldn | apply i_ldnq); exact rfl; exact rfl; exact rfl) | ((try with_reducible refine d_reg ?_); simp only [go_sem, Nat.reduceAdd, Nat.reduceEqDiff, Int.reduceToNat, Nat.reduceMul, Nat.reduceSub]) | clear hK K)
    refine r_ph [lgp G Z.sb] SX.p ?_
    repeat' ((fail_if_success with_reducible refine nph ?_); first | (with_reducible first | (refine d_seq ?_; intro K hK) | (refine hK _ _ ?_; clear hK K) | (refine SG.p ?_; try intro b)) | ((with_reducible refine SC.p ?_); refine And.intro ?_ ?_) <;> intro hc <;> try simp only [push_cast, Int.reduceEq, Int.reduceLT, Int.reduceLE, Int.reduceNe] at hc | with_reducible refine r_rq (by first | decide | omega) ?_ | ((with_reducible refine SL.p ?_); first | refine ⟨_, rfl, ?_⟩ | refine ⟨_, _, _, rfl, ?_⟩ | (refine ⟨?_, rfl, ?_⟩; focus (simp; done))) | ((with_reducible first | apply i_ldn | apply i_ldnq); exact rfl; exact rfl; exact rfl) | ((try with_reducible refine d_reg ?_); simp only [go_sem, Nat.reduceAdd, Nat.reduceEqDiff, Int.reduceToNat, Nat.reduceMul, Nat.reduceSub]) | clear hK K)
    refine r_rq (by rw [List.length_append]; omega) ?_
    rw [e3]
    refine i_clq F ?_
    repeat' ((fail_if_success with_reducible refine nph ?_); first | (with_reducible first | (refine d_seq ?_; intro K hK) | (refine hK _ _ ?_; clear hK K) | (refine SG.p ?_; try intro b)) | ((with_reducible refine SC.p ?_); refine And.intro ?_ ?_) <;> intro hc <;> try simp only [push_cast, Int.reduceEq, Int.reduceLT, Int.reduceLE, Int.reduceNe] at hc | with_reducible refine r_rq (by first | decide | omega) ?_ | ((with_reducible refine SL.p ?_); first | refine ⟨_, rfl, ?_⟩ | refine ⟨_, _, _, rfl, ?_⟩ | (refine ⟨?_, rfl, ?_⟩; focus (simp; done))) | ((with_reducible first | apply i_ldn | apply i_ldnq); exact rfl; exact rfl; exact rfl) | ((try with_reducible refine d_reg ?_); simp only [go_sem, Nat.reduceAdd, Nat.reduceEqDiff, Int.reduceToNat, Nat.reduceMul, Nat.reduceSub]) | clear hK K)
    (with_reducible first | apply i_ret0 | apply i_ret2 | apply i_ret3 | apply i_ret); exact rfl
    rfl
theorem Dk.lw_ok {Z : Dk} (h : Z.ok) (G : Lg) (i : Nat) : (Z.lw G i).2.ok ∧ (Z.lw G i).2.sb = Z.sb ∧ (Z.lw G i).2.sure.length = Z.sure.length := by
  unfold Dk.lw Lg.sec
  split
  · exact ⟨h, rfl, rfl⟩
  · exact ⟨Dk.write_ok h _ _, Dk.write_sb _ _ _, Dk.write_n _ _ _⟩
end Go.Sp
/- The log: scan. -/
namespace Go.Sp
open Go Go.Proofs
set_option linter.unusedSimpArgs false
set_option linter.unusedVariables false
set_option maxRecDepth 10000
section
variable {L : List HP} {b : Nat} {p : Option Addr} {s : SlV} {l t : List UInt8}
theorem bld_size {w : World} {T e : TypeId} {bs : List Value} (h : Holds w (bld b T e p s bs ++ L)) : b ≤ w.heap.size := by
  have h1 : Holds w (ar b T [.pointer p, .slice s.1 s.2.1 s.2.2] :: (ow e 1 s bs :: L)) := h
  have hg := Holds.get h1
  rcases Nat.lt_or_ge b w.heap.size with h | h
  · omega
  · rw [Array.getElem?_eq_none h] at hg; cases hg
theorem r_ws {k : Int × Value → W} (hL : ∀ A ∈ L, Low b A) (hp : p = none ∨ p = some ⟨b, 0, none⟩) (hs : ∀ g, s.1 = some g → b < g.block) (hlen : l.length + t.length ≤ 140737488355328)
    (hk : ∀ s' : SlV, (∀ g, s'.1 = some g → b < g.block) → E (bld b 144 5 (some ⟨b, 0, none⟩) s' (cb (l ++ t)) ++ L) (k ((t.length : Int), .nilIface))) :
    E (bld b 144 5 p s (cb l) ++ L) (cal (eT2 eI eV) Tryz.prog 100 #[.pointer (some ⟨b, 0, none⟩), str t] k) := fun w hw => by
  have hi := bld_is hp hs hw
  have hc := Any.Builder_WriteString Tryz.lays166 Tryz.builderW b b (cb l) ⟨t.toArray⟩ w hi (by rw [cb_len]; exact hlen) (bld_size hw)
  refine hc.mono ?_
  rintro _ w' ⟨rfl, hb, hbe⟩
  obtain ⟨s', h1, h2⟩ := bld_of hL hw hb hbe
  refine ⟨((t.length : Int), .nilIface), rfl, hk s' h1 w' ?_⟩
  have e : cb (l ++ t) = cb l ++ Lib.strCells ⟨t.toArray⟩ := by simp [cb, Lib.strCells]
  rw [e]
  exact h2
theorem low_keeps {w w' : World} (hL : ∀ A ∈ L, Low b A) (h : Holds w L) (hbe : RowKit.Below b w w') : Holds w' L := by
  refine HS.mono (Low.HS hL _ h) fun n o hn => ?_
  unfold lo at hn
  split at hn
  · rename_i hnb
    cases n with
    | zero => simpa [Sp.hp, hbe.os, hbe.output, hbe.tape] using hn
    | succ n =>
      rw [hp_s] at hn ⊢
      rw [hbe.block n (by omega)]
      exact hn
  · cases hn
theorem r_bs' {k : List UInt8 → W} (hL : ∀ A ∈ L, Low b A) (hp : p = none ∨ p = some ⟨b, 0, none⟩) (hs : ∀ g, s.1 = some g → b < g.block) (hk : E L (k l)) :
    E (bld b 144 5 p s (cb l) ++ L) (cal eS Tryz.prog 102 #[.pointer (some ⟨b, 0, none⟩)] k) := fun w hw => by
  have hi := bld_is hp hs hw
  have hi' : Lib.IsBuilder 144 5 b b (Lib.byteCells l) w := by simpa [cb, Lib.byteCells] using hi
  have hc := Any.Builder_String_any Tryz.lays169 Tryz.builderS b b l w hi' (bld_size hw)
  refine hc.mono ?_
  rintro _ w' ⟨rfl, hbe⟩
  refine ⟨l, rfl, hk w' (low_keeps hL ?_ hbe)⟩
  have h1 : Holds w (ar b 144 [.pointer p, .slice s.1 s.2.1 s.2.2] :: (ow 5 1 s (cb l) :: L)) := hw
  exact HS.tl (HS.tl h1)
end
theorem low_dk {Z : Dk} {b : Nat} (h : ∃ a, dk Z a ∧ dm b a) : Low b (dk Z) := by
  obtain ⟨a, ha, hd⟩ := h
  have := HS.dom (L := dkl Z) ha hd
  refine Low.fold fun A hA => ?_
  obtain ⟨x, hx, hdx⟩ := this A hA
  simp only [dkl, List.mem_cons, List.not_mem_nil, or_false] at hA
  rcases hA with rfl | rfl | rfl
  · exact Low.blk (dm_blk hx hdx)
  · exact Low.blk (dm_blk hx hdx)
  · exact Low.blk (dm_blk hx hdx)
/-- The bytes of the sectors that go on. -/
def Dk.scn (Z : Dk) (base top : Nat) : Nat → Nat → Nat → List UInt8
  | 0, _, _ => []
  | k + 1, i, r =>
    if be ((Z.get ((base + i : Nat) : Int)).take 4) < r ∨ top < be ((Z.get ((base + i : Nat) : Int)).take 4) ∨ 58 < be (((Z.get ((base + i : Nat) : Int)).drop 4).take 2) then []
    else ((Z.get ((base + i : Nat) : Int)).drop 6).take (be (((Z.get ((base + i : Nat) : Int)).drop 4).take 2)) ++ (if be (((Z.get ((base + i : Nat) : Int)).drop 4).take 2) < 58 then [] else Z.scn base top k (i + 1) (be ((Z.get ((base + i : Nat) : Int)).take 4)))
set_option maxHeartbeats 2000000 in
theorem g68 (G : Lg) (Z : Dk) (h : Z.ok) (hG : G.ok Z.sure.length) : Fn (eT2 eS eI) Tryz.prog 68 #[G.p] [lgp G Z.sb, dk Z] fun y X => X = [lgp G Z.sb, dk Z] ∧ y = if Z.up then (Z.scn G.base G.run G.sectors 0 1, 0) else ([], 9) := by
  refine Fn.ex fun h0 => ?_
  have hfit := hG.fit
  have hn1 := hG.n1
  have hs1 := hG.s1
  have hr2 := hG.r2
  refine c68_fn rfl rfl ?_
  refine d_seq ?_
  intro K0 hK0
  refine d_reg ?_
  simp only [go_sem, Nat.reduceAdd, Nat.reduceEqDiff, Int.reduceToNat, Nat.reduceMul, Nat.reduceSub]
  refine hK0 _ _ ?_
  clear hK0 K0
  refine d_seq ?_
  intro K0 hK0
  refine d_reg ?_
  simp only [go_sem, Nat.reduceAdd, Nat.reduceEqDiff, Int.reduceToNat, Nat.reduceMul, Nat.reduceSub]
  refine r_nwcD fun b hd => ?_
  refine hK0 _ _ ?_
  clear hK0 K0
  have hL : ∀ A ∈ [lgp G Z.sb, dk Z, ex h0], Low b A := by
    intro A hA
    simp only [List.mem_cons, List.not_mem_nil, or_false] at hA
    rcases hA with rfl | rfl | rfl
    · obtain ⟨x, hx, hdx⟩ := hd (lgp G Z.sb) (by simp)
      exact Low.blk (dm_blk hx hdx)
    · exact low_dk (hd (dk Z) (by simp))
    · obtain ⟨x, hx, hdx⟩ := hd (ex h0) (by simp)
      have e : x = h0 := hx
      subst e
      exact Low.ex hdx
  clear hd
  refine r_nilow 5 1 ?_
  repeat' ((fail_if_success with_reducible refine nph ?_); first | (with_reducible first | (refine d_seq ?_; intro K hK) | (refine hK _ _ ?_; clear hK K) | (refine SG.p ?_; try intro b)) | ((with_reducible refine SC.p ?_); refine And.intro ?_ ?_) <;> intro hc <;> try simp only [push_cast, Int.reduceEq, Int.reduceLT, Int.reduceLE, Int.reduceNe] at hc | with_reducible refine r_rq (by first | decide | omega) ?_ | ((with_reducible refine SL.p ?_); first | refine ⟨_, rfl, ?_⟩ | refine ⟨_, _, _, rfl, ?_⟩ | (refine ⟨?_, rfl, ?_⟩; focus (simp; done))) | ((with_reducible first | apply i_ldn | apply i_ldnq); exact rfl; exact rfl; exact rfl) | ((try with_reducible refine d_reg ?_); simp only [go_sem, Nat.reduceAdd, Nat.reduceEqDiff, Int.reduceToNat, Nat.reduceMul, Nat.reduceSub]) | clear hK K)
  cases hu : Z.up
  · have F : Fp (eT2 eS eI) Tryz.prog 22 #[.pointer (some ⟨Z.sb, 0, none⟩), .int .i64 (G.base : Int)] [dk Z] ([], 9) := by
      have := F31 Z h (G.base : Int)
      have e : Z.chk (G.base : Int) = 9 := by unfold Dk.chk; rw [hu, if_pos rfl]
      rw [e, if_neg (by decide : ¬ (9 : Int) = 0)] at this
      exact this
    refine d_lp [0, 4, 5, 15, 16] (fun _ : Unit => [(0, .pointer (some ⟨G.q, 0, none⟩)), (4, .pointer (some ⟨b, 0, none⟩)), (5, .int .i64 1), (15, .int .i64 (G.sectors : Int)), (16, .int .i64 0)])
      (fun _ => [ow 5 1 (none, 0, 0) [], ar b 144 [.pointer none, .slice none 0 0], lgp G Z.sb, dk Z, ex h0]) (fun _ => True) (fun _ => 0) () rfl SX.p trivial ?_
    intro _ _
    repeat' ((fail_if_success with_reducible refine nph ?_); first | (with_reducible first | (refine d_seq ?_; intro K hK) | (refine hK _ _ ?_; clear hK K) | (refine SG.p ?_; try intro b)) | ((with_reducible refine SC.p ?_); refine And.intro ?_ ?_) <;> intro hc <;> try simp only [push_cast, Int.reduceEq, Int.reduceLT, Int.reduceLE, Int.reduceNe] at hc | with_reducible refine r_rq (by first | decide | omega) ?_ | ((with_reducible refine SL.p ?_); first | refine ⟨_, rfl, ?_⟩ | refine ⟨_, _, _, rfl, ?_⟩ | (refine ⟨?_, rfl, ?_⟩; focus (simp; done))) | ((with_reducible first | apply i_ldn | apply i_ldnq); exact rfl; exact rfl; exact rfl) | ((try with_reducible refine d_reg ?_); simp only [go_sem, Nat.reduceAdd, Nat.reduceEqDiff, Int.reduceToNat, Nat.reduceMul, Nat.reduceSub]) | clear hK K)
    all_goals try (exfalso; omega)
    refine r_ph [lgp G Z.sb] SX.p ?_
    have e3 : IntKind.wrap .i64 ((G.base : Int) + 0) = (G.base : Int) := by rw [w64 (by omega) (by omega)]; omega
    repeat' ((fail_if_success with_reducible refine nph ?_); first | (with_reducible first | (refine d_seq ?_; intro K hK) | (refine hK _ _ ?_; clear hK K) | (refine SG.p ?_; try intro b)) | ((with_reducible refine SC.p ?_); refine And.intro ?_ ?_) <;> intro hc <;> try simp only [push_cast, Int.reduceEq, Int.reduceLT, Int.reduceLE, Int.reduceNe] at hc | with_reducible refine r_rq (by first | decide | omega) ?_ | ((with_reducible refine SL.p ?_); first | refine ⟨_, rfl, ?_⟩ | refine ⟨_, _, _, rfl, ?_⟩ | (refine ⟨?_, rfl, ?_⟩; focus (simp; done))) | ((with_reducible first | apply i_ldn | apply i_ldnq); exact rfl; exact rfl; exact rfl) | ((try with_reducible refine d_reg ?_); simp only [go_sem, Nat.reduceAdd, Nat.reduceEqDiff, Int.reduceToNat, Nat.reduceMul, Nat.reduceSub]) | clear hK K)
    rw [e3]
    refine i_clp F ?_
    repeat' ((fail_if_success with_reducible refine nph ?_); first | (with_reducible first | (refine d_seq ?_; intro K hK) | (refine hK _ _ ?_; clear hK K) | (refine SG.p ?_; try intro b)) | ((with_reducible refine SC.p ?_); refine And.intro ?_ ?_) <;> intro hc <;> try simp only [push_cast, Int.reduceEq, Int.reduceLT, Int.reduceLE, Int.reduceNe] at hc | with_reducible refine r_rq (by first | decide | omega) ?_ | ((with_reducible refine SL.p ?_); first | refine ⟨_, rfl, ?_⟩ | refine ⟨_, _, _, rfl, ?_⟩ | (refine ⟨?_, rfl, ?_⟩; focus (simp; done))) | ((with_reducible first | apply i_ldn | apply i_ldnq); exact rfl; exact rfl; exact rfl) | ((try with_reducible refine d_reg ?_); simp only [go_sem, Nat.reduceAdd, Nat.reduceEqDiff, Int.reduceToNat, Nat.reduceMul, Nat.reduceSub]) | clear hK K)
    all_goals try (first | contradiction | (simp only [ reduceCtorEq] at *; done) | (exfalso; omega))
    (with_reducible first | apply i_ret0 | apply i_ret2 | apply i_ret3 | apply i_ret); exact rfl
    simp [hu]
  · generalize hB : Z.scn G.base G.run G.sectors 0 1 = B
    refine d_lp [0, 4, 5, 15, 16] (fun t : Nat × Nat × List UInt8 × Option Addr × SlV => [(0, .pointer (some ⟨G.q, 0, none⟩)), (4, .pointer (some ⟨b, 0, none⟩)), (5, .int .i64 (t.2.1 : Int)), (15, .int .i64 (G.sectors : Int)), (16, .int .i64 (t.1 : Int))])
      (fun t => bld b 144 5 t.2.2.2.1 t.2.2.2.2 (cb t.2.2.1) ++ [lgp G Z.sb, dk Z, ex h0])
      (fun t => t.1 ≤ G.sectors ∧ t.2.2.1 ++ Z.scn G.base G.run (G.sectors - t.1) t.1 t.2.1 = B ∧ (t.2.2.2.1 = none ∨ t.2.2.2.1 = some ⟨b, 0, none⟩) ∧ (∀ g, t.2.2.2.2.1 = some g → b < g.block) ∧ t.2.2.1.length ≤ 58 * t.1) (fun t => G.sectors - t.1)
      (0, 1, [], none, (none, 0, 0)) rfl ?_ ⟨by dsimp only; omega, by dsimp only; rw [List.nil_append]; exact hB, .inl rfl, ⟨fun g hg => (by cases hg), (by simp)⟩⟩ ?_
    · show Sub ([ar b 144 [.pointer none, .slice none 0 0], ow 5 1 (none, 0, 0) []] ++ [lgp G Z.sb, dk Z, ex h0]) _
      exact SX.p
    rintro ⟨i, r, t, p, ⟨sp, sn, sc⟩⟩ ⟨hi, hb, hp, hs, ht⟩
    dsimp only at hi hb hp hs ht ⊢
    repeat' ((fail_if_success with_reducible refine nph ?_); first | (with_reducible first | (refine d_seq ?_; intro K hK) | (refine hK _ _ ?_; clear hK K) | (refine SG.p ?_; try intro b)) | ((with_reducible refine SC.p ?_); refine And.intro ?_ ?_) <;> intro hc <;> try simp only [push_cast, Int.reduceEq, Int.reduceLT, Int.reduceLE, Int.reduceNe] at hc | with_reducible refine r_rq (by first | decide | omega) ?_ | ((with_reducible refine SL.p ?_); first | refine ⟨_, rfl, ?_⟩ | refine ⟨_, _, _, rfl, ?_⟩ | (refine ⟨?_, rfl, ?_⟩; focus (simp; done))) | ((with_reducible first | apply i_ldn | apply i_ldnq); exact rfl; exact rfl; exact rfl) | ((try with_reducible refine d_reg ?_); simp only [go_sem, Nat.reduceAdd, Nat.reduceEqDiff, Int.reduceToNat, Nat.reduceMul, Nat.reduceSub]) | clear hK K)
    · have hch : Z.chk ((G.base + i : Nat) : Int) = 0 := by unfold Dk.chk; rw [hu, if_neg (by simp), if_neg (by omega)]
      have F := F31 Z h ((G.base + i : Nat) : Int)
      rw [hch, if_pos rfl] at F
      simp only [Dk.p] at F
      have hl := Dk.get_len h hch
      have e3 : IntKind.wrap .i64 ((G.base : Int) + (i : Int)) = ((G.base + i : Nat) : Int) := by rw [w64 (by omega) (by omega)]; omega
      obtain ⟨k, hk⟩ : ∃ k, G.sectors - i = k + 1 := ⟨G.sectors - i - 1, by omega⟩
      rw [hk] at hb
      unfold Dk.scn at hb
      generalize Z.get ((G.base + i : Nat) : Int) = v at *
      refine r_ph [lgp G Z.sb] SX.p ?_
      repeat' ((fail_if_success with_reducible refine nph ?_); first | (with_reducible first | (refine d_seq ?_; intro K hK) | (refine hK _ _ ?_; clear hK K) | (refine SG.p ?_; try intro b)) | ((with_reducible refine SC.p ?_); refine And.intro ?_ ?_) <;> intro hc <;> try simp only [push_cast, Int.reduceEq, Int.reduceLT, Int.reduceLE, Int.reduceNe] at hc | with_reducible refine r_rq (by first | decide | omega) ?_ | ((with_reducible refine SL.p ?_); first | refine ⟨_, rfl, ?_⟩ | refine ⟨_, _, _, rfl, ?_⟩ | (refine ⟨?_, rfl, ?_⟩; focus (simp; done))) | ((with_reducible first | apply i_ldn | apply i_ldnq); exact rfl; exact rfl; exact rfl) | ((try with_reducible refine d_reg ?_); simp only [go_sem, Nat.reduceAdd, Nat.reduceEqDiff, Int.reduceToNat, Nat.reduceMul, Nat.reduceSub]) | clear hK K)
      rw [e3]
      refine i_clp F ?_
      repeat' ((fail_if_success with_reducible refine nph ?_); first | (with_reducible first | (refine d_seq ?_; intro K hK) | (refine hK _ _ ?_; clear hK K) | (refine SG.p ?_; try intro b)) | ((with_reducible refine SC.p ?_); refine And.intro ?_ ?_) <;> intro hc <;> try simp only [push_cast, Int.reduceEq, Int.reduceLT, Int.reduceLE, Int.reduceNe] at hc | with_reducible refine r_rq (by first | decide | omega) ?_ | ((with_reducible refine SL.p ?_); first | refine ⟨_, rfl, ?_⟩ | refine ⟨_, _, _, rfl, ?_⟩ | (refine ⟨?_, rfl, ?_⟩; focus (simp; done))) | ((with_reducible first | apply i_ldn | apply i_ldnq); exact rfl; exact rfl; exact rfl) | ((try with_reducible refine d_reg ?_); simp only [go_sem, Nat.reduceAdd, Nat.reduceEqDiff, Int.reduceToNat, Nat.reduceMul, Nat.reduceSub]) | clear hK K)
      all_goals try (first | contradiction | (simp only [ reduceCtorEq] at *; done) | (exfalso; omega))
      refine i_cal (f72 v) ?_
      rintro y X ⟨rb, rfl, rfl⟩
      repeat' ((fail_if_success with_reducible refine nph ?_); first | (with_reducible first | (refine d_seq ?_; intro K hK) | (refine hK _ _ ?_; clear hK K) | (refine SG.p ?_; try intro b)) | ((with_reducible refine SC.p ?_); refine And.intro ?_ ?_) <;> intro hc <;> try simp only [push_cast, Int.reduceEq, Int.reduceLT, Int.reduceLE, Int.reduceNe] at hc | with_reducible refine r_rq (by first | decide | omega) ?_ | ((with_reducible refine SL.p ?_); first | refine ⟨_, rfl, ?_⟩ | refine ⟨_, _, _, rfl, ?_⟩ | (refine ⟨?_, rfl, ?_⟩; focus (simp; done))) | ((with_reducible first | apply i_ldn | apply i_ldnq); exact rfl; exact rfl; exact rfl) | ((try with_reducible refine d_reg ?_); simp only [go_sem, Nat.reduceAdd, Nat.reduceEqDiff, Int.reduceToNat, Nat.reduceMul, Nat.reduceSub]) | clear hK K)
      refine i_clq (num_go rb v 0 4 (by omega) (by decide) (by decide) (by omega)) ?_
      rw [List.drop_zero]
      refine i_clq (num_go rb v 4 2 (by omega) (by decide) (by decide) (by omega)) ?_
      generalize be (v.take 4) = at' at *
      generalize be ((v.drop 4).take 2) = n at *
      by_cases hbad : at' < r ∨ G.run < at' ∨ 58 < n
      · rw [if_pos hbad, List.append_nil] at hb
        subst hb
        repeat' ((fail_if_success with_reducible refine nph ?_); first | (with_reducible first | (refine d_seq ?_; intro K hK) | (refine hK _ _ ?_; clear hK K) | (refine SG.p ?_; try intro b)) | ((with_reducible refine SC.p ?_); refine And.intro ?_ ?_) <;> intro hc <;> try simp only [push_cast, Int.reduceEq, Int.reduceLT, Int.reduceLE, Int.reduceNe] at hc | with_reducible refine r_rq (by first | decide | omega) ?_ | ((with_reducible refine SL.p ?_); first | refine ⟨_, rfl, ?_⟩ | refine ⟨_, _, _, rfl, ?_⟩ | (refine ⟨?_, rfl, ?_⟩; focus (simp; done))) | ((with_reducible first | apply i_ldn | apply i_ldnq); exact rfl; exact rfl; exact rfl) | ((try with_reducible refine d_reg ?_); simp only [go_sem, Nat.reduceAdd, Nat.reduceEqDiff, Int.reduceToNat, Nat.reduceMul, Nat.reduceSub]) | clear hK K)
        all_goals try (exfalso; omega)
        all_goals
          refine E.sub (L' := bld b 144 5 p (sp, sn, sc) (cb t) ++ [lgp G Z.sb, dk Z, ex h0]) SX.p ?_
          refine r_bs' hL hp hs ?_
          repeat' ((fail_if_success with_reducible refine nph ?_); first | (with_reducible first | (refine d_seq ?_; intro K hK) | (refine hK _ _ ?_; clear hK K) | (refine SG.p ?_; try intro b)) | ((with_reducible refine SC.p ?_); refine And.intro ?_ ?_) <;> intro hc <;> try simp only [push_cast, Int.reduceEq, Int.reduceLT, Int.reduceLE, Int.reduceNe] at hc | with_reducible refine r_rq (by first | decide | omega) ?_ | ((with_reducible refine SL.p ?_); first | refine ⟨_, rfl, ?_⟩ | refine ⟨_, _, _, rfl, ?_⟩ | (refine ⟨?_, rfl, ?_⟩; focus (simp; done))) | ((with_reducible first | apply i_ldn | apply i_ldnq); exact rfl; exact rfl; exact rfl) | ((try with_reducible refine d_reg ?_); simp only [go_sem, Nat.reduceAdd, Nat.reduceEqDiff, Int.reduceToNat, Nat.reduceMul, Nat.reduceSub]) | clear hK K)
          (with_reducible first | apply i_ret0 | apply i_ret2 | apply i_ret3 | apply i_ret); exact rfl
          rw [if_pos hu, hB]
      · rw [if_neg hbad] at hb
        have R := f90 ⟨rb, v, 6, 0⟩ (n : Int) (by dsimp only; omega) (by dsimp only; omega)
        rw [raw_go rb v 6 n (by omega)] at R
        have hul : ((v.drop 6).take n).length = n := by rw [List.length_take, List.length_drop]; omega
        generalize (v.drop 6).take n = u at *
        repeat' ((fail_if_success with_reducible refine nph ?_); first | (with_reducible first | (refine d_seq ?_; intro K hK) | (refine hK _ _ ?_; clear hK K) | (refine SG.p ?_; try intro b)) | ((with_reducible refine SC.p ?_); refine And.intro ?_ ?_) <;> intro hc <;> try simp only [push_cast, Int.reduceEq, Int.reduceLT, Int.reduceLE, Int.reduceNe] at hc | with_reducible refine r_rq (by first | decide | omega) ?_ | ((with_reducible refine SL.p ?_); first | refine ⟨_, rfl, ?_⟩ | refine ⟨_, _, _, rfl, ?_⟩ | (refine ⟨?_, rfl, ?_⟩; focus (simp; done))) | ((with_reducible first | apply i_ldn | apply i_ldnq); exact rfl; exact rfl; exact rfl) | ((try with_reducible refine d_reg ?_); simp only [go_sem, Nat.reduceAdd, Nat.reduceEqDiff, Int.reduceToNat, Nat.reduceMul, Nat.reduceSub]) | clear hK K)
        all_goals try (exfalso; omega)
        refine i_clq R ?_
        refine E.sub (L' := bld b 144 5 p (sp, sn, sc) (cb t) ++ [lgp G Z.sb, dk Z, ex h0]) SX.p ?_
        refine r_ws (t := u) hL hp hs (by omega) fun s' hs' => ?_
        by_cases h58 : n < 58
        · rw [if_pos h58, List.append_nil] at hb
          subst hb
          repeat' ((fail_if_success with_reducible refine nph ?_); first | (with_reducible first | (refine d_seq ?_; intro K hK) | (refine hK _ _ ?_; clear hK K) | (refine SG.p ?_; try intro b)) | ((with_reducible refine SC.p ?_); refine And.intro ?_ ?_) <;> intro hc <;> try simp only [push_cast, Int.reduceEq, Int.reduceLT, Int.reduceLE, Int.reduceNe] at hc | with_reducible refine r_rq (by first | decide | omega) ?_ | ((with_reducible refine SL.p ?_); first | refine ⟨_, rfl, ?_⟩ | refine ⟨_, _, _, rfl, ?_⟩ | (refine ⟨?_, rfl, ?_⟩; focus (simp; done))) | ((with_reducible first | apply i_ldn | apply i_ldnq); exact rfl; exact rfl; exact rfl) | ((try with_reducible refine d_reg ?_); simp only [go_sem, Nat.reduceAdd, Nat.reduceEqDiff, Int.reduceToNat, Nat.reduceMul, Nat.reduceSub]) | clear hK K)
          all_goals try (exfalso; omega)
          refine E.sub (L' := bld b 144 5 (some ⟨b, 0, none⟩) s' (cb (t ++ u)) ++ [lgp G Z.sb, dk Z, ex h0]) SX.p ?_
          refine r_bs' hL (.inr rfl) hs' ?_
          repeat' ((fail_if_success with_reducible refine nph ?_); first | (with_reducible first | (refine d_seq ?_; intro K hK) | (refine hK _ _ ?_; clear hK K) | (refine SG.p ?_; try intro b)) | ((with_reducible refine SC.p ?_); refine And.intro ?_ ?_) <;> intro hc <;> try simp only [push_cast, Int.reduceEq, Int.reduceLT, Int.reduceLE, Int.reduceNe] at hc | with_reducible refine r_rq (by first | decide | omega) ?_ | ((with_reducible refine SL.p ?_); first | refine ⟨_, rfl, ?_⟩ | refine ⟨_, _, _, rfl, ?_⟩ | (refine ⟨?_, rfl, ?_⟩; focus (simp; done))) | ((with_reducible first | apply i_ldn | apply i_ldnq); exact rfl; exact rfl; exact rfl) | ((try with_reducible refine d_reg ?_); simp only [go_sem, Nat.reduceAdd, Nat.reduceEqDiff, Int.reduceToNat, Nat.reduceMul, Nat.reduceSub]) | clear hK K)
          (with_reducible first | apply i_ret0 | apply i_ret2 | apply i_ret3 | apply i_ret); exact rfl
          rw [if_pos hu, hB]
        · rw [if_neg h58] at hb
          repeat' ((fail_if_success with_reducible refine nph ?_); first | (with_reducible first | (refine d_seq ?_; intro K hK) | (refine hK _ _ ?_; clear hK K) | (refine SG.p ?_; try intro b)) | ((with_reducible refine SC.p ?_); refine And.intro ?_ ?_) <;> intro hc <;> try simp only [push_cast, Int.reduceEq, Int.reduceLT, Int.reduceLE, Int.reduceNe] at hc | with_reducible refine r_rq (by first | decide | omega) ?_ | ((with_reducible refine SL.p ?_); first | refine ⟨_, rfl, ?_⟩ | refine ⟨_, _, _, rfl, ?_⟩ | (refine ⟨?_, rfl, ?_⟩; focus (simp; done))) | ((with_reducible first | apply i_ldn | apply i_ldnq); exact rfl; exact rfl; exact rfl) | ((try with_reducible refine d_reg ?_); simp only [go_sem, Nat.reduceAdd, Nat.reduceEqDiff, Int.reduceToNat, Nat.reduceMul, Nat.reduceSub]) | clear hK K)
          all_goals try (exfalso; omega)
          rw [w64 (by omega) (by omega)]
          exact i_bk (i + 1, at', t ++ u, some ⟨b, 0, none⟩, s') rfl ⟨by dsimp only; omega, by dsimp only; rw [show G.sectors - (i + 1) = k by omega, List.append_assoc]; exact hb, .inr rfl, hs', by dsimp only; rw [List.length_append]; omega⟩ (by dsimp only; omega)
    · obtain rfl : i = G.sectors := by omega
      rw [Nat.sub_self, show Z.scn G.base G.run 0 G.sectors r = [] from rfl, List.append_nil] at hb
      subst hb
      refine E.sub (L' := bld b 144 5 p (sp, sn, sc) (cb t) ++ [lgp G Z.sb, dk Z, ex h0]) SX.p ?_
      refine r_bs' hL hp hs ?_
      repeat' ((fail_if_success with_reducible refine nph ?_); first | (with_reducible first | (refine d_seq ?_; intro K hK) | (refine hK _ _ ?_; clear hK K) | (refine SG.p ?_; try intro b)) | ((with_reducible refine SC.p ?_); refine And.intro ?_ ?_) <;> intro hc <;> try simp only [push_cast, Int.reduceEq, Int.reduceLT, Int.reduceLE, Int.reduceNe] at hc | with_reducible refine r_rq (by first | decide | omega) ?_ | ((with_reducible refine SL.p ?_); first | refine ⟨_, rfl, ?_⟩ | refine ⟨_, _, _, rfl, ?_⟩ | (refine ⟨?_, rfl, ?_⟩; focus (simp; done))) | ((with_reducible first | apply i_ldn | apply i_ldnq); exact rfl; exact rfl; exact rfl) | ((try with_reducible refine d_reg ?_); simp only [go_sem, Nat.reduceAdd, Nat.reduceEqDiff, Int.reduceToNat, Nat.reduceMul, Nat.reduceSub]) | clear hK K)
      (with_reducible first | apply i_ret0 | apply i_ret2 | apply i_ret3 | apply i_ret); exact rfl
      rw [if_pos hu, hB]
end Go.Sp
/- The log: mend, Flush, Need. -/
namespace Go.Sp
open Go Go.Proofs
set_option linter.unusedSimpArgs false
set_option linter.unusedVariables false
set_option maxRecDepth 10000
abbrev Lr := Int × Dk × Lg
def Dk.lmend (Z : Dk) (G : Lg) : Lr :=
  if (Z.lw G (G.durable / 58)).1 = 0 then ((Z.lw G (G.durable / 58)).2.sync.1, (Z.lw G (G.durable / 58)).2.sync.2, G.down (Z.lw G (G.durable / 58)).2.sync.1)
  else ((Z.lw G (G.durable / 58)).1, (Z.lw G (G.durable / 58)).2, G.down (Z.lw G (G.durable / 58)).1)
theorem down_0 (G : Lg) : G.down 0 = G := if_pos rfl
theorem g70 (G : Lg) (Z : Dk) (h : Z.ok) (hG : G.ok Z.sure.length) : Fq eI Tryz.prog 70 #[G.p] [lgp G Z.sb, dk Z] [lgp (Z.lmend G).2.2 Z.sb, dk (Z.lmend G).2.1] (Z.lmend G).1 := fun L => by
  have hdu := hG.du
  have hle := hG.le
  have hfit := hG.fit
  have hn1 := hG.n1
  have F := g77 G Z h hG (G.durable / 58) (by omega)
  obtain ⟨o1, o2, o3⟩ := Dk.lw_ok h G (G.durable / 58)
  have S := F28 _ o1
  simp only [Dk.p, o2] at S
  have e1 : IntKind.wrap .i64 ((G.durable : Int).tdiv 58) = ((G.durable / 58 : Nat) : Int) := by rw [td (by omega), w64 (by omega) (by omega)]; omega
  unfold Dk.lmend
  generalize Z.lw G (G.durable / 58) = T at *
  obtain ⟨e, Y⟩ := T
  dsimp only at F S ⊢
  refine c70_fn rfl rfl ?_
  by_cases he : e = 0
  · subst he
    rw [if_pos rfl]
    repeat' ((fail_if_success with_reducible refine nph ?_); first | (with_reducible first | (refine d_seq ?_; intro K hK) | (refine hK _ _ ?_; clear hK K) | (refine SG.p ?_; try intro b)) | ((with_reducible refine SC.p ?_); refine And.intro ?_ ?_) <;> intro hc <;> try simp only [push_cast, Int.reduceEq, Int.reduceLT, Int.reduceLE, Int.reduceNe] at hc | with_reducible refine r_rq (by first | decide | omega) ?_ | ((with_reducible refine SL.p ?_); first | refine ⟨_, rfl, ?_⟩ | refine ⟨_, _, _, rfl, ?_⟩ | (refine ⟨?_, rfl, ?_⟩; focus (simp; done))) | ((with_reducible first | apply i_ldn | apply i_ldnq); exact rfl; exact rfl; exact rfl) | ((try with_reducible refine d_reg ?_); simp only [go_sem, Nat.reduceAdd, Nat.reduceEqDiff, Int.reduceToNat, Nat.reduceMul, Nat.reduceSub]) | clear hK K)
    rw [e1]
    refine i_clq F ?_
    repeat' ((fail_if_success with_reducible refine nph ?_); first | (with_reducible first | (refine d_seq ?_; intro K hK) | (refine hK _ _ ?_; clear hK K) | (refine SG.p ?_; try intro b)) | ((with_reducible refine SC.p ?_); refine And.intro ?_ ?_) <;> intro hc <;> try simp only [push_cast, Int.reduceEq, Int.reduceLT, Int.reduceLE, Int.reduceNe] at hc | with_reducible refine r_rq (by first | decide | omega) ?_ | ((with_reducible refine SL.p ?_); first | refine ⟨_, rfl, ?_⟩ | refine ⟨_, _, _, rfl, ?_⟩ | (refine ⟨?_, rfl, ?_⟩; focus (simp; done))) | ((with_reducible first | apply i_ldn | apply i_ldnq); exact rfl; exact rfl; exact rfl) | ((try with_reducible refine d_reg ?_); simp only [go_sem, Nat.reduceAdd, Nat.reduceEqDiff, Int.reduceToNat, Nat.reduceMul, Nat.reduceSub]) | clear hK K)
    all_goals try (first | contradiction | (simp only [ reduceCtorEq] at *; done) | (exfalso; omega))
    refine i_clq S ?_
    refine i_clq (g78 G Z.sb _) ?_
    repeat' ((fail_if_success with_reducible refine nph ?_); first | (with_reducible first | (refine d_seq ?_; intro K hK) | (refine hK _ _ ?_; clear hK K) | (refine SG.p ?_; try intro b)) | ((with_reducible refine SC.p ?_); refine And.intro ?_ ?_) <;> intro hc <;> try simp only [push_cast, Int.reduceEq, Int.reduceLT, Int.reduceLE, Int.reduceNe] at hc | with_reducible refine r_rq (by first | decide | omega) ?_ | ((with_reducible refine SL.p ?_); first | refine ⟨_, rfl, ?_⟩ | refine ⟨_, _, _, rfl, ?_⟩ | (refine ⟨?_, rfl, ?_⟩; focus (simp; done))) | ((with_reducible first | apply i_ldn | apply i_ldnq); exact rfl; exact rfl; exact rfl) | ((try with_reducible refine d_reg ?_); simp only [go_sem, Nat.reduceAdd, Nat.reduceEqDiff, Int.reduceToNat, Nat.reduceMul, Nat.reduceSub]) | clear hK K)
    (with_reducible first | apply i_ret0 | apply i_ret2 | apply i_ret3 | apply i_ret); exact rfl
    rfl
  · rw [if_neg he]
    repeat' ((fail_if_success with_reducible refine nph ?_); first | (with_reducible first | (refine d_seq ?_; intro K hK) | (refine hK _ _ ?_; clear hK K) | (refine SG.p ?_; try intro b)) | ((with_reducible refine SC.p ?_); refine And.intro ?_ ?_) <;> intro hc <;> try simp only [push_cast, Int.reduceEq, Int.reduceLT, Int.reduceLE, Int.reduceNe] at hc | with_reducible refine r_rq (by first | decide | omega) ?_ | ((with_reducible refine SL.p ?_); first | refine ⟨_, rfl, ?_⟩ | refine ⟨_, _, _, rfl, ?_⟩ | (refine ⟨?_, rfl, ?_⟩; focus (simp; done))) | ((with_reducible first | apply i_ldn | apply i_ldnq); exact rfl; exact rfl; exact rfl) | ((try with_reducible refine d_reg ?_); simp only [go_sem, Nat.reduceAdd, Nat.reduceEqDiff, Int.reduceToNat, Nat.reduceMul, Nat.reduceSub]) | clear hK K)
    rw [e1]
    refine i_clq F ?_
    repeat' ((fail_if_success with_reducible refine nph ?_); first | (with_reducible first | (refine d_seq ?_; intro K hK) | (refine hK _ _ ?_; clear hK K) | (refine SG.p ?_; try intro b)) | ((with_reducible refine SC.p ?_); refine And.intro ?_ ?_) <;> intro hc <;> try simp only [push_cast, Int.reduceEq, Int.reduceLT, Int.reduceLE, Int.reduceNe] at hc | with_reducible refine r_rq (by first | decide | omega) ?_ | ((with_reducible refine SL.p ?_); first | refine ⟨_, rfl, ?_⟩ | refine ⟨_, _, _, rfl, ?_⟩ | (refine ⟨?_, rfl, ?_⟩; focus (simp; done))) | ((with_reducible first | apply i_ldn | apply i_ldnq); exact rfl; exact rfl; exact rfl) | ((try with_reducible refine d_reg ?_); simp only [go_sem, Nat.reduceAdd, Nat.reduceEqDiff, Int.reduceToNat, Nat.reduceMul, Nat.reduceSub]) | clear hK K)
    all_goals try (first | contradiction | (simp only [ reduceCtorEq] at *; done) | (exfalso; omega))
    refine i_clq (g78 G Z.sb _) ?_
    repeat' ((fail_if_success with_reducible refine nph ?_); first | (with_reducible first | (refine d_seq ?_; intro K hK) | (refine hK _ _ ?_; clear hK K) | (refine SG.p ?_; try intro b)) | ((with_reducible refine SC.p ?_); refine And.intro ?_ ?_) <;> intro hc <;> try simp only [push_cast, Int.reduceEq, Int.reduceLT, Int.reduceLE, Int.reduceNe] at hc | with_reducible refine r_rq (by first | decide | omega) ?_ | ((with_reducible refine SL.p ?_); first | refine ⟨_, rfl, ?_⟩ | refine ⟨_, _, _, rfl, ?_⟩ | (refine ⟨?_, rfl, ?_⟩; focus (simp; done))) | ((with_reducible first | apply i_ldn | apply i_ldnq); exact rfl; exact rfl; exact rfl) | ((try with_reducible refine d_reg ?_); simp only [go_sem, Nat.reduceAdd, Nat.reduceEqDiff, Int.reduceToNat, Nat.reduceMul, Nat.reduceSub]) | clear hK K)
    (with_reducible first | apply i_ret0 | apply i_ret2 | apply i_ret3 | apply i_ret); exact rfl
    rfl
/-- Sectors from one on are written, as far as there is something. -/
def lws (G : Lg) : Nat → Nat → Dk → Int × Dk
  | 0, _, Z => (0, Z)
  | k + 1, i, Z => if 58 * i < G.all.length then (if (Z.lw G i).1 = 0 then lws G k (i + 1) (Z.lw G i).2 else Z.lw G i) else (0, Z)
theorem lws_ok (G : Lg) : ∀ (k i : Nat) {Z : Dk}, Z.ok → (lws G k i Z).2.ok ∧ (lws G k i Z).2.sb = Z.sb ∧ (lws G k i Z).2.sure.length = Z.sure.length
  | 0, _, Z, h => ⟨h, rfl, rfl⟩
  | k + 1, i, Z, h => by
    obtain ⟨a1, a2, a3⟩ := Dk.lw_ok h G i
    unfold lws
    split
    · split
      · obtain ⟨b1, b2, b3⟩ := lws_ok G k (i + 1) a1
        exact ⟨b1, b2.trans a2, b3.trans a3⟩
      · exact ⟨a1, a2, a3⟩
    · exact ⟨h, rfl, rfl⟩
def Dk.lflush (Z : Dk) (G : Lg) : Lr :=
  if G.dead then (9, Z, G) else if G.durable = G.all.length then (0, Z, G) else
  (fun a : Int × Dk => if a.1 = 0 then (if a.2.sync.1 = 0 then (0, a.2.sync.2, { G with durable := G.all.length }) else (a.2.sync.1, a.2.sync.2, G.down a.2.sync.1)) else (a.1, a.2, G.down a.1)) (lws G (G.sectors + 1) (G.durable / 58) Z)
set_option maxHeartbeats 1000000 in
theorem g21 (G : Lg) (Z : Dk) (h : Z.ok) (hG : G.ok Z.sure.length) : Fq eI Tryz.prog 21 #[G.p] [lgp G Z.sb, dk Z] [lgp (Z.lflush G).2.2 Z.sb, dk (Z.lflush G).2.1] (Z.lflush G).1 := fun L => by
  have hdu := hG.du
  have hle := hG.le
  have hfit := hG.fit
  have hn1 := hG.n1
  have O := g75 G Z.sb
  unfold Lg.off at O
  unfold Dk.lflush
  refine c21_fn rfl rfl ?_
  by_cases hd : G.dead = true
  · rw [if_pos hd] at O
    rw [if_pos hd]
    repeat' ((fail_if_success with_reducible refine nph ?_); first | (with_reducible first | (refine d_seq ?_; intro K hK) | (refine hK _ _ ?_; clear hK K) | (refine SG.p ?_; try intro b)) | ((with_reducible refine SC.p ?_); refine And.intro ?_ ?_) <;> intro hc <;> try simp only [push_cast, Int.reduceEq, Int.reduceLT, Int.reduceLE, Int.reduceNe] at hc | with_reducible refine r_rq (by first | decide | omega) ?_ | ((with_reducible refine SL.p ?_); first | refine ⟨_, rfl, ?_⟩ | refine ⟨_, _, _, rfl, ?_⟩ | (refine ⟨?_, rfl, ?_⟩; focus (simp; done))) | ((with_reducible first | apply i_ldn | apply i_ldnq); exact rfl; exact rfl; exact rfl) | ((try with_reducible refine d_reg ?_); simp only [go_sem, Nat.reduceAdd, Nat.reduceEqDiff, Int.reduceToNat, Nat.reduceMul, Nat.reduceSub]) | clear hK K)
    refine i_clp O ?_
    repeat' ((fail_if_success with_reducible refine nph ?_); first | (with_reducible first | (refine d_seq ?_; intro K hK) | (refine hK _ _ ?_; clear hK K) | (refine SG.p ?_; try intro b)) | ((with_reducible refine SC.p ?_); refine And.intro ?_ ?_) <;> intro hc <;> try simp only [push_cast, Int.reduceEq, Int.reduceLT, Int.reduceLE, Int.reduceNe] at hc | with_reducible refine r_rq (by first | decide | omega) ?_ | ((with_reducible refine SL.p ?_); first | refine ⟨_, rfl, ?_⟩ | refine ⟨_, _, _, rfl, ?_⟩ | (refine ⟨?_, rfl, ?_⟩; focus (simp; done))) | ((with_reducible first | apply i_ldn | apply i_ldnq); exact rfl; exact rfl; exact rfl) | ((try with_reducible refine d_reg ?_); simp only [go_sem, Nat.reduceAdd, Nat.reduceEqDiff, Int.reduceToNat, Nat.reduceMul, Nat.reduceSub]) | clear hK K)
    all_goals try (first | contradiction | (simp only [ reduceCtorEq] at *; done) | (exfalso; omega))
    (with_reducible first | apply i_ret0 | apply i_ret2 | apply i_ret3 | apply i_ret); exact rfl
    rfl
  · rw [if_neg hd] at O
    rw [if_neg hd]
    by_cases hq : G.durable = G.all.length
    · rw [if_pos hq]
      repeat' ((fail_if_success with_reducible refine nph ?_); first | (with_reducible first | (refine d_seq ?_; intro K hK) | (refine hK _ _ ?_; clear hK K) | (refine SG.p ?_; try intro b)) | ((with_reducible refine SC.p ?_); refine And.intro ?_ ?_) <;> intro hc <;> try simp only [push_cast, Int.reduceEq, Int.reduceLT, Int.reduceLE, Int.reduceNe] at hc | with_reducible refine r_rq (by first | decide | omega) ?_ | ((with_reducible refine SL.p ?_); first | refine ⟨_, rfl, ?_⟩ | refine ⟨_, _, _, rfl, ?_⟩ | (refine ⟨?_, rfl, ?_⟩; focus (simp; done))) | ((with_reducible first | apply i_ldn | apply i_ldnq); exact rfl; exact rfl; exact rfl) | ((try with_reducible refine d_reg ?_); simp only [go_sem, Nat.reduceAdd, Nat.reduceEqDiff, Int.reduceToNat, Nat.reduceMul, Nat.reduceSub]) | clear hK K)
      refine i_clp O ?_
      repeat' ((fail_if_success with_reducible refine nph ?_); first | (with_reducible first | (refine d_seq ?_; intro K hK) | (refine hK _ _ ?_; clear hK K) | (refine SG.p ?_; try intro b)) | ((with_reducible refine SC.p ?_); refine And.intro ?_ ?_) <;> intro hc <;> try simp only [push_cast, Int.reduceEq, Int.reduceLT, Int.reduceLE, Int.reduceNe] at hc | with_reducible refine r_rq (by first | decide | omega) ?_ | ((with_reducible refine SL.p ?_); first | refine ⟨_, rfl, ?_⟩ | refine ⟨_, _, _, rfl, ?_⟩ | (refine ⟨?_, rfl, ?_⟩; focus (simp; done))) | ((with_reducible first | apply i_ldn | apply i_ldnq); exact rfl; exact rfl; exact rfl) | ((try with_reducible refine d_reg ?_); simp only [go_sem, Nat.reduceAdd, Nat.reduceEqDiff, Int.reduceToNat, Nat.reduceMul, Nat.reduceSub]) | clear hK K)
      all_goals try (first | contradiction | (simp only [ reduceCtorEq] at *; done) | (exfalso; omega))
      refine r_ph0 ?_
      repeat' ((fail_if_success with_reducible refine nph ?_); first | (with_reducible first | (refine d_seq ?_; intro K hK) | (refine hK _ _ ?_; clear hK K) | (refine SG.p ?_; try intro b)) | ((with_reducible refine SC.p ?_); refine And.intro ?_ ?_) <;> intro hc <;> try simp only [push_cast, Int.reduceEq, Int.reduceLT, Int.reduceLE, Int.reduceNe] at hc | with_reducible refine r_rq (by first | decide | omega) ?_ | ((with_reducible refine SL.p ?_); first | refine ⟨_, rfl, ?_⟩ | refine ⟨_, _, _, rfl, ?_⟩ | (refine ⟨?_, rfl, ?_⟩; focus (simp; done))) | ((with_reducible first | apply i_ldn | apply i_ldnq); exact rfl; exact rfl; exact rfl) | ((try with_reducible refine d_reg ?_); simp only [go_sem, Nat.reduceAdd, Nat.reduceEqDiff, Int.reduceToNat, Nat.reduceMul, Nat.reduceSub]) | clear hK K)
      all_goals try (exfalso; omega)
      (with_reducible first | apply i_ret0 | apply i_ret2 | apply i_ret3 | apply i_ret); exact rfl
      rfl
    · rw [if_neg hq]
      generalize hA : lws G (G.sectors + 1) (G.durable / 58) Z = A
      dsimp only
      generalize hRes : (if A.1 = 0 then (if A.2.sync.1 = 0 then ((0 : Int), A.2.sync.2, ({ G with durable := G.all.length } : Lg)) else (A.2.sync.1, A.2.sync.2, G.down A.2.sync.1)) else (A.1, A.2, G.down A.1)) = Res
      have e1 : IntKind.wrap .i64 ((G.durable : Int).tdiv 58) = ((G.durable / 58 : Nat) : Int) := by rw [td (by omega), w64 (by omega) (by omega)]; omega
      repeat' ((fail_if_success with_reducible refine nph ?_); first | (with_reducible first | (refine d_seq ?_; intro K hK) | (refine hK _ _ ?_; clear hK K) | (refine SG.p ?_; try intro b)) | ((with_reducible refine SC.p ?_); refine And.intro ?_ ?_) <;> intro hc <;> try simp only [push_cast, Int.reduceEq, Int.reduceLT, Int.reduceLE, Int.reduceNe] at hc | with_reducible refine r_rq (by first | decide | omega) ?_ | ((with_reducible refine SL.p ?_); first | refine ⟨_, rfl, ?_⟩ | refine ⟨_, _, _, rfl, ?_⟩ | (refine ⟨?_, rfl, ?_⟩; focus (simp; done))) | ((with_reducible first | apply i_ldn | apply i_ldnq); exact rfl; exact rfl; exact rfl) | ((try with_reducible refine d_reg ?_); simp only [go_sem, Nat.reduceAdd, Nat.reduceEqDiff, Int.reduceToNat, Nat.reduceMul, Nat.reduceSub]) | clear hK K)
      refine i_clp O ?_
      repeat' ((fail_if_success with_reducible refine nph ?_); first | (with_reducible first | (refine d_seq ?_; intro K hK) | (refine hK _ _ ?_; clear hK K) | (refine SG.p ?_; try intro b)) | ((with_reducible refine SC.p ?_); refine And.intro ?_ ?_) <;> intro hc <;> try simp only [push_cast, Int.reduceEq, Int.reduceLT, Int.reduceLE, Int.reduceNe] at hc | with_reducible refine r_rq (by first | decide | omega) ?_ | ((with_reducible refine SL.p ?_); first | refine ⟨_, rfl, ?_⟩ | refine ⟨_, _, _, rfl, ?_⟩ | (refine ⟨?_, rfl, ?_⟩; focus (simp; done))) | ((with_reducible first | apply i_ldn | apply i_ldnq); exact rfl; exact rfl; exact rfl) | ((try with_reducible refine d_reg ?_); simp only [go_sem, Nat.reduceAdd, Nat.reduceEqDiff, Int.reduceToNat, Nat.reduceMul, Nat.reduceSub]) | clear hK K)
      all_goals try (first | contradiction | (simp only [ reduceCtorEq] at *; done) | (exfalso; omega))
      refine r_ph0 ?_
      repeat' ((fail_if_success with_reducible refine nph ?_); first | (with_reducible first | (refine d_seq ?_; intro K hK) | (refine hK _ _ ?_; clear hK K) | (refine SG.p ?_; try intro b)) | ((with_reducible refine SC.p ?_); refine And.intro ?_ ?_) <;> intro hc <;> try simp only [push_cast, Int.reduceEq, Int.reduceLT, Int.reduceLE, Int.reduceNe] at hc | with_reducible refine r_rq (by first | decide | omega) ?_ | ((with_reducible refine SL.p ?_); first | refine ⟨_, rfl, ?_⟩ | refine ⟨_, _, _, rfl, ?_⟩ | (refine ⟨?_, rfl, ?_⟩; focus (simp; done))) | ((with_reducible first | apply i_ldn | apply i_ldnq); exact rfl; exact rfl; exact rfl) | ((try with_reducible refine d_reg ?_); simp only [go_sem, Nat.reduceAdd, Nat.reduceEqDiff, Int.reduceToNat, Nat.reduceMul, Nat.reduceSub]) | clear hK K)
      all_goals try (exfalso; omega)
      rw [e1]
      repeat' ((fail_if_success with_reducible refine nph ?_); first | (with_reducible first | (refine d_seq ?_; intro K hK) | (refine hK _ _ ?_; clear hK K) | (refine SG.p ?_; try intro b)) | ((with_reducible refine SC.p ?_); refine And.intro ?_ ?_) <;> intro hc <;> try simp only [push_cast, Int.reduceEq, Int.reduceLT, Int.reduceLE, Int.reduceNe] at hc | with_reducible refine r_rq (by first | decide | omega) ?_ | ((with_reducible refine SL.p ?_); first | refine ⟨_, rfl, ?_⟩ | refine ⟨_, _, _, rfl, ?_⟩ | (refine ⟨?_, rfl, ?_⟩; focus (simp; done))) | ((with_reducible first | apply i_ldn | apply i_ldnq); exact rfl; exact rfl; exact rfl) | ((try with_reducible refine d_reg ?_); simp only [go_sem, Nat.reduceAdd, Nat.reduceEqDiff, Int.reduceToNat, Nat.reduceMul, Nat.reduceSub]) | clear hK K)
      refine d_lp [0, 4] (fun t : Nat × Nat × Dk => [(0, .pointer (some ⟨G.q, 0, none⟩)), (4, .int .i64 (t.2.1 : Int))])
        (fun t => lgp G Z.sb :: dk t.2.2 :: L) (fun t => t.2.2.ok ∧ t.2.2.sb = Z.sb ∧ t.2.2.sure.length = Z.sure.length ∧ lws G t.1 t.2.1 t.2.2 = A ∧ G.sectors + 1 ≤ t.1 + t.2.1 ∧ t.2.1 ≤ 8192) (fun t => t.1)
        (G.sectors + 1, G.durable / 58, Z) rfl SX.p ⟨h, rfl, rfl, hA, by dsimp only; omega, by dsimp only; omega⟩ ?_
      rintro ⟨k, i, Y⟩ ⟨y1, y2, y3, y4, y5, y6⟩
      dsimp only at y1 y2 y3 y4 y5 y6 ⊢
      have e2 : IntKind.wrap .i64 ((i : Int) * 58) = (i : Int) * 58 := w64 (by omega) (by omega)
      repeat' (first | rw [e2] | (fail_if_success with_reducible refine nph ?_); first | (with_reducible first | (refine d_seq ?_; intro K hK) | (refine hK _ _ ?_; clear hK K) | (refine SG.p ?_; try intro b)) | ((with_reducible refine SC.p ?_); refine And.intro ?_ ?_) <;> intro hc <;> try simp only [push_cast, Int.reduceEq, Int.reduceLT, Int.reduceLE, Int.reduceNe] at hc | with_reducible refine r_rq (by first | decide | omega) ?_ | ((with_reducible refine SL.p ?_); first | refine ⟨_, rfl, ?_⟩ | refine ⟨_, _, _, rfl, ?_⟩ | (refine ⟨?_, rfl, ?_⟩; focus (simp; done))) | ((with_reducible first | apply i_ldn | apply i_ldnq); exact rfl; exact rfl; exact rfl) | ((try with_reducible refine d_reg ?_); simp only [go_sem, Nat.reduceAdd, Nat.reduceEqDiff, Int.reduceToNat, Nat.reduceMul, Nat.reduceSub]) | clear hK K)
      · obtain ⟨k', rfl⟩ : ∃ k', k = k' + 1 := ⟨k - 1, by omega⟩
        have W := g77 G Y y1 (by rw [y3]; exact hG) i y6
        rw [y2] at W
        obtain ⟨z1, z2, z3⟩ := Dk.lw_ok y1 G i
        rw [show lws G (k' + 1) i Y = if 58 * i < G.all.length then (if (Y.lw G i).1 = 0 then lws G k' (i + 1) (Y.lw G i).2 else Y.lw G i) else (0, Y) from rfl, if_pos (by omega)] at y4
        generalize Y.lw G i = T at *
        obtain ⟨e, V⟩ := T
        dsimp only at W y4 z1 z2 z3
        by_cases he : e = 0
        · subst he
          rw [if_pos rfl] at y4
          refine i_clq W ?_
          repeat' ((fail_if_success with_reducible refine nph ?_); first | (with_reducible first | (refine d_seq ?_; intro K hK) | (refine hK _ _ ?_; clear hK K) | (refine SG.p ?_; try intro b)) | ((with_reducible refine SC.p ?_); refine And.intro ?_ ?_) <;> intro hc <;> try simp only [push_cast, Int.reduceEq, Int.reduceLT, Int.reduceLE, Int.reduceNe] at hc | with_reducible refine r_rq (by first | decide | omega) ?_ | ((with_reducible refine SL.p ?_); first | refine ⟨_, rfl, ?_⟩ | refine ⟨_, _, _, rfl, ?_⟩ | (refine ⟨?_, rfl, ?_⟩; focus (simp; done))) | ((with_reducible first | apply i_ldn | apply i_ldnq); exact rfl; exact rfl; exact rfl) | ((try with_reducible refine d_reg ?_); simp only [go_sem, Nat.reduceAdd, Nat.reduceEqDiff, Int.reduceToNat, Nat.reduceMul, Nat.reduceSub]) | clear hK K)
          all_goals try (first | contradiction | (simp only [ reduceCtorEq] at *; done) | (exfalso; omega))
          rw [w64 (by omega) (by omega)]
          exact i_bk (k', i + 1, V) rfl ⟨z1, z2.trans y2, z3.trans y3, y4, by dsimp only; omega, by dsimp only; omega⟩ (by dsimp only; omega)
        · rw [if_neg he] at y4
          subst y4
          dsimp only at hRes
          rw [if_neg he] at hRes
          subst hRes
          refine i_clq W ?_
          repeat' ((fail_if_success with_reducible refine nph ?_); first | (with_reducible first | (refine d_seq ?_; intro K hK) | (refine hK _ _ ?_; clear hK K) | (refine SG.p ?_; try intro b)) | ((with_reducible refine SC.p ?_); refine And.intro ?_ ?_) <;> intro hc <;> try simp only [push_cast, Int.reduceEq, Int.reduceLT, Int.reduceLE, Int.reduceNe] at hc | with_reducible refine r_rq (by first | decide | omega) ?_ | ((with_reducible refine SL.p ?_); first | refine ⟨_, rfl, ?_⟩ | refine ⟨_, _, _, rfl, ?_⟩ | (refine ⟨?_, rfl, ?_⟩; focus (simp; done))) | ((with_reducible first | apply i_ldn | apply i_ldnq); exact rfl; exact rfl; exact rfl) | ((try with_reducible refine d_reg ?_); simp only [go_sem, Nat.reduceAdd, Nat.reduceEqDiff, Int.reduceToNat, Nat.reduceMul, Nat.reduceSub]) | clear hK K)
          all_goals try (first | contradiction | (simp only [ reduceCtorEq] at *; done) | (exfalso; omega))
          refine i_clq (g78 G Z.sb e) ?_
          repeat' ((fail_if_success with_reducible refine nph ?_); first | (with_reducible first | (refine d_seq ?_; intro K hK) | (refine hK _ _ ?_; clear hK K) | (refine SG.p ?_; try intro b)) | ((with_reducible refine SC.p ?_); refine And.intro ?_ ?_) <;> intro hc <;> try simp only [push_cast, Int.reduceEq, Int.reduceLT, Int.reduceLE, Int.reduceNe] at hc | with_reducible refine r_rq (by first | decide | omega) ?_ | ((with_reducible refine SL.p ?_); first | refine ⟨_, rfl, ?_⟩ | refine ⟨_, _, _, rfl, ?_⟩ | (refine ⟨?_, rfl, ?_⟩; focus (simp; done))) | ((with_reducible first | apply i_ldn | apply i_ldnq); exact rfl; exact rfl; exact rfl) | ((try with_reducible refine d_reg ?_); simp only [go_sem, Nat.reduceAdd, Nat.reduceEqDiff, Int.reduceToNat, Nat.reduceMul, Nat.reduceSub]) | clear hK K)
          (with_reducible first | apply i_ret0 | apply i_ret2 | apply i_ret3 | apply i_ret); exact rfl
          rfl
      · have hA2 : A = (0, Y) := by
          rw [← y4]
          cases k with
          | zero => rfl
          | succ k => unfold lws; rw [if_neg (by omega)]
        subst hA2
        have S := F28 Y y1
        simp only [Dk.p, y2] at S
        dsimp only at hRes
        rw [if_pos rfl] at hRes
        generalize Y.sync = T at *
        obtain ⟨e, V⟩ := T
        dsimp only at S hRes
        by_cases he : e = 0
        · subst he
          rw [if_pos rfl] at hRes
          subst hRes
          repeat' ((fail_if_success with_reducible refine nph ?_); first | (with_reducible first | (refine d_seq ?_; intro K hK) | (refine hK _ _ ?_; clear hK K) | (refine SG.p ?_; try intro b)) | ((with_reducible refine SC.p ?_); refine And.intro ?_ ?_) <;> intro hc <;> try simp only [push_cast, Int.reduceEq, Int.reduceLT, Int.reduceLE, Int.reduceNe] at hc | with_reducible refine r_rq (by first | decide | omega) ?_ | ((with_reducible refine SL.p ?_); first | refine ⟨_, rfl, ?_⟩ | refine ⟨_, _, _, rfl, ?_⟩ | (refine ⟨?_, rfl, ?_⟩; focus (simp; done))) | ((with_reducible first | apply i_ldn | apply i_ldnq); exact rfl; exact rfl; exact rfl) | ((try with_reducible refine d_reg ?_); simp only [go_sem, Nat.reduceAdd, Nat.reduceEqDiff, Int.reduceToNat, Nat.reduceMul, Nat.reduceSub]) | clear hK K)
          refine i_clq S ?_
          repeat' ((fail_if_success with_reducible refine nph ?_); first | (with_reducible first | (refine d_seq ?_; intro K hK) | (refine hK _ _ ?_; clear hK K) | (refine SG.p ?_; try intro b)) | ((with_reducible refine SC.p ?_); refine And.intro ?_ ?_) <;> intro hc <;> try simp only [push_cast, Int.reduceEq, Int.reduceLT, Int.reduceLE, Int.reduceNe] at hc | with_reducible refine r_rq (by first | decide | omega) ?_ | ((with_reducible refine SL.p ?_); first | refine ⟨_, rfl, ?_⟩ | refine ⟨_, _, _, rfl, ?_⟩ | (refine ⟨?_, rfl, ?_⟩; focus (simp; done))) | ((with_reducible first | apply i_ldn | apply i_ldnq); exact rfl; exact rfl; exact rfl) | ((try with_reducible refine d_reg ?_); simp only [go_sem, Nat.reduceAdd, Nat.reduceEqDiff, Int.reduceToNat, Nat.reduceMul, Nat.reduceSub]) | clear hK K)
          all_goals try (first | contradiction | (simp only [ reduceCtorEq] at *; done) | (exfalso; omega))
          (with_reducible first | apply i_ret0 | apply i_ret2 | apply i_ret3 | apply i_ret); exact rfl
          rfl
        · rw [if_neg he] at hRes
          subst hRes
          repeat' ((fail_if_success with_reducible refine nph ?_); first | (with_reducible first | (refine d_seq ?_; intro K hK) | (refine hK _ _ ?_; clear hK K) | (refine SG.p ?_; try intro b)) | ((with_reducible refine SC.p ?_); refine And.intro ?_ ?_) <;> intro hc <;> try simp only [push_cast, Int.reduceEq, Int.reduceLT, Int.reduceLE, Int.reduceNe] at hc | with_reducible refine r_rq (by first | decide | omega) ?_ | ((with_reducible refine SL.p ?_); first | refine ⟨_, rfl, ?_⟩ | refine ⟨_, _, _, rfl, ?_⟩ | (refine ⟨?_, rfl, ?_⟩; focus (simp; done))) | ((with_reducible first | apply i_ldn | apply i_ldnq); exact rfl; exact rfl; exact rfl) | ((try with_reducible refine d_reg ?_); simp only [go_sem, Nat.reduceAdd, Nat.reduceEqDiff, Int.reduceToNat, Nat.reduceMul, Nat.reduceSub]) | clear hK K)
          refine i_clq S ?_
          repeat' ((fail_if_success with_reducible refine nph ?_); first | (with_reducible first | (refine d_seq ?_; intro K hK) | (refine hK _ _ ?_; clear hK K) | (refine SG.p ?_; try intro b)) | ((with_reducible refine SC.p ?_); refine And.intro ?_ ?_) <;> intro hc <;> try simp only [push_cast, Int.reduceEq, Int.reduceLT, Int.reduceLE, Int.reduceNe] at hc | with_reducible refine r_rq (by first | decide | omega) ?_ | ((with_reducible refine SL.p ?_); first | refine ⟨_, rfl, ?_⟩ | refine ⟨_, _, _, rfl, ?_⟩ | (refine ⟨?_, rfl, ?_⟩; focus (simp; done))) | ((with_reducible first | apply i_ldn | apply i_ldnq); exact rfl; exact rfl; exact rfl) | ((try with_reducible refine d_reg ?_); simp only [go_sem, Nat.reduceAdd, Nat.reduceEqDiff, Int.reduceToNat, Nat.reduceMul, Nat.reduceSub]) | clear hK K)
          all_goals try (first | contradiction | (simp only [ reduceCtorEq] at *; done) | (exfalso; omega))
          refine i_clq (g78 G Z.sb e) ?_
          repeat' ((fail_if_success with_reducible refine nph ?_); first | (with_reducible first | (refine d_seq ?_; intro K hK) | (refine hK _ _ ?_; clear hK K) | (refine SG.p ?_; try intro b)) | ((with_reducible refine SC.p ?_); refine And.intro ?_ ?_) <;> intro hc <;> try simp only [push_cast, Int.reduceEq, Int.reduceLT, Int.reduceLE, Int.reduceNe] at hc | with_reducible refine r_rq (by first | decide | omega) ?_ | ((with_reducible refine SL.p ?_); first | refine ⟨_, rfl, ?_⟩ | refine ⟨_, _, _, rfl, ?_⟩ | (refine ⟨?_, rfl, ?_⟩; focus (simp; done))) | ((with_reducible first | apply i_ldn | apply i_ldnq); exact rfl; exact rfl; exact rfl) | ((try with_reducible refine d_reg ?_); simp only [go_sem, Nat.reduceAdd, Nat.reduceEqDiff, Int.reduceToNat, Nat.reduceMul, Nat.reduceSub]) | clear hK K)
          (with_reducible first | apply i_ret0 | apply i_ret2 | apply i_ret3 | apply i_ret); exact rfl
          rfl
end Go.Sp
/- The log: Append, Need, Open. -/
namespace Go.Sp
open Go Go.Proofs
set_option linter.unusedSimpArgs false
set_option linter.unusedVariables false
set_option maxRecDepth 10000
def Lg.add (G : Lg) (s : List UInt8) : (Int × Int) × Lg := if 58 * G.sectors < G.all.length + s.length then ((0, 7), G) else ((((G.all.length + 1 : Nat) : Int), 0), { G with all := G.all ++ s })
theorem g76 (G : Lg) (sb : Nat) (h : G.all.length ≤ 58 * G.sectors) (h2 : G.sectors ≤ 8192) (s : List UInt8) (hs : s.length ≤ 4611686018427387904) : Fq (eT2 eI eI) Tryz.prog 76 #[G.p, str s] [lgp G sb] [lgp (G.add s).2 sb] (G.add s).1 := fun L => by
  unfold Lg.add
  refine c76_fn rfl rfl ?_
  by_cases hq : 58 * G.sectors < G.all.length + s.length
  · rw [if_pos hq]
    repeat' ((fail_if_success with_reducible refine nph ?_); first | (with_reducible first | (refine d_seq ?_; intro K hK) | (refine hK _ _ ?_; clear hK K) | (refine SG.p ?_; try intro b)) | ((with_reducible refine SC.p ?_); refine And.intro ?_ ?_) <;> intro hc <;> try simp only [push_cast, Int.reduceEq, Int.reduceLT, Int.reduceLE, Int.reduceNe] at hc | with_reducible refine r_rq (by first | decide | omega) ?_ | ((with_reducible refine SL.p ?_); first | refine ⟨_, rfl, ?_⟩ | refine ⟨_, _, _, rfl, ?_⟩ | (refine ⟨?_, rfl, ?_⟩; focus (simp; done))) | ((with_reducible first | apply i_ldn | apply i_ldnq); exact rfl; exact rfl; exact rfl) | ((try with_reducible refine d_reg ?_); simp only [go_sem, Nat.reduceAdd, Nat.reduceEqDiff, Int.reduceToNat, Nat.reduceMul, Nat.reduceSub]) | clear hK K)
    refine i_clp (g30 G sb h h2) ?_
    repeat' ((fail_if_success with_reducible refine nph ?_); first | (with_reducible first | (refine d_seq ?_; intro K hK) | (refine hK _ _ ?_; clear hK K) | (refine SG.p ?_; try intro b)) | ((with_reducible refine SC.p ?_); refine And.intro ?_ ?_) <;> intro hc <;> try simp only [push_cast, Int.reduceEq, Int.reduceLT, Int.reduceLE, Int.reduceNe] at hc | with_reducible refine r_rq (by first | decide | omega) ?_ | ((with_reducible refine SL.p ?_); first | refine ⟨_, rfl, ?_⟩ | refine ⟨_, _, _, rfl, ?_⟩ | (refine ⟨?_, rfl, ?_⟩; focus (simp; done))) | ((with_reducible first | apply i_ldn | apply i_ldnq); exact rfl; exact rfl; exact rfl) | ((try with_reducible refine d_reg ?_); simp only [go_sem, Nat.reduceAdd, Nat.reduceEqDiff, Int.reduceToNat, Nat.reduceMul, Nat.reduceSub]) | clear hK K)
    all_goals try (exfalso; omega)
    (with_reducible first | apply i_ret0 | apply i_ret2 | apply i_ret3 | apply i_ret); exact rfl
    rfl
  · rw [if_neg hq]
    repeat' ((fail_if_success with_reducible refine nph ?_); first | (with_reducible first | (refine d_seq ?_; intro K hK) | (refine hK _ _ ?_; clear hK K) | (refine SG.p ?_; try intro b)) | ((with_reducible refine SC.p ?_); refine And.intro ?_ ?_) <;> intro hc <;> try simp only [push_cast, Int.reduceEq, Int.reduceLT, Int.reduceLE, Int.reduceNe] at hc | with_reducible refine r_rq (by first | decide | omega) ?_ | ((with_reducible refine SL.p ?_); first | refine ⟨_, rfl, ?_⟩ | refine ⟨_, _, _, rfl, ?_⟩ | (refine ⟨?_, rfl, ?_⟩; focus (simp; done))) | ((with_reducible first | apply i_ldn | apply i_ldnq); exact rfl; exact rfl; exact rfl) | ((try with_reducible refine d_reg ?_); simp only [go_sem, Nat.reduceAdd, Nat.reduceEqDiff, Int.reduceToNat, Nat.reduceMul, Nat.reduceSub]) | clear hK K)
    refine i_clp (g30 G sb h h2) ?_
    repeat' ((fail_if_success with_reducible refine nph ?_); first | (with_reducible first | (refine d_seq ?_; intro K hK) | (refine hK _ _ ?_; clear hK K) | (refine SG.p ?_; try intro b)) | ((with_reducible refine SC.p ?_); refine And.intro ?_ ?_) <;> intro hc <;> try simp only [push_cast, Int.reduceEq, Int.reduceLT, Int.reduceLE, Int.reduceNe] at hc | with_reducible refine r_rq (by first | decide | omega) ?_ | ((with_reducible refine SL.p ?_); first | refine ⟨_, rfl, ?_⟩ | refine ⟨_, _, _, rfl, ?_⟩ | (refine ⟨?_, rfl, ?_⟩; focus (simp; done))) | ((with_reducible first | apply i_ldn | apply i_ldnq); exact rfl; exact rfl; exact rfl) | ((try with_reducible refine d_reg ?_); simp only [go_sem, Nat.reduceAdd, Nat.reduceEqDiff, Int.reduceToNat, Nat.reduceMul, Nat.reduceSub]) | clear hK K)
    all_goals try (exfalso; omega)
    refine i_clp (g28 G sb (by omega)) ?_
    repeat' ((fail_if_success with_reducible refine nph ?_); first | (with_reducible first | (refine d_seq ?_; intro K hK) | (refine hK _ _ ?_; clear hK K) | (refine SG.p ?_; try intro b)) | ((with_reducible refine SC.p ?_); refine And.intro ?_ ?_) <;> intro hc <;> try simp only [push_cast, Int.reduceEq, Int.reduceLT, Int.reduceLE, Int.reduceNe] at hc | with_reducible refine r_rq (by first | decide | omega) ?_ | ((with_reducible refine SL.p ?_); first | refine ⟨_, rfl, ?_⟩ | refine ⟨_, _, _, rfl, ?_⟩ | (refine ⟨?_, rfl, ?_⟩; focus (simp; done))) | ((with_reducible first | apply i_ldn | apply i_ldnq); exact rfl; exact rfl; exact rfl) | ((try with_reducible refine d_reg ?_); simp only [go_sem, Nat.reduceAdd, Nat.reduceEqDiff, Int.reduceToNat, Nat.reduceMul, Nat.reduceSub]) | clear hK K)
    (with_reducible first | apply i_ret0 | apply i_ret2 | apply i_ret3 | apply i_ret); exact rfl
    rfl
def Lg.append (G : Lg) (c : Rc) : (Int × Int) × Lg := if G.dead then ((0, 9), G) else if c.frame.2 = 0 then G.add c.frame.1 else ((0, c.frame.2), G)
theorem frame_le (c : Rc) : c.frame.1.length ≤ 4102 := by
  unfold Rc.frame
  have := c.clean.body_le
  split
  · simp only [List.length_append, lowb_len]; omega
  · simp
theorem g20 (G : Lg) (sb : Nat) (h : G.all.length ≤ 58 * G.sectors) (h2 : G.sectors ≤ 8192) (A : HP) (r : api_Rec) (c : Rc) (hr : RcAt A r c) : Fq (eT2 eI eI) Tryz.prog 20 #[G.p, v_api_Rec r] [lgp G sb, A] [lgp (G.append c).2 sb, A] (G.append c).1 := fun L => by
  have O := g75 G sb
  have F := g18 A r c hr
  have hl := frame_le c
  have D := g76 G sb h h2 c.frame.1 (by omega)
  unfold Lg.off at O
  unfold Lg.append
  obtain ⟨k1, k2, k3, k4, k5, k6, k7, k8, k9, k10, k11, k12, k13⟩ := r
  refine c20_fn rfl rfl ?_
  by_cases hd : G.dead = true
  · rw [if_pos hd] at O
    rw [if_pos hd]
    repeat' ((fail_if_success with_reducible refine nph ?_); first | (with_reducible first | (refine d_seq ?_; intro K hK) | (refine hK _ _ ?_; clear hK K) | (refine SG.p ?_; try intro b)) | ((with_reducible refine SC.p ?_); refine And.intro ?_ ?_) <;> intro hc <;> try simp only [push_cast, Int.reduceEq, Int.reduceLT, Int.reduceLE, Int.reduceNe] at hc | with_reducible refine r_rq (by first | decide | omega) ?_ | ((with_reducible refine SL.p ?_); first | refine ⟨_, rfl, ?_⟩ | refine ⟨_, _, _, rfl, ?_⟩ | (refine ⟨?_, rfl, ?_⟩; focus (simp; done))) | ((with_reducible first | apply i_ldn | apply i_ldnq); exact rfl; exact rfl; exact rfl) | ((try with_reducible refine d_reg ?_); simp only [go_sem, Nat.reduceAdd, Nat.reduceEqDiff, Int.reduceToNat, Nat.reduceMul, Nat.reduceSub]) | clear hK K)
    refine i_clp O ?_
    repeat' ((fail_if_success with_reducible refine nph ?_); first | (with_reducible first | (refine d_seq ?_; intro K hK) | (refine hK _ _ ?_; clear hK K) | (refine SG.p ?_; try intro b)) | ((with_reducible refine SC.p ?_); refine And.intro ?_ ?_) <;> intro hc <;> try simp only [push_cast, Int.reduceEq, Int.reduceLT, Int.reduceLE, Int.reduceNe] at hc | with_reducible refine r_rq (by first | decide | omega) ?_ | ((with_reducible refine SL.p ?_); first | refine ⟨_, rfl, ?_⟩ | refine ⟨_, _, _, rfl, ?_⟩ | (refine ⟨?_, rfl, ?_⟩; focus (simp; done))) | ((with_reducible first | apply i_ldn | apply i_ldnq); exact rfl; exact rfl; exact rfl) | ((try with_reducible refine d_reg ?_); simp only [go_sem, Nat.reduceAdd, Nat.reduceEqDiff, Int.reduceToNat, Nat.reduceMul, Nat.reduceSub]) | clear hK K)
    all_goals try (first | contradiction | (simp only [ reduceCtorEq] at *; done) | (exfalso; omega))
    (with_reducible first | apply i_ret0 | apply i_ret2 | apply i_ret3 | apply i_ret); exact rfl
    rfl
  · rw [if_neg hd] at O
    rw [if_neg hd]
    generalize c.frame = f at *
    obtain ⟨t, e⟩ := f
    dsimp only at D ⊢
    by_cases he : e = 0
    · subst he
      rw [if_pos rfl]
      generalize G.add t = T at *
      obtain ⟨⟨y1, y2⟩, V⟩ := T
      repeat' ((fail_if_success with_reducible refine nph ?_); first | (with_reducible first | (refine d_seq ?_; intro K hK) | (refine hK _ _ ?_; clear hK K) | (refine SG.p ?_; try intro b)) | ((with_reducible refine SC.p ?_); refine And.intro ?_ ?_) <;> intro hc <;> try simp only [push_cast, Int.reduceEq, Int.reduceLT, Int.reduceLE, Int.reduceNe] at hc | with_reducible refine r_rq (by first | decide | omega) ?_ | ((with_reducible refine SL.p ?_); first | refine ⟨_, rfl, ?_⟩ | refine ⟨_, _, _, rfl, ?_⟩ | (refine ⟨?_, rfl, ?_⟩; focus (simp; done))) | ((with_reducible first | apply i_ldn | apply i_ldnq); exact rfl; exact rfl; exact rfl) | ((try with_reducible refine d_reg ?_); simp only [go_sem, Nat.reduceAdd, Nat.reduceEqDiff, Int.reduceToNat, Nat.reduceMul, Nat.reduceSub]) | clear hK K)
      refine i_clp O ?_
      repeat' ((fail_if_success with_reducible refine nph ?_); first | (with_reducible first | (refine d_seq ?_; intro K hK) | (refine hK _ _ ?_; clear hK K) | (refine SG.p ?_; try intro b)) | ((with_reducible refine SC.p ?_); refine And.intro ?_ ?_) <;> intro hc <;> try simp only [push_cast, Int.reduceEq, Int.reduceLT, Int.reduceLE, Int.reduceNe] at hc | with_reducible refine r_rq (by first | decide | omega) ?_ | ((with_reducible refine SL.p ?_); first | refine ⟨_, rfl, ?_⟩ | refine ⟨_, _, _, rfl, ?_⟩ | (refine ⟨?_, rfl, ?_⟩; focus (simp; done))) | ((with_reducible first | apply i_ldn | apply i_ldnq); exact rfl; exact rfl; exact rfl) | ((try with_reducible refine d_reg ?_); simp only [go_sem, Nat.reduceAdd, Nat.reduceEqDiff, Int.reduceToNat, Nat.reduceMul, Nat.reduceSub]) | clear hK K)
      all_goals try (first | contradiction | (simp only [ reduceCtorEq] at *; done) | (exfalso; omega))
      refine i_ldn (e := e_api_Rec) (x := ⟨k1, k2, k3, k4, k5, k6, k7, k8, k9, k10, k11, k12, k13⟩) rfl rfl rfl ?_
      refine i_clp F ?_
      repeat' ((fail_if_success with_reducible refine nph ?_); first | (with_reducible first | (refine d_seq ?_; intro K hK) | (refine hK _ _ ?_; clear hK K) | (refine SG.p ?_; try intro b)) | ((with_reducible refine SC.p ?_); refine And.intro ?_ ?_) <;> intro hc <;> try simp only [push_cast, Int.reduceEq, Int.reduceLT, Int.reduceLE, Int.reduceNe] at hc | with_reducible refine r_rq (by first | decide | omega) ?_ | ((with_reducible refine SL.p ?_); first | refine ⟨_, rfl, ?_⟩ | refine ⟨_, _, _, rfl, ?_⟩ | (refine ⟨?_, rfl, ?_⟩; focus (simp; done))) | ((with_reducible first | apply i_ldn | apply i_ldnq); exact rfl; exact rfl; exact rfl) | ((try with_reducible refine d_reg ?_); simp only [go_sem, Nat.reduceAdd, Nat.reduceEqDiff, Int.reduceToNat, Nat.reduceMul, Nat.reduceSub]) | clear hK K)
      all_goals try (first | contradiction | (simp only [ reduceCtorEq] at *; done) | (exfalso; omega))
      refine i_clq D ?_
      repeat' ((fail_if_success with_reducible refine nph ?_); first | (with_reducible first | (refine d_seq ?_; intro K hK) | (refine hK _ _ ?_; clear hK K) | (refine SG.p ?_; try intro b)) | ((with_reducible refine SC.p ?_); refine And.intro ?_ ?_) <;> intro hc <;> try simp only [push_cast, Int.reduceEq, Int.reduceLT, Int.reduceLE, Int.reduceNe] at hc | with_reducible refine r_rq (by first | decide | omega) ?_ | ((with_reducible refine SL.p ?_); first | refine ⟨_, rfl, ?_⟩ | refine ⟨_, _, _, rfl, ?_⟩ | (refine ⟨?_, rfl, ?_⟩; focus (simp; done))) | ((with_reducible first | apply i_ldn | apply i_ldnq); exact rfl; exact rfl; exact rfl) | ((try with_reducible refine d_reg ?_); simp only [go_sem, Nat.reduceAdd, Nat.reduceEqDiff, Int.reduceToNat, Nat.reduceMul, Nat.reduceSub]) | clear hK K)
      (with_reducible first | apply i_ret0 | apply i_ret2 | apply i_ret3 | apply i_ret); exact rfl
      rfl
    · rw [if_neg he]
      repeat' ((fail_if_success with_reducible refine nph ?_); first | (with_reducible first | (refine d_seq ?_; intro K hK) | (refine hK _ _ ?_; clear hK K) | (refine SG.p ?_; try intro b)) | ((with_reducible refine SC.p ?_); refine And.intro ?_ ?_) <;> intro hc <;> try simp only [push_cast, Int.reduceEq, Int.reduceLT, Int.reduceLE, Int.reduceNe] at hc | with_reducible refine r_rq (by first | decide | omega) ?_ | ((with_reducible refine SL.p ?_); first | refine ⟨_, rfl, ?_⟩ | refine ⟨_, _, _, rfl, ?_⟩ | (refine ⟨?_, rfl, ?_⟩; focus (simp; done))) | ((with_reducible first | apply i_ldn | apply i_ldnq); exact rfl; exact rfl; exact rfl) | ((try with_reducible refine d_reg ?_); simp only [go_sem, Nat.reduceAdd, Nat.reduceEqDiff, Int.reduceToNat, Nat.reduceMul, Nat.reduceSub]) | clear hK K)
      refine i_clp O ?_
      repeat' ((fail_if_success with_reducible refine nph ?_); first | (with_reducible first | (refine d_seq ?_; intro K hK) | (refine hK _ _ ?_; clear hK K) | (refine SG.p ?_; try intro b)) | ((with_reducible refine SC.p ?_); refine And.intro ?_ ?_) <;> intro hc <;> try simp only [push_cast, Int.reduceEq, Int.reduceLT, Int.reduceLE, Int.reduceNe] at hc | with_reducible refine r_rq (by first | decide | omega) ?_ | ((with_reducible refine SL.p ?_); first | refine ⟨_, rfl, ?_⟩ | refine ⟨_, _, _, rfl, ?_⟩ | (refine ⟨?_, rfl, ?_⟩; focus (simp; done))) | ((with_reducible first | apply i_ldn | apply i_ldnq); exact rfl; exact rfl; exact rfl) | ((try with_reducible refine d_reg ?_); simp only [go_sem, Nat.reduceAdd, Nat.reduceEqDiff, Int.reduceToNat, Nat.reduceMul, Nat.reduceSub]) | clear hK K)
      all_goals try (first | contradiction | (simp only [ reduceCtorEq] at *; done) | (exfalso; omega))
      refine i_ldn (e := e_api_Rec) (x := ⟨k1, k2, k3, k4, k5, k6, k7, k8, k9, k10, k11, k12, k13⟩) rfl rfl rfl ?_
      refine i_clp F ?_
      repeat' ((fail_if_success with_reducible refine nph ?_); first | (with_reducible first | (refine d_seq ?_; intro K hK) | (refine hK _ _ ?_; clear hK K) | (refine SG.p ?_; try intro b)) | ((with_reducible refine SC.p ?_); refine And.intro ?_ ?_) <;> intro hc <;> try simp only [push_cast, Int.reduceEq, Int.reduceLT, Int.reduceLE, Int.reduceNe] at hc | with_reducible refine r_rq (by first | decide | omega) ?_ | ((with_reducible refine SL.p ?_); first | refine ⟨_, rfl, ?_⟩ | refine ⟨_, _, _, rfl, ?_⟩ | (refine ⟨?_, rfl, ?_⟩; focus (simp; done))) | ((with_reducible first | apply i_ldn | apply i_ldnq); exact rfl; exact rfl; exact rfl) | ((try with_reducible refine d_reg ?_); simp only [go_sem, Nat.reduceAdd, Nat.reduceEqDiff, Int.reduceToNat, Nat.reduceMul, Nat.reduceSub]) | clear hK K)
      all_goals try (first | contradiction | (simp only [ reduceCtorEq] at *; done) | (exfalso; omega))
      (with_reducible first | apply i_ret0 | apply i_ret2 | apply i_ret3 | apply i_ret); exact rfl
      rfl
/-- The log that is found. -/
def Dk.found (Z : Dk) (q base sectors run : Nat) : Lg := ⟨q, base, sectors, run, (Z.scn base run sectors 0 1).take (whole (Z.scn base run sectors 0 1)), whole (Z.scn base run sectors 0 1), false⟩
end Go.Sp
/- The log: Need, Read, Bound. -/
namespace Go.Sp
open Go Go.Proofs
set_option linter.unusedSimpArgs false
set_option linter.unusedVariables false
set_option maxRecDepth 10000
def Dk.lneed (Z : Dk) (G : Lg) (lsn : Int) : Lr := if G.dead then (9, Z, G) else if lsn < (G.durable : Int) + 1 then (0, Z, G) else Z.lflush G
theorem g40 (G : Lg) (Z : Dk) (h : Z.ok) (hG : G.ok Z.sure.length) (lsn : Int) : Fq eI Tryz.prog 40 #[G.p, .int .i64 lsn] [lgp G Z.sb, dk Z] [lgp (Z.lneed G lsn).2.2 Z.sb, dk (Z.lneed G lsn).2.1] (Z.lneed G lsn).1 := fun L => by
  have hdu := hG.du
  have hle := hG.le
  have hfit := hG.fit
  have hn1 := hG.n1
  have O := g75 G Z.sb
  have D := g29 G Z.sb (by omega)
  have F := g21 G Z h hG
  unfold Lg.off at O
  unfold Dk.lneed
  refine c40_fn rfl rfl ?_
  by_cases hd : G.dead = true
  · rw [if_pos hd] at O
    rw [if_pos hd]
    repeat' ((fail_if_success with_reducible refine nph ?_); first | (with_reducible first | (refine d_seq ?_; intro K hK) | (refine hK _ _ ?_; clear hK K) | (refine SG.p ?_; try intro b)) | ((with_reducible refine SC.p ?_); refine And.intro ?_ ?_) <;> intro hc <;> try simp only [push_cast, Int.reduceEq, Int.reduceLT, Int.reduceLE, Int.reduceNe] at hc | with_reducible refine r_rq (by first | decide | omega) ?_ | ((with_reducible refine SL.p ?_); first | refine ⟨_, rfl, ?_⟩ | refine ⟨_, _, _, rfl, ?_⟩ | (refine ⟨?_, rfl, ?_⟩; focus (simp; done))) | ((with_reducible first | apply i_ldn | apply i_ldnq); exact rfl; exact rfl; exact rfl) | ((try with_reducible refine d_reg ?_); simp only [go_sem, Nat.reduceAdd, Nat.reduceEqDiff, Int.reduceToNat, Nat.reduceMul, Nat.reduceSub]) | clear hK K)
    refine i_clp O ?_
    repeat' ((fail_if_success with_reducible refine nph ?_); first | (with_reducible first | (refine d_seq ?_; intro K hK) | (refine hK _ _ ?_; clear hK K) | (refine SG.p ?_; try intro b)) | ((with_reducible refine SC.p ?_); refine And.intro ?_ ?_) <;> intro hc <;> try simp only [push_cast, Int.reduceEq, Int.reduceLT, Int.reduceLE, Int.reduceNe] at hc | with_reducible refine r_rq (by first | decide | omega) ?_ | ((with_reducible refine SL.p ?_); first | refine ⟨_, rfl, ?_⟩ | refine ⟨_, _, _, rfl, ?_⟩ | (refine ⟨?_, rfl, ?_⟩; focus (simp; done))) | ((with_reducible first | apply i_ldn | apply i_ldnq); exact rfl; exact rfl; exact rfl) | ((try with_reducible refine d_reg ?_); simp only [go_sem, Nat.reduceAdd, Nat.reduceEqDiff, Int.reduceToNat, Nat.reduceMul, Nat.reduceSub]) | clear hK K)
    all_goals try (first | contradiction | (simp only [ reduceCtorEq] at *; done) | (exfalso; omega))
    (with_reducible first | apply i_ret0 | apply i_ret2 | apply i_ret3 | apply i_ret); exact rfl
    rfl
  · rw [if_neg hd] at O
    rw [if_neg hd]
    by_cases hq : lsn < (G.durable : Int) + 1
    · rw [if_pos hq]
      repeat' ((fail_if_success with_reducible refine nph ?_); first | (with_reducible first | (refine d_seq ?_; intro K hK) | (refine hK _ _ ?_; clear hK K) | (refine SG.p ?_; try intro b)) | ((with_reducible refine SC.p ?_); refine And.intro ?_ ?_) <;> intro hc <;> try simp only [push_cast, Int.reduceEq, Int.reduceLT, Int.reduceLE, Int.reduceNe] at hc | with_reducible refine r_rq (by first | decide | omega) ?_ | ((with_reducible refine SL.p ?_); first | refine ⟨_, rfl, ?_⟩ | refine ⟨_, _, _, rfl, ?_⟩ | (refine ⟨?_, rfl, ?_⟩; focus (simp; done))) | ((with_reducible first | apply i_ldn | apply i_ldnq); exact rfl; exact rfl; exact rfl) | ((try with_reducible refine d_reg ?_); simp only [go_sem, Nat.reduceAdd, Nat.reduceEqDiff, Int.reduceToNat, Nat.reduceMul, Nat.reduceSub]) | clear hK K)
      refine i_clp O ?_
      repeat' ((fail_if_success with_reducible refine nph ?_); first | (with_reducible first | (refine d_seq ?_; intro K hK) | (refine hK _ _ ?_; clear hK K) | (refine SG.p ?_; try intro b)) | ((with_reducible refine SC.p ?_); refine And.intro ?_ ?_) <;> intro hc <;> try simp only [push_cast, Int.reduceEq, Int.reduceLT, Int.reduceLE, Int.reduceNe] at hc | with_reducible refine r_rq (by first | decide | omega) ?_ | ((with_reducible refine SL.p ?_); first | refine ⟨_, rfl, ?_⟩ | refine ⟨_, _, _, rfl, ?_⟩ | (refine ⟨?_, rfl, ?_⟩; focus (simp; done))) | ((with_reducible first | apply i_ldn | apply i_ldnq); exact rfl; exact rfl; exact rfl) | ((try with_reducible refine d_reg ?_); simp only [go_sem, Nat.reduceAdd, Nat.reduceEqDiff, Int.reduceToNat, Nat.reduceMul, Nat.reduceSub]) | clear hK K)
      all_goals try (first | contradiction | (simp only [ reduceCtorEq] at *; done) | (exfalso; omega))
      refine i_clp D ?_
      repeat' ((fail_if_success with_reducible refine nph ?_); first | (with_reducible first | (refine d_seq ?_; intro K hK) | (refine hK _ _ ?_; clear hK K) | (refine SG.p ?_; try intro b)) | ((with_reducible refine SC.p ?_); refine And.intro ?_ ?_) <;> intro hc <;> try simp only [push_cast, Int.reduceEq, Int.reduceLT, Int.reduceLE, Int.reduceNe] at hc | with_reducible refine r_rq (by first | decide | omega) ?_ | ((with_reducible refine SL.p ?_); first | refine ⟨_, rfl, ?_⟩ | refine ⟨_, _, _, rfl, ?_⟩ | (refine ⟨?_, rfl, ?_⟩; focus (simp; done))) | ((with_reducible first | apply i_ldn | apply i_ldnq); exact rfl; exact rfl; exact rfl) | ((try with_reducible refine d_reg ?_); simp only [go_sem, Nat.reduceAdd, Nat.reduceEqDiff, Int.reduceToNat, Nat.reduceMul, Nat.reduceSub]) | clear hK K)
      all_goals try (exfalso; omega)
      (with_reducible first | apply i_ret0 | apply i_ret2 | apply i_ret3 | apply i_ret); exact rfl
      rfl
    · rw [if_neg hq]
      generalize Z.lflush G = T at *
      obtain ⟨e, Y, V⟩ := T
      dsimp only at F ⊢
      repeat' ((fail_if_success with_reducible refine nph ?_); first | (with_reducible first | (refine d_seq ?_; intro K hK) | (refine hK _ _ ?_; clear hK K) | (refine SG.p ?_; try intro b)) | ((with_reducible refine SC.p ?_); refine And.intro ?_ ?_) <;> intro hc <;> try simp only [push_cast, Int.reduceEq, Int.reduceLT, Int.reduceLE, Int.reduceNe] at hc | with_reducible refine r_rq (by first | decide | omega) ?_ | ((with_reducible refine SL.p ?_); first | refine ⟨_, rfl, ?_⟩ | refine ⟨_, _, _, rfl, ?_⟩ | (refine ⟨?_, rfl, ?_⟩; focus (simp; done))) | ((with_reducible first | apply i_ldn | apply i_ldnq); exact rfl; exact rfl; exact rfl) | ((try with_reducible refine d_reg ?_); simp only [go_sem, Nat.reduceAdd, Nat.reduceEqDiff, Int.reduceToNat, Nat.reduceMul, Nat.reduceSub]) | clear hK K)
      refine i_clp O ?_
      repeat' ((fail_if_success with_reducible refine nph ?_); first | (with_reducible first | (refine d_seq ?_; intro K hK) | (refine hK _ _ ?_; clear hK K) | (refine SG.p ?_; try intro b)) | ((with_reducible refine SC.p ?_); refine And.intro ?_ ?_) <;> intro hc <;> try simp only [push_cast, Int.reduceEq, Int.reduceLT, Int.reduceLE, Int.reduceNe] at hc | with_reducible refine r_rq (by first | decide | omega) ?_ | ((with_reducible refine SL.p ?_); first | refine ⟨_, rfl, ?_⟩ | refine ⟨_, _, _, rfl, ?_⟩ | (refine ⟨?_, rfl, ?_⟩; focus (simp; done))) | ((with_reducible first | apply i_ldn | apply i_ldnq); exact rfl; exact rfl; exact rfl) | ((try with_reducible refine d_reg ?_); simp only [go_sem, Nat.reduceAdd, Nat.reduceEqDiff, Int.reduceToNat, Nat.reduceMul, Nat.reduceSub]) | clear hK K)
      all_goals try (first | contradiction | (simp only [ reduceCtorEq] at *; done) | (exfalso; omega))
      refine i_clp D ?_
      repeat' ((fail_if_success with_reducible refine nph ?_); first | (with_reducible first | (refine d_seq ?_; intro K hK) | (refine hK _ _ ?_; clear hK K) | (refine SG.p ?_; try intro b)) | ((with_reducible refine SC.p ?_); refine And.intro ?_ ?_) <;> intro hc <;> try simp only [push_cast, Int.reduceEq, Int.reduceLT, Int.reduceLE, Int.reduceNe] at hc | with_reducible refine r_rq (by first | decide | omega) ?_ | ((with_reducible refine SL.p ?_); first | refine ⟨_, rfl, ?_⟩ | refine ⟨_, _, _, rfl, ?_⟩ | (refine ⟨?_, rfl, ?_⟩; focus (simp; done))) | ((with_reducible first | apply i_ldn | apply i_ldnq); exact rfl; exact rfl; exact rfl) | ((try with_reducible refine d_reg ?_); simp only [go_sem, Nat.reduceAdd, Nat.reduceEqDiff, Int.reduceToNat, Nat.reduceMul, Nat.reduceSub]) | clear hK K)
      all_goals try (exfalso; omega)
      refine i_clq F ?_
      repeat' ((fail_if_success with_reducible refine nph ?_); first | (with_reducible first | (refine d_seq ?_; intro K hK) | (refine hK _ _ ?_; clear hK K) | (refine SG.p ?_; try intro b)) | ((with_reducible refine SC.p ?_); refine And.intro ?_ ?_) <;> intro hc <;> try simp only [push_cast, Int.reduceEq, Int.reduceLT, Int.reduceLE, Int.reduceNe] at hc | with_reducible refine r_rq (by first | decide | omega) ?_ | ((with_reducible refine SL.p ?_); first | refine ⟨_, rfl, ?_⟩ | refine ⟨_, _, _, rfl, ?_⟩ | (refine ⟨?_, rfl, ?_⟩; focus (simp; done))) | ((with_reducible first | apply i_ldn | apply i_ldnq); exact rfl; exact rfl; exact rfl) | ((try with_reducible refine d_reg ?_); simp only [go_sem, Nat.reduceAdd, Nat.reduceEqDiff, Int.reduceToNat, Nat.reduceMul, Nat.reduceSub]) | clear hK K)
      (with_reducible first | apply i_ret0 | apply i_ret2 | apply i_ret3 | apply i_ret); exact rfl
      rfl
def Lg.read (G : Lg) (lsn : Int) : Rc × Int × Int := if lsn < 1 ∨ (G.all.length : Int) < lsn then (Rc.z 0, 0, 8) else if (opn G.all (lsn - 1)).2.2 = 0 then ((opn G.all (lsn - 1)).1, lsn + (opn G.all (lsn - 1)).2.1, 0) else (Rc.z 0, 0, (opn G.all (lsn - 1)).2.2)
end Go.Sp
/- What a law's arguments are: structs that hold slices of flat values, and slices of such structs, read as they lie. -/
namespace Go.Sp
open Go
inductive Ln
  | f (l : Lf)
  | sl (sz : Nat) (ks : List Lf)
section
variable {H : Type} {enc : TypeId × Value → H} {P : Program} {w : World} {base : Nat} {spare : Nat → Bool} {held : Bool}
end
end Go.Sp
/- A block of structs: what is loaded from one of them, and stored into it. -/
namespace Go.Sp
open Go
section
variable {α : Type} {cel : α → List Value} {sz : Nat}
theorem fset (hc : ∀ x, (cel x).length = sz) : ∀ (xs : List α) (i : Nat) (x x' : α) (_ : xs[i]? = some x) (j : Nat) (v : Value) (_ : j < sz) (_ : cel x' = (cel x).set j v), (xs.flatMap cel).set (i * sz + j) v = (xs.set i x').flatMap cel
  | y :: r, 0, x, x', hx, j, v, hj, he => by
    simp only [List.getElem?_cons_zero, Option.some.injEq] at hx
    subst hx
    simp only [Nat.zero_mul, Nat.zero_add, List.flatMap_cons, List.set_cons_zero]
    rw [List.set_append_left _ _ (by rw [hc]; exact hj), he]
  | y :: r, i + 1, x, x', hx, j, v, hj, he => by
    simp only [List.getElem?_cons_succ] at hx
    have ih := fset hc r i x x' hx j v hj he
    simp only [List.flatMap_cons, List.set_cons_succ]
    rw [List.set_append_right _ _ (by rw [hc, Nat.add_mul]; omega), hc, ← ih]
    congr 2
    rw [Nat.add_mul]; omega
  | [], i, x, x', hx, _, _, _, _ => by simp at hx
theorem flt (hc : ∀ x, (cel x).length = sz) {xs : List α} {i : Nat} {x : α} (hx : xs[i]? = some x) {j : Nat} (hj : j < sz) : i * sz + j < (xs.flatMap cel).length := by
  have hi : i < xs.length := by
    rcases Nat.lt_or_ge i xs.length with h' | h'
    · exact h'
    · rw [List.getElem?_eq_none h'] at hx; cases hx
  have hle : (i + 1) * sz ≤ xs.length * sz := Nat.mul_le_mul_right _ hi
  rw [Nat.add_mul] at hle
  rw [flat_len hc]
  omega
variable {L R : List HP} {b : Nat} {t : TypeId} {xs : List α} {i : Nat} {x : α}
theorem i_fl {e : Enc} {k : e.α → W} {y : e.α} [h : A1 L b t (xs.flatMap cel) R] (hc : ∀ x, (cel x).length = sz) (hx : xs[i]? = some x) {j : Nat} (hv : (cel x)[j]? = some (e.enc y)) (hk : E L (k y)) : E L (ld e ⟨b, i * sz + j, none⟩ k) := i_ld (flat_get hc xs i x hx j _ hv) hk
theorem i_flq {L' : List HP} {e : Enc} {k : e.α → W} {y : e.α} [h : A1 L' b t (xs.flatMap cel) R] (hc : ∀ x, (cel x).length = sz) (hx : xs[i]? = some x) {j : Nat} (hv : (cel x)[j]? = some (e.enc y)) (hk : E L (k y)) : E L (ldq (HW L') e ⟨b, i * sz + j, none⟩ k) := i_ldq (flat_get hc xs i x hx j _ hv) hk
theorem i_fs {k : W} {v : Value} [h : A1 L b t (xs.flatMap cel) R] (hc : ∀ x, (cel x).length = sz) (hx : xs[i]? = some x) (x' : α) {j : Nat} (hj : Nat.blt j sz = true) (he : cel x' = (cel x).set j v) (hv : one v = true) (hk : E (ar b t ((xs.set i x').flatMap cel) :: R) k) : E L (st ⟨b, i * sz + j, none⟩ v k) := by
  have hj' : j < sz := Nat.le_of_ble_eq_true hj
  have h1 := fset hc xs i x x' hx j v hj' he
  refine i_st (flt hc hx hj') hv ?_
  rw [h1]
  exact hk
theorem i_fl0q {L' : List HP} {e : Enc} {k : e.α → W} {y : e.α} [h : A1 L' b t (xs.flatMap cel) R] (hc : ∀ x, (cel x).length = sz) (hx : xs[i]? = some x) (hv : (cel x)[0]? = some (e.enc y)) (hk : E L (k y)) : E L (ldq (HW L') e ⟨b, i * sz, none⟩ k) := i_flq (j := 0) hc hx hv hk
theorem i_fs0 {k : W} {v : Value} [h : A1 L b t (xs.flatMap cel) R] (hc : ∀ x, (cel x).length = sz) (hx : xs[i]? = some x) (x' : α) (hj : Nat.blt 0 sz = true) (he : cel x' = (cel x).set 0 v) (hv : one v = true) (hk : E (ar b t ((xs.set i x').flatMap cel) :: R) k) : E L (st ⟨b, i * sz, none⟩ v k) := i_fs (j := 0) hc hx x' hj he hv hk
theorem spl_app (a l r : List Value) : ∀ (vs : List Value) (n : Nat), l.length = n + vs.length → spl (a ++ l ++ r) (a.length + n) vs = a ++ (l.take n ++ vs) ++ r
  | [], n, h => by
    have : l.take n = l := List.take_of_length_le (by simpa using Nat.le_of_eq h)
    rw [this, List.append_nil]
    rfl
  | v :: vs, n, h => by
    have h' : n < l.length := by rw [h]; simp
    show spl ((a ++ l ++ r).set (a.length + n) v) (a.length + n + 1) vs = _
    have e : (a ++ l ++ r).set (a.length + n) v = a ++ l.set n v ++ r := by
      rw [List.append_assoc, List.set_append_right _ _ (by omega), Nat.add_sub_cancel_left, List.set_append_left _ _ h', List.append_assoc]
    rw [e, Nat.add_assoc, spl_app a (l.set n v) r vs (n + 1) (by rw [List.length_set]; simp at h; omega)]
    have e2 : (l.set n v).take (n + 1) = l.take n ++ [v] := by
      rw [List.take_add_one, List.take_set_of_le (Nat.le_refl _)]
      simp [h']
    rw [e2]
    simp
/-- All of a struct is stored anew. -/
theorem i_fsl {k : W} {vs : List Value} [h : A1 L b t (xs.flatMap cel) R] (hc : ∀ x, (cel x).length = sz) (hx : xs[i]? = some x) (x' : α) (he : cel x' = vs) (hv : vs.all one = true) (hk : E (ar b t ((xs.set i x').flatMap cel) :: R) k) : E L (stl vs ⟨b, i * sz, none⟩ 0 k) := by
  have hi : i < xs.length := by
    rcases Nat.lt_or_ge i xs.length with h' | h'
    · exact h'
    · rw [List.getElem?_eq_none h'] at hx; cases hx
  have hl : vs.length = sz := by rw [← he]; exact hc x'
  have hle : (i + 1) * sz ≤ xs.length * sz := Nat.mul_le_mul_right _ hi
  rw [Nat.add_mul] at hle
  refine i_stl (by rw [flat_len hc]; omega) hv ?_
  have ex : xs = xs.take i ++ x :: xs.drop (i + 1) := by
    have e1 := List.drop_eq_getElem_cons hi
    rw [List.getElem?_eq_getElem hi] at hx
    rw [Option.some.inj hx] at e1
    rw [← e1, List.take_append_drop]
  have e : spl (xs.flatMap cel) (i * sz) vs = (xs.set i x').flatMap cel := by
    have hlen : ((xs.take i).flatMap cel).length = i * sz := by rw [flat_len hc, List.length_take, Nat.min_eq_left (by omega)]
    have h1 : xs.flatMap cel = (xs.take i).flatMap cel ++ cel x ++ (xs.drop (i + 1)).flatMap cel := by
      conv => lhs; rw [ex]
      simp
    have h2 : xs.set i x' = xs.take i ++ x' :: xs.drop (i + 1) := List.set_eq_take_append_cons_drop .. |>.trans (if_pos hi)
    have h3 := spl_app ((xs.take i).flatMap cel) (cel x) ((xs.drop (i + 1)).flatMap cel) vs 0 (by rw [hc]; omega)
    rw [hlen, List.take_zero, List.nil_append, show i * sz + 0 = i * sz from rfl] at h3
    rw [h1, h3, h2, ← he]
    simp
  rw [e]
  exact hk
end
end Go.Sp
/- What each region of the Go functions does. Written by my own generator. -/
namespace Go.Sp
open Go
set_option maxRecDepth 100000
set_option linter.unusedVariables false
open Go.Proofs
/-! gharry.pool.New -/
noncomputable def c42 : Cfg := { P := Tryz.prog, n := 28, T := TT, body := (Tryz.f42.body).getD .skip, res := Tryz.f42.results.toList, li := lk [] [(0, [0, 1, 2]), (1, [0, 1, 2]), (2, []), (3, [0, 1, 2])], lo := lk [] [(0, [0, 1, 2]), (1, [0, 1, 2, 21]), (2, [6, 7]), (3, [6, 7]), (1000000, [6, 7])], ord := lk (false, []) [] }
@[go_sem] theorem c42_i0 : c42.li 0 = [0, 1, 2] := rfl
@[go_sem] theorem c42_i1 : c42.li 1 = [0, 1, 2] := rfl
@[go_sem] theorem c42_i2 : c42.li 2 = [] := rfl
@[go_sem] theorem c42_i3 : c42.li 3 = [0, 1, 2] := rfl
@[go_sem] theorem c42_r0 (s0 : Option Addr) (l1 : Option Addr) (frames2 : Int) (K : Env → W) : RP c42 0 [(0, .pointer s0), (1, .pointer l1), (2, .int .i64 frames2)] K =
    (K [(0, .pointer s0), (1, .pointer l1), (2, .int .i64 frames2)]) := by kernel_rfl
@[go_sem] theorem c42_r1 (s0 : Option Addr) (l1 : Option Addr) (frames2 : Int) (K : Env → W) : RP c42 1 [(0, .pointer s0), (1, .pointer l1), (2, .int .i64 frames2)] K =
    (cnd ((s0).isNone) (K [(0, .pointer s0), (1, .pointer l1), (2, .int .i64 frames2), (21, .bool true)]) (cnd ((l1).isNone) (K [(0, .pointer s0), (1, .pointer l1), (2, .int .i64 frames2), (21, .bool true)]) (cnd ((decide (frames2 < (2 : Int)))) (K [(0, .pointer s0), (1, .pointer l1), (2, .int .i64 frames2), (21, .bool true)]) (K [(0, .pointer s0), (1, .pointer l1), (2, .int .i64 frames2), (21, .bool ((decide ((64 : Int) < frames2))))])))) := by kernel_rfl
@[go_sem] theorem c42_r2 (K : Env → W) : RP c42 2 [] K =
    (K [(6, .pointer none), (7, .int .i64 (1 : Int))]) := by kernel_rfl
@[go_sem] theorem c42_r3 (s0 : Option Addr) (l1 : Option Addr) (frames2 : Int) (K : Env → W) : RP c42 3 [(0, .pointer s0), (1, .pointer l1), (2, .int .i64 frames2)] K =
    (val eSl Tryz.prog (oMake 94 (.int .i64 frames2) (.int .i64 frames2)) fun (y1_ : (Option Addr × Nat × Nat)) => (nwc #[.pointer (s0), .pointer (l1), .slice (((y1_.1, y1_.2.1, y1_.2.2)).1) (((y1_.1, y1_.2.1, y1_.2.2)).2.1) (((y1_.1, y1_.2.1, y1_.2.2)).2.2), .int .i64 (0 : Int), .int .i64 (0 : Int), .int .i64 (0 : Int)] 96 fun y2_ => (K [(6, .pointer (some y2_)), (7, .int .i64 (0 : Int))]))) := by kernel_rfl
@[go_sem] theorem c42_o : c42.lo 1000000 = [6, 7] := rfl
@[go_sem] theorem c42_e (t6 : Option Addr) (t7 : Int) (k : Value → W) : RTp c42 [(6, .pointer t6), (7, .int .i64 t7)] k = (k (.tuple #[.pointer t6, .int .i64 t7])) := by kernel_rfl
theorem c42_ok : (c42.P.follows .mixedOrders && okc c42 c42.body) = true := by kernel_rfl
theorem c42_fn {e : Enc} {args : Array Value} {G : e.α → W} {L : List HP} {ρ : Env} (hρ : envA 0 args.toList = ρ) (hs : Nat.ble args.size 28 = true) (h : E L (D c42 (.seq (.reg 0) (.seq (.seq (.reg 1) (.cond (.tmp 21) (.seq (.reg 2) (.ret)) (.skip))) (.seq (.reg 3) (.ret)))) (fnQ c42 e G) ρ)) : E L (cal e Tryz.prog 42 args G) :=
  d_fn (c := c42) Tryz.func42 (by kernel_rfl) (by kernel_rfl) (by kernel_rfl) c42_ok (by kernel_rfl) (by kernel_rfl) hρ hs h
/-! (*gharry.pool.Pool).Set -/
noncomputable def c43 : Cfg := { P := Tryz.prog, n := 52, T := TT, body := (Tryz.f43.body).getD .skip, res := Tryz.f43.results.toList, li := lk [] [(0, [0, 1, 2, 3]), (1, [0, 1, 2, 3]), (2, []), (3, [0, 1, 2, 3]), (4, []), (5, [0, 1, 2, 3]), (6, []), (7, [0, 1, 2, 3]), (8, [2, 3, 9, 10]), (9, [10]), (10, [2, 3, 9]), (11, [2, 3, 9]), (12, [2, 3, 9]), (13, [])], lo := lk [] [(0, [0, 1, 2, 3]), (1, [0, 1, 2, 3, 11]), (2, [8]), (3, [0, 1, 2, 3, 14]), (4, [8]), (5, [0, 1, 2, 3, 18]), (6, [8]), (7, [2, 3, 9, 10]), (8, [2, 3, 9, 10, 28]), (9, [8]), (10, [2, 3, 9, 34]), (11, [2, 3, 9]), (12, []), (13, [8]), (1000000, [8])], ord := lk (false, []) [] }
@[go_sem] theorem c43_i0 : c43.li 0 = [0, 1, 2, 3] := rfl
@[go_sem] theorem c43_i1 : c43.li 1 = [0, 1, 2, 3] := rfl
@[go_sem] theorem c43_i2 : c43.li 2 = [] := rfl
@[go_sem] theorem c43_i3 : c43.li 3 = [0, 1, 2, 3] := rfl
@[go_sem] theorem c43_i4 : c43.li 4 = [] := rfl
@[go_sem] theorem c43_i5 : c43.li 5 = [0, 1, 2, 3] := rfl
@[go_sem] theorem c43_i6 : c43.li 6 = [] := rfl
@[go_sem] theorem c43_i7 : c43.li 7 = [0, 1, 2, 3] := rfl
@[go_sem] theorem c43_i8 : c43.li 8 = [2, 3, 9, 10] := rfl
@[go_sem] theorem c43_i9 : c43.li 9 = [10] := rfl
@[go_sem] theorem c43_i10 : c43.li 10 = [2, 3, 9] := rfl
@[go_sem] theorem c43_i11 : c43.li 11 = [2, 3, 9] := rfl
@[go_sem] theorem c43_i12 : c43.li 12 = [2, 3, 9] := rfl
@[go_sem] theorem c43_i13 : c43.li 13 = [] := rfl
@[go_sem] theorem c43_r0 (p0 : Option Addr) (id1 : Int) (text2 : List UInt8) (lsn3 : Int) (K : Env → W) : RP c43 0 [(0, .pointer p0), (1, .int .i64 id1), (2, str text2), (3, .int .i64 lsn3)] K =
    (K [(0, .pointer p0), (1, .int .i64 id1), (2, str text2), (3, .int .i64 lsn3)]) := by kernel_rfl
@[go_sem] theorem c43_r1 (p0 : Option Addr) (id1 : Int) (text2 : List UInt8) (lsn3 : Int) (K : Env → W) : RP c43 1 [(0, .pointer p0), (1, .int .i64 id1), (2, str text2), (3, .int .i64 lsn3)] K =
    (cal eB Tryz.prog 89 #[.pointer p0] fun (y1_ : Bool) => (K [(0, .pointer p0), (1, .int .i64 id1), (2, str text2), (3, .int .i64 lsn3), (11, .bool y1_)])) := by kernel_rfl
@[go_sem] theorem c43_r2 (K : Env → W) : RP c43 2 [] K =
    (K [(8, .int .i64 (11 : Int))]) := by kernel_rfl
@[go_sem] theorem c43_r3 (p0 : Option Addr) (id1 : Int) (text2 : List UInt8) (lsn3 : Int) (K : Env → W) : RP c43 3 [(0, .pointer p0), (1, .int .i64 id1), (2, str text2), (3, .int .i64 lsn3)] K =
    (K [(0, .pointer p0), (1, .int .i64 id1), (2, str text2), (3, .int .i64 lsn3), (14, .bool ((((text2).length : Int) != (224 : Int))))]) := by kernel_rfl
@[go_sem] theorem c43_r4 (K : Env → W) : RP c43 4 [] K =
    (K [(8, .int .i64 (4 : Int))]) := by kernel_rfl
@[go_sem] theorem c43_r5 (p0 : Option Addr) (id1 : Int) (text2 : List UInt8) (lsn3 : Int) (K : Env → W) : RP c43 5 [(0, .pointer p0), (1, .int .i64 id1), (2, str text2), (3, .int .i64 lsn3)] K =
    (K [(0, .pointer p0), (1, .int .i64 id1), (2, str text2), (3, .int .i64 lsn3), (18, .bool ((decide (lsn3 < (1 : Int)))))]) := by kernel_rfl
@[go_sem] theorem c43_r6 (K : Env → W) : RP c43 6 [] K =
    (K [(8, .int .i64 (1 : Int))]) := by kernel_rfl
@[go_sem] theorem c43_r7 (p0 : Option Addr) (id1 : Int) (text2 : List UInt8) (lsn3 : Int) (K : Env → W) : RP c43 7 [(0, .pointer p0), (1, .int .i64 id1), (2, str text2), (3, .int .i64 lsn3)] K =
    (cal (eT2 eP eI) Tryz.prog 90 #[.pointer p0, .int .i64 id1] fun (y1_ : ((Option Addr) × Int)) => (K [(2, str text2), (3, .int .i64 lsn3), (9, .pointer y1_.1), (10, .int .i64 y1_.2)])) := by kernel_rfl
@[go_sem] theorem c43_r8 (text2 : List UInt8) (lsn3 : Int) (f9 : Option Addr) (e10 : Int) (K : Env → W) : RP c43 8 [(2, str text2), (3, .int .i64 lsn3), (9, .pointer f9), (10, .int .i64 e10)] K =
    (K [(2, str text2), (3, .int .i64 lsn3), (9, .pointer f9), (10, .int .i64 e10), (28, .bool ((e10 != (0 : Int))))]) := by kernel_rfl
@[go_sem] theorem c43_r9 (e10 : Int) (K : Env → W) : RP c43 9 [(10, .int .i64 e10)] K =
    (K [(8, .int .i64 e10)]) := by kernel_rfl
@[go_sem] theorem c43_r10 (text2 : List UInt8) (lsn3 : Int) (f9 : Option Addr) (K : Env → W) : RP c43 10 [(2, str text2), (3, .int .i64 lsn3), (9, .pointer f9)] K =
    (nn f9 fun y1_ => (ld eB ((y1_.add 3)) fun (y2_ : Bool) => (K [(2, str text2), (3, .int .i64 lsn3), (9, .pointer f9), (34, .bool ((!y2_)))]))) := by kernel_rfl
@[go_sem] theorem c43_r11 (text2 : List UInt8) (lsn3 : Int) (f9 : Option Addr) (K : Env → W) : RP c43 11 [(2, str text2), (3, .int .i64 lsn3), (9, .pointer f9)] K =
    (nn f9 fun y1_ => (st ((y1_.add 3)) (.bool true) (nn f9 fun y2_ => (st ((y2_.add 4)) (.int .i64 lsn3) (K [(2, str text2), (3, .int .i64 lsn3), (9, .pointer f9)]))))) := by kernel_rfl
@[go_sem] theorem c43_r12 (text2 : List UInt8) (lsn3 : Int) (f9 : Option Addr) (K : Env → W) : RP c43 12 [(2, str text2), (3, .int .i64 lsn3), (9, .pointer f9)] K =
    (nn f9 fun y1_ => (st y1_ (str text2) (nn f9 fun y2_ => (st ((y2_.add 1)) (.int .i64 lsn3) (K []))))) := by kernel_rfl
@[go_sem] theorem c43_r13 (K : Env → W) : RP c43 13 [] K =
    (K [(8, .int .i64 (0 : Int))]) := by kernel_rfl
@[go_sem] theorem c43_o : c43.lo 1000000 = [8] := rfl
@[go_sem] theorem c43_e (t8 : Int) (k : Value → W) : RTp c43 [(8, .int .i64 t8)] k = (k (.int .i64 t8)) := by kernel_rfl
theorem c43_ok : (c43.P.follows .mixedOrders && okc c43 c43.body) = true := by kernel_rfl
theorem c43_fn {e : Enc} {args : Array Value} {G : e.α → W} {L : List HP} {ρ : Env} (hρ : envA 0 args.toList = ρ) (hs : Nat.ble args.size 52 = true) (h : E L (D c43 (.seq (.reg 0) (.seq (.block 0 (.seq (.reg 1) (.cond (.tmp 11) (.seq (.reg 2) (.ret)) (.seq (.reg 3) (.cond (.tmp 14) (.seq (.reg 4) (.ret)) (.seq (.reg 5) (.cond (.tmp 18) (.seq (.reg 6) (.ret)) (.skip)))))))) (.seq (.reg 7) (.seq (.seq (.reg 8) (.cond (.tmp 28) (.seq (.reg 9) (.ret)) (.skip))) (.seq (.seq (.reg 10) (.cond (.tmp 34) (.reg 11) (.skip))) (.seq (.reg 12) (.seq (.reg 13) (.ret)))))))) (fnQ c43 e G) ρ)) : E L (cal e Tryz.prog 43 args G) :=
  d_fn (c := c43) Tryz.func43 (by kernel_rfl) (by kernel_rfl) (by kernel_rfl) c43_ok (by kernel_rfl) (by kernel_rfl) hρ hs h
/-! (*gharry.pool.Pool).Dirty -/
noncomputable def c45 : Cfg := { P := Tryz.prog, n := 19, T := TT, body := (Tryz.f45.body).getD .skip, res := Tryz.f45.results.toList, li := lk [] [(0, [0, 1]), (1, [0, 1]), (2, []), (3, [0, 1]), (4, [5])], lo := lk [] [(0, [0, 1]), (1, [0, 1, 7]), (2, [4]), (3, [5]), (4, [4]), (1000000, [4])], ord := lk (false, []) [] }
@[go_sem] theorem c45_i0 : c45.li 0 = [0, 1] := rfl
@[go_sem] theorem c45_i1 : c45.li 1 = [0, 1] := rfl
@[go_sem] theorem c45_i2 : c45.li 2 = [] := rfl
@[go_sem] theorem c45_i3 : c45.li 3 = [0, 1] := rfl
@[go_sem] theorem c45_i4 : c45.li 4 = [5] := rfl
@[go_sem] theorem c45_r0 (p0 : Option Addr) (id1 : Int) (K : Env → W) : RP c45 0 [(0, .pointer p0), (1, .int .i64 id1)] K =
    (K [(0, .pointer p0), (1, .int .i64 id1)]) := by kernel_rfl
@[go_sem] theorem c45_r1 (p0 : Option Addr) (id1 : Int) (K : Env → W) : RP c45 1 [(0, .pointer p0), (1, .int .i64 id1)] K =
    (cal eB Tryz.prog 89 #[.pointer p0] fun (y1_ : Bool) => (K [(0, .pointer p0), (1, .int .i64 id1), (7, .bool y1_)])) := by kernel_rfl
@[go_sem] theorem c45_r2 (K : Env → W) : RP c45 2 [] K =
    (K [(4, .bool false)]) := by kernel_rfl
@[go_sem] theorem c45_r3 (p0 : Option Addr) (id1 : Int) (K : Env → W) : RP c45 3 [(0, .pointer p0), (1, .int .i64 id1)] K =
    (cal eP Tryz.prog 91 #[.pointer p0, .int .i64 id1] fun (y1_ : Option Addr) => (K [(5, .pointer y1_)])) := by kernel_rfl
@[go_sem] theorem c45_r4 (f5 : Option Addr) (K : Env → W) : RP c45 4 [(5, .pointer f5)] K =
    (cnd ((!(f5).isNone)) (nn f5 fun y1_ => (ld eB ((y1_.add 3)) fun (y2_ : Bool) => (K [(4, .bool y2_)]))) (K [(4, .bool false)])) := by kernel_rfl
@[go_sem] theorem c45_o : c45.lo 1000000 = [4] := rfl
@[go_sem] theorem c45_e (t4 : Bool) (k : Value → W) : RTp c45 [(4, .bool t4)] k = (k (.bool t4)) := by kernel_rfl
theorem c45_ok : (c45.P.follows .mixedOrders && okc c45 c45.body) = true := by kernel_rfl
theorem c45_fn {e : Enc} {args : Array Value} {G : e.α → W} {L : List HP} {ρ : Env} (hρ : envA 0 args.toList = ρ) (hs : Nat.ble args.size 19 = true) (h : E L (D c45 (.seq (.reg 0) (.seq (.seq (.reg 1) (.cond (.tmp 7) (.seq (.reg 2) (.ret)) (.skip))) (.seq (.reg 3) (.seq (.reg 4) (.ret))))) (fnQ c45 e G) ρ)) : E L (cal e Tryz.prog 45 args G) :=
  d_fn (c := c45) Tryz.func45 (by kernel_rfl) (by kernel_rfl) (by kernel_rfl) c45_ok (by kernel_rfl) (by kernel_rfl) hρ hs h
/-! (*gharry.pool.Pool).Pages -/
/-! (*gharry.pool.Pool).Pin -/
noncomputable def c48 : Cfg := { P := Tryz.prog, n := 25, T := TT, body := (Tryz.f48.body).getD .skip, res := Tryz.f48.results.toList, li := lk [] [(0, [0, 1]), (1, [0, 1]), (2, []), (3, [0, 1]), (4, [5, 6]), (5, [6]), (6, [5]), (7, [])], lo := lk [] [(0, [0, 1]), (1, [0, 1, 8]), (2, [4]), (3, [5, 6]), (4, [5, 6, 16]), (5, [4]), (6, []), (7, [4]), (1000000, [4])], ord := lk (false, []) [] }
@[go_sem] theorem c48_i0 : c48.li 0 = [0, 1] := rfl
@[go_sem] theorem c48_i1 : c48.li 1 = [0, 1] := rfl
@[go_sem] theorem c48_i2 : c48.li 2 = [] := rfl
@[go_sem] theorem c48_i3 : c48.li 3 = [0, 1] := rfl
@[go_sem] theorem c48_i4 : c48.li 4 = [5, 6] := rfl
@[go_sem] theorem c48_i5 : c48.li 5 = [6] := rfl
@[go_sem] theorem c48_i6 : c48.li 6 = [5] := rfl
@[go_sem] theorem c48_i7 : c48.li 7 = [] := rfl
@[go_sem] theorem c48_r0 (p0 : Option Addr) (id1 : Int) (K : Env → W) : RP c48 0 [(0, .pointer p0), (1, .int .i64 id1)] K =
    (K [(0, .pointer p0), (1, .int .i64 id1)]) := by kernel_rfl
@[go_sem] theorem c48_r1 (p0 : Option Addr) (id1 : Int) (K : Env → W) : RP c48 1 [(0, .pointer p0), (1, .int .i64 id1)] K =
    (cal eB Tryz.prog 89 #[.pointer p0] fun (y1_ : Bool) => (K [(0, .pointer p0), (1, .int .i64 id1), (8, .bool y1_)])) := by kernel_rfl
@[go_sem] theorem c48_r2 (K : Env → W) : RP c48 2 [] K =
    (K [(4, .int .i64 (11 : Int))]) := by kernel_rfl
@[go_sem] theorem c48_r3 (p0 : Option Addr) (id1 : Int) (K : Env → W) : RP c48 3 [(0, .pointer p0), (1, .int .i64 id1)] K =
    (cal (eT2 eP eI) Tryz.prog 90 #[.pointer p0, .int .i64 id1] fun (y1_ : ((Option Addr) × Int)) => (K [(5, .pointer y1_.1), (6, .int .i64 y1_.2)])) := by kernel_rfl
@[go_sem] theorem c48_r4 (f5 : Option Addr) (e6 : Int) (K : Env → W) : RP c48 4 [(5, .pointer f5), (6, .int .i64 e6)] K =
    (K [(5, .pointer f5), (6, .int .i64 e6), (16, .bool ((e6 != (0 : Int))))]) := by kernel_rfl
@[go_sem] theorem c48_r5 (e6 : Int) (K : Env → W) : RP c48 5 [(6, .int .i64 e6)] K =
    (K [(4, .int .i64 e6)]) := by kernel_rfl
@[go_sem] theorem c48_r6 (f5 : Option Addr) (K : Env → W) : RP c48 6 [(5, .pointer f5)] K =
    (nn f5 fun y1_ => (ld eI ((y1_.add 5)) fun (y2_ : Int) => (nn f5 fun y3_ => (st ((y3_.add 5)) (.int .i64 ((IntKind.wrap .i64 (y2_ + (1 : Int))))) (K []))))) := by kernel_rfl
@[go_sem] theorem c48_r7 (K : Env → W) : RP c48 7 [] K =
    (K [(4, .int .i64 (0 : Int))]) := by kernel_rfl
@[go_sem] theorem c48_o : c48.lo 1000000 = [4] := rfl
@[go_sem] theorem c48_e (t4 : Int) (k : Value → W) : RTp c48 [(4, .int .i64 t4)] k = (k (.int .i64 t4)) := by kernel_rfl
theorem c48_ok : (c48.P.follows .mixedOrders && okc c48 c48.body) = true := by kernel_rfl
theorem c48_fn {e : Enc} {args : Array Value} {G : e.α → W} {L : List HP} {ρ : Env} (hρ : envA 0 args.toList = ρ) (hs : Nat.ble args.size 25 = true) (h : E L (D c48 (.seq (.reg 0) (.seq (.seq (.reg 1) (.cond (.tmp 8) (.seq (.reg 2) (.ret)) (.skip))) (.seq (.reg 3) (.seq (.seq (.reg 4) (.cond (.tmp 16) (.seq (.reg 5) (.ret)) (.skip))) (.seq (.reg 6) (.seq (.reg 7) (.ret))))))) (fnQ c48 e G) ρ)) : E L (cal e Tryz.prog 48 args G) :=
  d_fn (c := c48) Tryz.func48 (by kernel_rfl) (by kernel_rfl) (by kernel_rfl) c48_ok (by kernel_rfl) (by kernel_rfl) hρ hs h
/-! (*gharry.pool.Pool).Get -/
noncomputable def c49 : Cfg := { P := Tryz.prog, n := 30, T := TT, body := (Tryz.f49.body).getD .skip, res := Tryz.f49.results.toList, li := lk [] [(0, [0, 1]), (1, [0, 1]), (2, []), (3, [0, 1]), (4, [7, 8]), (5, [8]), (6, [7])], lo := lk [] [(0, [0, 1]), (1, [0, 1, 10]), (2, [4, 5, 6]), (3, [7, 8]), (4, [7, 8, 18]), (5, [4, 5, 6]), (6, [4, 5, 6]), (1000000, [4, 5, 6])], ord := lk (false, []) [(6, (true, [(0, 1), (1, 1), (2, 1), (3, 1), (4, 0), (5, 1), (6, 1), (7, 1), (8, 1), (9, 0), (10, 1), (11, 1), (12, 1)]))] }
@[go_sem] theorem c49_i0 : c49.li 0 = [0, 1] := rfl
@[go_sem] theorem c49_i1 : c49.li 1 = [0, 1] := rfl
@[go_sem] theorem c49_i2 : c49.li 2 = [] := rfl
@[go_sem] theorem c49_i3 : c49.li 3 = [0, 1] := rfl
@[go_sem] theorem c49_i4 : c49.li 4 = [7, 8] := rfl
@[go_sem] theorem c49_i5 : c49.li 5 = [8] := rfl
@[go_sem] theorem c49_i6 : c49.li 6 = [7] := rfl
@[go_sem] theorem c49_r0 (p0 : Option Addr) (id1 : Int) (K : Env → W) : RP c49 0 [(0, .pointer p0), (1, .int .i64 id1)] K =
    (K [(0, .pointer p0), (1, .int .i64 id1)]) := by kernel_rfl
@[go_sem] theorem c49_r1 (p0 : Option Addr) (id1 : Int) (K : Env → W) : RP c49 1 [(0, .pointer p0), (1, .int .i64 id1)] K =
    (cal eB Tryz.prog 89 #[.pointer p0] fun (y1_ : Bool) => (K [(0, .pointer p0), (1, .int .i64 id1), (10, .bool y1_)])) := by kernel_rfl
@[go_sem] theorem c49_r2 (K : Env → W) : RP c49 2 [] K =
    (K [(4, str (([] : List UInt8))), (5, .int .i64 (0 : Int)), (6, .int .i64 (11 : Int))]) := by kernel_rfl
@[go_sem] theorem c49_r3 (p0 : Option Addr) (id1 : Int) (K : Env → W) : RP c49 3 [(0, .pointer p0), (1, .int .i64 id1)] K =
    (cal (eT2 eP eI) Tryz.prog 90 #[.pointer p0, .int .i64 id1] fun (y1_ : ((Option Addr) × Int)) => (K [(7, .pointer y1_.1), (8, .int .i64 y1_.2)])) := by kernel_rfl
@[go_sem] theorem c49_r4 (f7 : Option Addr) (e8 : Int) (K : Env → W) : RP c49 4 [(7, .pointer f7), (8, .int .i64 e8)] K =
    (K [(7, .pointer f7), (8, .int .i64 e8), (18, .bool ((e8 != (0 : Int))))]) := by kernel_rfl
@[go_sem] theorem c49_r5 (e8 : Int) (K : Env → W) : RP c49 5 [(8, .int .i64 e8)] K =
    (K [(4, str (([] : List UInt8))), (5, .int .i64 (0 : Int)), (6, .int .i64 e8)]) := by kernel_rfl
@[go_sem] theorem c49_r6 (f7 : Option Addr) (K : Env → W) : RP c49 6 [(7, .pointer f7)] K =
    (ph fun S0 => (nn f7 fun y1_ => (ldq S0 eS y1_ fun (y2_ : List UInt8) => (nn f7 fun y3_ => (ldq S0 eI ((y3_.add 1)) fun (y4_ : Int) => (K [(4, str y2_), (5, .int .i64 y4_), (6, .int .i64 (0 : Int))])))))) := by kernel_rfl
@[go_sem] theorem c49_o : c49.lo 1000000 = [4, 5, 6] := rfl
@[go_sem] theorem c49_e (t4 : List UInt8) (t5 : Int) (t6 : Int) (k : Value → W) : RTp c49 [(4, str t4), (5, .int .i64 t5), (6, .int .i64 t6)] k = (k (.tuple #[str t4, .int .i64 t5, .int .i64 t6])) := by kernel_rfl
theorem c49_ok : (c49.P.follows .mixedOrders && okc c49 c49.body) = true := by kernel_rfl
theorem c49_fn {e : Enc} {args : Array Value} {G : e.α → W} {L : List HP} {ρ : Env} (hρ : envA 0 args.toList = ρ) (hs : Nat.ble args.size 30 = true) (h : E L (D c49 (.seq (.reg 0) (.seq (.seq (.reg 1) (.cond (.tmp 10) (.seq (.reg 2) (.ret)) (.skip))) (.seq (.reg 3) (.seq (.seq (.reg 4) (.cond (.tmp 18) (.seq (.reg 5) (.ret)) (.skip))) (.seq (.reg 6) (.ret)))))) (fnQ c49 e G) ρ)) : E L (cal e Tryz.prog 49 args G) :=
  d_fn (c := c49) Tryz.func49 (by kernel_rfl) (by kernel_rfl) (by kernel_rfl) c49_ok (by kernel_rfl) (by kernel_rfl) hρ hs h
/-! (*gharry.pool.Pool).Unpin -/
noncomputable def c50 : Cfg := { P := Tryz.prog, n := 27, T := TT, body := (Tryz.f50.body).getD .skip, res := Tryz.f50.results.toList, li := lk [] [(0, [0, 1]), (1, [0, 1]), (2, []), (3, [0, 1]), (4, [5]), (5, []), (6, [5]), (7, [])], lo := lk [] [(0, [0, 1]), (1, [0, 1, 7]), (2, [4]), (3, [5]), (4, [5, 19]), (5, [4]), (6, []), (7, [4]), (1000000, [4])], ord := lk (false, []) [] }
@[go_sem] theorem c50_i0 : c50.li 0 = [0, 1] := rfl
@[go_sem] theorem c50_i1 : c50.li 1 = [0, 1] := rfl
@[go_sem] theorem c50_i2 : c50.li 2 = [] := rfl
@[go_sem] theorem c50_i3 : c50.li 3 = [0, 1] := rfl
@[go_sem] theorem c50_i4 : c50.li 4 = [5] := rfl
@[go_sem] theorem c50_i5 : c50.li 5 = [] := rfl
@[go_sem] theorem c50_i6 : c50.li 6 = [5] := rfl
@[go_sem] theorem c50_i7 : c50.li 7 = [] := rfl
@[go_sem] theorem c50_r0 (p0 : Option Addr) (id1 : Int) (K : Env → W) : RP c50 0 [(0, .pointer p0), (1, .int .i64 id1)] K =
    (K [(0, .pointer p0), (1, .int .i64 id1)]) := by kernel_rfl
@[go_sem] theorem c50_r1 (p0 : Option Addr) (id1 : Int) (K : Env → W) : RP c50 1 [(0, .pointer p0), (1, .int .i64 id1)] K =
    (cal eB Tryz.prog 89 #[.pointer p0] fun (y1_ : Bool) => (K [(0, .pointer p0), (1, .int .i64 id1), (7, .bool y1_)])) := by kernel_rfl
@[go_sem] theorem c50_r2 (K : Env → W) : RP c50 2 [] K =
    (K [(4, .int .i64 (11 : Int))]) := by kernel_rfl
@[go_sem] theorem c50_r3 (p0 : Option Addr) (id1 : Int) (K : Env → W) : RP c50 3 [(0, .pointer p0), (1, .int .i64 id1)] K =
    (cal eP Tryz.prog 91 #[.pointer p0, .int .i64 id1] fun (y1_ : Option Addr) => (K [(5, .pointer y1_)])) := by kernel_rfl
@[go_sem] theorem c50_r4 (f5 : Option Addr) (K : Env → W) : RP c50 4 [(5, .pointer f5)] K =
    (cnd ((f5).isNone) (K [(5, .pointer f5), (19, .bool true)]) (nn f5 fun y1_ => (ld eI ((y1_.add 5)) fun (y2_ : Int) => (K [(5, .pointer f5), (19, .bool ((y2_ == (0 : Int))))])))) := by kernel_rfl
@[go_sem] theorem c50_r5 (K : Env → W) : RP c50 5 [] K =
    (K [(4, .int .i64 (8 : Int))]) := by kernel_rfl
@[go_sem] theorem c50_r6 (f5 : Option Addr) (K : Env → W) : RP c50 6 [(5, .pointer f5)] K =
    (nn f5 fun y1_ => (ld eI ((y1_.add 5)) fun (y2_ : Int) => (nn f5 fun y3_ => (st ((y3_.add 5)) (.int .i64 ((IntKind.wrap .i64 (y2_ - (1 : Int))))) (K []))))) := by kernel_rfl
@[go_sem] theorem c50_r7 (K : Env → W) : RP c50 7 [] K =
    (K [(4, .int .i64 (0 : Int))]) := by kernel_rfl
@[go_sem] theorem c50_o : c50.lo 1000000 = [4] := rfl
@[go_sem] theorem c50_e (t4 : Int) (k : Value → W) : RTp c50 [(4, .int .i64 t4)] k = (k (.int .i64 t4)) := by kernel_rfl
theorem c50_ok : (c50.P.follows .mixedOrders && okc c50 c50.body) = true := by kernel_rfl
theorem c50_fn {e : Enc} {args : Array Value} {G : e.α → W} {L : List HP} {ρ : Env} (hρ : envA 0 args.toList = ρ) (hs : Nat.ble args.size 27 = true) (h : E L (D c50 (.seq (.reg 0) (.seq (.seq (.reg 1) (.cond (.tmp 7) (.seq (.reg 2) (.ret)) (.skip))) (.seq (.reg 3) (.seq (.seq (.reg 4) (.cond (.tmp 19) (.seq (.reg 5) (.ret)) (.skip))) (.seq (.reg 6) (.seq (.reg 7) (.ret))))))) (fnQ c50 e G) ρ)) : E L (cal e Tryz.prog 50 args G) :=
  d_fn (c := c50) Tryz.func50 (by kernel_rfl) (by kernel_rfl) (by kernel_rfl) c50_ok (by kernel_rfl) (by kernel_rfl) hρ hs h
/-! (*gharry.pool.Pool).Counts -/
/-! (*gharry.pool.Pool).Flush -/
/-! (*gharry.pool.Pool).FlushAll -/
/-! (*gharry.pool.Pool).Table -/
/-! (*gharry.pool.Pool).Redo -/
/-! (*gharry.pool.Pool).none -/
noncomputable def c89 : Cfg := { P := Tryz.prog, n := 13, T := TT, body := (Tryz.f89.body).getD .skip, res := Tryz.f89.results.toList, li := lk [] [(0, [0]), (1, [0])], lo := lk [] [(0, [0]), (1, [2]), (1000000, [2])], ord := lk (false, []) [] }
@[go_sem] theorem c89_i0 : c89.li 0 = [0] := rfl
@[go_sem] theorem c89_i1 : c89.li 1 = [0] := rfl
@[go_sem] theorem c89_r0 (p0 : Option Addr) (K : Env → W) : RP c89 0 [(0, .pointer p0)] K =
    (K [(0, .pointer p0)]) := by kernel_rfl
@[go_sem] theorem c89_r1 (p0 : Option Addr) (K : Env → W) : RP c89 1 [(0, .pointer p0)] K =
    (cnd ((p0).isNone) (K [(2, .bool true)]) (nn p0 fun y1_ => (ld eSl ((y1_.add 2)) fun (y2_ : (Option Addr × Nat × Nat)) => (K [(2, .bool (((y2_.2.1 : Int) == (0 : Int))))])))) := by kernel_rfl
@[go_sem] theorem c89_o : c89.lo 1000000 = [2] := rfl
@[go_sem] theorem c89_e (t2 : Bool) (k : Value → W) : RTp c89 [(2, .bool t2)] k = (k (.bool t2)) := by kernel_rfl
theorem c89_ok : (c89.P.follows .mixedOrders && okc c89 c89.body) = true := by kernel_rfl
theorem c89_fn {e : Enc} {args : Array Value} {G : e.α → W} {L : List HP} {ρ : Env} (hρ : envA 0 args.toList = ρ) (hs : Nat.ble args.size 13 = true) (h : E L (D c89 (.seq (.reg 0) (.seq (.reg 1) (.ret))) (fnQ c89 e G) ρ)) : E L (cal e Tryz.prog 89 args G) :=
  d_fn (c := c89) Tryz.func89 (by kernel_rfl) (by kernel_rfl) (by kernel_rfl) c89_ok (by kernel_rfl) (by kernel_rfl) hρ hs h
/-! (*gharry.pool.Pool).hold -/
noncomputable def c90 : Cfg := { P := Tryz.prog, n := 75, T := TT, body := (Tryz.f90.body).getD .skip, res := Tryz.f90.results.toList, li := lk [] [(0, [0, 1]), (1, [0, 1]), (2, [0, 1, 6]), (3, [6]), (4, [6]), (5, [0, 1]), (6, [0, 1, 7, 8, 9]), (7, [9]), (8, [0, 1, 7, 8]), (9, [0, 1, 7, 8, 9, 10]), (10, [9]), (11, [0, 1, 7, 8, 10]), (12, [0, 1, 7, 8, 10]), (13, [0, 1, 7, 8, 10, 11]), (14, [11]), (15, [0, 1, 7, 8, 10]), (16, [0, 10]), (17, [10])], lo := lk [] [(0, [0, 1]), (1, [0, 1, 6]), (2, [0, 1, 6, 16]), (3, [6]), (4, [4, 5]), (5, [0, 1, 7, 8, 9]), (6, [0, 1, 7, 8, 9, 40]), (7, [4, 5]), (8, [0, 1, 7, 8, 9, 10]), (9, [0, 1, 7, 8, 9, 10, 48]), (10, [4, 5]), (11, [0, 1, 7, 8, 10, 53]), (12, [0, 1, 7, 8, 10, 11]), (13, [0, 1, 7, 8, 10, 11, 58]), (14, [4, 5]), (15, [0, 10]), (16, [10]), (17, [4, 5]), (1000000, [4, 5])], ord := lk (false, []) [] }
@[go_sem] theorem c90_i0 : c90.li 0 = [0, 1] := rfl
@[go_sem] theorem c90_i1 : c90.li 1 = [0, 1] := rfl
@[go_sem] theorem c90_i2 : c90.li 2 = [0, 1, 6] := rfl
@[go_sem] theorem c90_i3 : c90.li 3 = [6] := rfl
@[go_sem] theorem c90_i4 : c90.li 4 = [6] := rfl
@[go_sem] theorem c90_i5 : c90.li 5 = [0, 1] := rfl
@[go_sem] theorem c90_i6 : c90.li 6 = [0, 1, 7, 8, 9] := rfl
@[go_sem] theorem c90_i7 : c90.li 7 = [9] := rfl
@[go_sem] theorem c90_i8 : c90.li 8 = [0, 1, 7, 8] := rfl
@[go_sem] theorem c90_i9 : c90.li 9 = [0, 1, 7, 8, 9, 10] := rfl
@[go_sem] theorem c90_i10 : c90.li 10 = [9] := rfl
@[go_sem] theorem c90_i11 : c90.li 11 = [0, 1, 7, 8, 10] := rfl
@[go_sem] theorem c90_i12 : c90.li 12 = [0, 1, 7, 8, 10] := rfl
@[go_sem] theorem c90_i13 : c90.li 13 = [0, 1, 7, 8, 10, 11] := rfl
@[go_sem] theorem c90_i14 : c90.li 14 = [11] := rfl
@[go_sem] theorem c90_i15 : c90.li 15 = [0, 1, 7, 8, 10] := rfl
@[go_sem] theorem c90_i16 : c90.li 16 = [0, 10] := rfl
@[go_sem] theorem c90_i17 : c90.li 17 = [10] := rfl
@[go_sem] theorem c90_r0 (p0 : Option Addr) (id1 : Int) (K : Env → W) : RP c90 0 [(0, .pointer p0), (1, .int .i64 id1)] K =
    (K [(0, .pointer p0), (1, .int .i64 id1)]) := by kernel_rfl
@[go_sem] theorem c90_r1 (p0 : Option Addr) (id1 : Int) (K : Env → W) : RP c90 1 [(0, .pointer p0), (1, .int .i64 id1)] K =
    (cal eP Tryz.prog 91 #[.pointer p0, .int .i64 id1] fun (y1_ : Option Addr) => (K [(0, .pointer p0), (1, .int .i64 id1), (6, .pointer y1_)])) := by kernel_rfl
@[go_sem] theorem c90_r2 (p0 : Option Addr) (id1 : Int) (f6 : Option Addr) (K : Env → W) : RP c90 2 [(0, .pointer p0), (1, .int .i64 id1), (6, .pointer f6)] K =
    (K [(0, .pointer p0), (1, .int .i64 id1), (6, .pointer f6), (16, .bool ((!(f6).isNone)))]) := by kernel_rfl
@[go_sem] theorem c90_r3 (f6 : Option Addr) (K : Env → W) : RP c90 3 [(6, .pointer f6)] K =
    (nn f6 fun y1_ => (st ((y1_.add 6)) (.bool true) (K [(6, .pointer f6)]))) := by kernel_rfl
@[go_sem] theorem c90_r4 (f6 : Option Addr) (K : Env → W) : RP c90 4 [(6, .pointer f6)] K =
    (K [(4, .pointer f6), (5, .int .i64 (0 : Int))]) := by kernel_rfl
@[go_sem] theorem c90_r5 (p0 : Option Addr) (id1 : Int) (K : Env → W) : RP c90 5 [(0, .pointer p0), (1, .int .i64 id1)] K =
    (nn p0 fun y1_ => (ld eP y1_ fun (y2_ : Option Addr) => (cal (eT3 eS eI eI) Tryz.prog 65 #[.pointer y2_, .int .i64 id1] fun (y3_ : ((List UInt8) × Int × Int)) => (K [(0, .pointer p0), (1, .int .i64 id1), (7, str y3_.1), (8, .int .i64 y3_.2.1), (9, .int .i64 y3_.2.2)])))) := by kernel_rfl
@[go_sem] theorem c90_r6 (p0 : Option Addr) (id1 : Int) (text7 : List UInt8) (lsn8 : Int) (e9 : Int) (K : Env → W) : RP c90 6 [(0, .pointer p0), (1, .int .i64 id1), (7, str text7), (8, .int .i64 lsn8), (9, .int .i64 e9)] K =
    (cnd ((e9 != (0 : Int))) (cnd ((e9 != (8 : Int))) (K [(0, .pointer p0), (1, .int .i64 id1), (7, str text7), (8, .int .i64 lsn8), (9, .int .i64 e9), (40, .bool ((e9 != (10 : Int))))]) (K [(0, .pointer p0), (1, .int .i64 id1), (7, str text7), (8, .int .i64 lsn8), (9, .int .i64 e9), (40, .bool false)])) (K [(0, .pointer p0), (1, .int .i64 id1), (7, str text7), (8, .int .i64 lsn8), (9, .int .i64 e9), (40, .bool false)])) := by kernel_rfl
@[go_sem] theorem c90_r7 (e9 : Int) (K : Env → W) : RP c90 7 [(9, .int .i64 e9)] K =
    (K [(4, .pointer none), (5, .int .i64 e9)]) := by kernel_rfl
@[go_sem] theorem c90_r8 (p0 : Option Addr) (id1 : Int) (text7 : List UInt8) (lsn8 : Int) (K : Env → W) : RP c90 8 [(0, .pointer p0), (1, .int .i64 id1), (7, str text7), (8, .int .i64 lsn8)] K =
    (cal (eT2 eP eI) Tryz.prog 120 #[.pointer p0] fun (y1_ : ((Option Addr) × Int)) => (K [(0, .pointer p0), (1, .int .i64 id1), (7, str text7), (8, .int .i64 lsn8), (9, .int .i64 y1_.2), (10, .pointer y1_.1)])) := by kernel_rfl
@[go_sem] theorem c90_r9 (p0 : Option Addr) (id1 : Int) (text7 : List UInt8) (lsn8 : Int) (e9 : Int) (f10 : Option Addr) (K : Env → W) : RP c90 9 [(0, .pointer p0), (1, .int .i64 id1), (7, str text7), (8, .int .i64 lsn8), (9, .int .i64 e9), (10, .pointer f10)] K =
    (K [(0, .pointer p0), (1, .int .i64 id1), (7, str text7), (8, .int .i64 lsn8), (9, .int .i64 e9), (10, .pointer f10), (48, .bool ((e9 != (0 : Int))))]) := by kernel_rfl
@[go_sem] theorem c90_r10 (e9 : Int) (K : Env → W) : RP c90 10 [(9, .int .i64 e9)] K =
    (K [(4, .pointer none), (5, .int .i64 e9)]) := by kernel_rfl
@[go_sem] theorem c90_r11 (p0 : Option Addr) (id1 : Int) (text7 : List UInt8) (lsn8 : Int) (f10 : Option Addr) (K : Env → W) : RP c90 11 [(0, .pointer p0), (1, .int .i64 id1), (7, str text7), (8, .int .i64 lsn8), (10, .pointer f10)] K =
    (nn f10 fun y1_ => (ld eB ((y1_.add 7)) fun (y2_ : Bool) => (K [(0, .pointer p0), (1, .int .i64 id1), (7, str text7), (8, .int .i64 lsn8), (10, .pointer f10), (53, .bool y2_)]))) := by kernel_rfl
@[go_sem] theorem c90_r12 (p0 : Option Addr) (id1 : Int) (text7 : List UInt8) (lsn8 : Int) (f10 : Option Addr) (K : Env → W) : RP c90 12 [(0, .pointer p0), (1, .int .i64 id1), (7, str text7), (8, .int .i64 lsn8), (10, .pointer f10)] K =
    (cal eI Tryz.prog 95 #[.pointer p0, .pointer f10] fun (y1_ : Int) => (K [(0, .pointer p0), (1, .int .i64 id1), (7, str text7), (8, .int .i64 lsn8), (10, .pointer f10), (11, .int .i64 y1_)])) := by kernel_rfl
@[go_sem] theorem c90_r13 (p0 : Option Addr) (id1 : Int) (text7 : List UInt8) (lsn8 : Int) (f10 : Option Addr) (e11 : Int) (K : Env → W) : RP c90 13 [(0, .pointer p0), (1, .int .i64 id1), (7, str text7), (8, .int .i64 lsn8), (10, .pointer f10), (11, .int .i64 e11)] K =
    (K [(0, .pointer p0), (1, .int .i64 id1), (7, str text7), (8, .int .i64 lsn8), (10, .pointer f10), (11, .int .i64 e11), (58, .bool ((e11 != (0 : Int))))]) := by kernel_rfl
@[go_sem] theorem c90_r14 (e11 : Int) (K : Env → W) : RP c90 14 [(11, .int .i64 e11)] K =
    (K [(4, .pointer none), (5, .int .i64 e11)]) := by kernel_rfl
@[go_sem] theorem c90_r15 (p0 : Option Addr) (id1 : Int) (text7 : List UInt8) (lsn8 : Int) (f10 : Option Addr) (K : Env → W) : RP c90 15 [(0, .pointer p0), (1, .int .i64 id1), (7, str text7), (8, .int .i64 lsn8), (10, .pointer f10)] K =
    (nn f10 fun y1_ => (stl [str ((((⟨(⟨text7, lsn8⟩ : pool_content), id1, false, (0 : Int), (0 : Int), true, true⟩ : pool_frame)).content).text), .int .i64 ((((⟨(⟨text7, lsn8⟩ : pool_content), id1, false, (0 : Int), (0 : Int), true, true⟩ : pool_frame)).content).lsn), .int .i64 (((⟨(⟨text7, lsn8⟩ : pool_content), id1, false, (0 : Int), (0 : Int), true, true⟩ : pool_frame)).id), .bool (((⟨(⟨text7, lsn8⟩ : pool_content), id1, false, (0 : Int), (0 : Int), true, true⟩ : pool_frame)).dirty), .int .i64 (((⟨(⟨text7, lsn8⟩ : pool_content), id1, false, (0 : Int), (0 : Int), true, true⟩ : pool_frame)).first), .int .i64 (((⟨(⟨text7, lsn8⟩ : pool_content), id1, false, (0 : Int), (0 : Int), true, true⟩ : pool_frame)).pins), .bool (((⟨(⟨text7, lsn8⟩ : pool_content), id1, false, (0 : Int), (0 : Int), true, true⟩ : pool_frame)).used), .bool (((⟨(⟨text7, lsn8⟩ : pool_content), id1, false, (0 : Int), (0 : Int), true, true⟩ : pool_frame)).filled)] y1_ 0 (K [(0, .pointer p0), (10, .pointer f10)]))) := by kernel_rfl
@[go_sem] theorem c90_r16 (p0 : Option Addr) (f10 : Option Addr) (K : Env → W) : RP c90 16 [(0, .pointer p0), (10, .pointer f10)] K =
    (nn p0 fun y1_ => (ld eI ((y1_.add 5)) fun (y2_ : Int) => (nn p0 fun y3_ => (st ((y3_.add 5)) (.int .i64 ((IntKind.wrap .i64 (y2_ + (1 : Int))))) (K [(10, .pointer f10)]))))) := by kernel_rfl
@[go_sem] theorem c90_r17 (f10 : Option Addr) (K : Env → W) : RP c90 17 [(10, .pointer f10)] K =
    (K [(4, .pointer f10), (5, .int .i64 (0 : Int))]) := by kernel_rfl
@[go_sem] theorem c90_o : c90.lo 1000000 = [4, 5] := rfl
@[go_sem] theorem c90_e (t4 : Option Addr) (t5 : Int) (k : Value → W) : RTp c90 [(4, .pointer t4), (5, .int .i64 t5)] k = (k (.tuple #[.pointer t4, .int .i64 t5])) := by kernel_rfl
theorem c90_ok : (c90.P.follows .mixedOrders && okc c90 c90.body) = true := by kernel_rfl
theorem c90_fn {e : Enc} {args : Array Value} {G : e.α → W} {L : List HP} {ρ : Env} (hρ : envA 0 args.toList = ρ) (hs : Nat.ble args.size 75 = true) (h : E L (D c90 (.seq (.reg 0) (.seq (.seq (.reg 1) (.seq (.reg 2) (.cond (.tmp 16) (.seq (.reg 3) (.seq (.reg 4) (.ret))) (.skip)))) (.seq (.reg 5) (.seq (.seq (.reg 6) (.cond (.tmp 40) (.seq (.reg 7) (.ret)) (.skip))) (.seq (.reg 8) (.seq (.seq (.reg 9) (.cond (.tmp 48) (.seq (.reg 10) (.ret)) (.skip))) (.seq (.seq (.reg 11) (.cond (.tmp 53) (.seq (.reg 12) (.seq (.reg 13) (.cond (.tmp 58) (.seq (.reg 14) (.ret)) (.skip)))) (.skip))) (.seq (.reg 15) (.seq (.reg 16) (.seq (.reg 17) (.ret))))))))))) (fnQ c90 e G) ρ)) : E L (cal e Tryz.prog 90 args G) :=
  d_fn (c := c90) Tryz.func90 (by kernel_rfl) (by kernel_rfl) (by kernel_rfl) c90_ok (by kernel_rfl) (by kernel_rfl) hρ hs h
/-! (*gharry.pool.Pool).find -/
noncomputable def c91 : Cfg := { P := Tryz.prog, n := 35, T := TT, body := (Tryz.f91.body).getD .skip, res := Tryz.f91.results.toList, li := lk [] [(0, [0, 1]), (1, [0, 1]), (2, [0, 1, 11, 12]), (3, [0, 1, 11, 12]), (4, [0, 1, 5, 11, 12]), (5, [0, 1, 6, 11, 12]), (6, [6]), (7, [0, 1, 11, 12]), (8, [])], lo := lk [] [(0, [0, 1]), (1, [0, 1, 11, 12]), (2, [0, 1, 11, 12, 13]), (3, [0, 1, 5, 11, 12]), (4, [0, 1, 6, 11, 12]), (5, [0, 1, 6, 11, 12, 32]), (6, [4]), (7, [0, 1, 11, 12]), (8, [4]), (1000000, [4])], ord := lk (false, []) [] }
@[go_sem] theorem c91_i0 : c91.li 0 = [0, 1] := rfl
@[go_sem] theorem c91_i1 : c91.li 1 = [0, 1] := rfl
@[go_sem] theorem c91_i2 : c91.li 2 = [0, 1, 11, 12] := rfl
@[go_sem] theorem c91_i3 : c91.li 3 = [0, 1, 11, 12] := rfl
@[go_sem] theorem c91_i4 : c91.li 4 = [0, 1, 5, 11, 12] := rfl
@[go_sem] theorem c91_i5 : c91.li 5 = [0, 1, 6, 11, 12] := rfl
@[go_sem] theorem c91_i6 : c91.li 6 = [6] := rfl
@[go_sem] theorem c91_i7 : c91.li 7 = [0, 1, 11, 12] := rfl
@[go_sem] theorem c91_i8 : c91.li 8 = [] := rfl
@[go_sem] theorem c91_r0 (p0 : Option Addr) (id1 : Int) (K : Env → W) : RP c91 0 [(0, .pointer p0), (1, .int .i64 id1)] K =
    (K [(0, .pointer p0), (1, .int .i64 id1)]) := by kernel_rfl
@[go_sem] theorem c91_r1 (p0 : Option Addr) (id1 : Int) (K : Env → W) : RP c91 1 [(0, .pointer p0), (1, .int .i64 id1)] K =
    (nn p0 fun y1_ => (ld eSl ((y1_.add 2)) fun (y2_ : (Option Addr × Nat × Nat)) => (K [(0, .pointer p0), (1, .int .i64 id1), (11, .int .i64 ((y2_.2.1 : Int))), (12, .int .i64 (0 : Int))]))) := by kernel_rfl
@[go_sem] theorem c91_r2 (p0 : Option Addr) (id1 : Int) (t11 : Int) (t12 : Int) (K : Env → W) : RP c91 2 [(0, .pointer p0), (1, .int .i64 id1), (11, .int .i64 t11), (12, .int .i64 t12)] K =
    (K [(0, .pointer p0), (1, .int .i64 id1), (11, .int .i64 t11), (12, .int .i64 t12), (13, .bool ((decide (t12 < t11))))]) := by kernel_rfl
@[go_sem] theorem c91_r3 (p0 : Option Addr) (id1 : Int) (t11 : Int) (t12 : Int) (K : Env → W) : RP c91 3 [(0, .pointer p0), (1, .int .i64 id1), (11, .int .i64 t11), (12, .int .i64 t12)] K =
    (K [(0, .pointer p0), (1, .int .i64 id1), (5, .int .i64 t12), (11, .int .i64 t11), (12, .int .i64 t12)]) := by kernel_rfl
@[go_sem] theorem c91_r4 (p0 : Option Addr) (id1 : Int) (i5 : Int) (t11 : Int) (t12 : Int) (K : Env → W) : RP c91 4 [(0, .pointer p0), (1, .int .i64 id1), (5, .int .i64 i5), (11, .int .i64 t11), (12, .int .i64 t12)] K =
    (nn p0 fun y1_ => (ld eSl ((y1_.add 2)) fun (y2_ : (Option Addr × Nat × Nat)) => (rq (0 ≤ i5 ∧ i5 < (y2_.2.1 : Int)) (nn y2_.1 fun y3_ => (K [(0, .pointer p0), (1, .int .i64 id1), (6, .pointer (some ((Addr.add y3_ ((i5).toNat * 8))))), (11, .int .i64 t11), (12, .int .i64 t12)]))))) := by kernel_rfl
@[go_sem] theorem c91_r5 (p0 : Option Addr) (id1 : Int) (f6 : Addr) (t11 : Int) (t12 : Int) (K : Env → W) : RP c91 5 [(0, .pointer p0), (1, .int .i64 id1), (6, .pointer (some f6)), (11, .int .i64 t11), (12, .int .i64 t12)] K =
    (ld eB ((f6.add 7)) fun (y1_ : Bool) => (cnd y1_ (ld eI ((f6.add 2)) fun (y2_ : Int) => (K [(0, .pointer p0), (1, .int .i64 id1), (6, .pointer (some f6)), (11, .int .i64 t11), (12, .int .i64 t12), (32, .bool ((y2_ == id1)))])) (K [(0, .pointer p0), (1, .int .i64 id1), (6, .pointer (some f6)), (11, .int .i64 t11), (12, .int .i64 t12), (32, .bool false)]))) := by kernel_rfl
@[go_sem] theorem c91_r6 (f6 : Addr) (K : Env → W) : RP c91 6 [(6, .pointer (some f6))] K =
    (K [(4, .pointer (some f6))]) := by kernel_rfl
@[go_sem] theorem c91_r7 (p0 : Option Addr) (id1 : Int) (t11 : Int) (t12 : Int) (K : Env → W) : RP c91 7 [(0, .pointer p0), (1, .int .i64 id1), (11, .int .i64 t11), (12, .int .i64 t12)] K =
    (K [(0, .pointer p0), (1, .int .i64 id1), (11, .int .i64 t11), (12, .int .i64 ((IntKind.wrap .i64 (t12 + (1 : Int)))))]) := by kernel_rfl
@[go_sem] theorem c91_r8 (K : Env → W) : RP c91 8 [] K =
    (K [(4, .pointer none)]) := by kernel_rfl
@[go_sem] theorem c91_o : c91.lo 1000000 = [4] := rfl
@[go_sem] theorem c91_e (t4 : Option Addr) (k : Value → W) : RTp c91 [(4, .pointer t4)] k = (k (.pointer t4)) := by kernel_rfl
theorem c91_ok : (c91.P.follows .mixedOrders && okc c91 c91.body) = true := by kernel_rfl
theorem c91_fn {e : Enc} {args : Array Value} {G : e.α → W} {L : List HP} {ρ : Env} (hρ : envA 0 args.toList = ρ) (hs : Nat.ble args.size 35 = true) (h : E L (D c91 (.seq (.reg 0) (.seq (.seq (.reg 1) (.block 0 (.loop (.seq (.reg 2) (.seq (.cond (.tmp 13) (.skip) (.exit 0)) (.seq (.block 1 (.seq (.reg 3) (.seq (.reg 4) (.seq (.reg 5) (.cond (.tmp 32) (.seq (.reg 6) (.ret)) (.skip)))))) (.reg 7))))))) (.seq (.reg 8) (.ret)))) (fnQ c91 e G) ρ)) : E L (cal e Tryz.prog 91 args G) :=
  d_fn (c := c91) Tryz.func91 (by kernel_rfl) (by kernel_rfl) (by kernel_rfl) c91_ok (by kernel_rfl) (by kernel_rfl) hρ hs h
-- loop (first region 2): live slots 0:p0 1:id1 11:t11 12:t12, of which it writes [12]
/-! (*gharry.pool.Pool).save -/
noncomputable def c95 : Cfg := { P := Tryz.prog, n := 69, T := TT, body := (Tryz.f95.body).getD .skip, res := Tryz.f95.results.toList, li := lk [] [(0, [0, 1]), (1, [0, 1]), (2, []), (3, [0, 1]), (4, [0, 1, 5]), (5, [5]), (6, [0, 1]), (7, [0, 1, 6]), (8, [6]), (9, [0, 1]), (10, [0, 1, 7]), (11, [7]), (12, [0, 1]), (13, [0]), (14, [])], lo := lk [] [(0, [0, 1]), (1, [0, 1, 12]), (2, [4]), (3, [0, 1, 5]), (4, [0, 1, 5, 24]), (5, [4]), (6, [0, 1, 6]), (7, [0, 1, 6, 46]), (8, [4]), (9, [0, 1, 7]), (10, [0, 1, 7, 54]), (11, [4]), (12, [0]), (13, []), (14, [4]), (1000000, [4])], ord := lk (false, []) [(3, (true, [(0, 1), (1, 1), (2, 1), (3, 0), (4, 1), (5, 1), (6, 1), (7, 1), (8, 0), (9, 4), (10, 1)])), (6, (true, [(0, 1), (1, 1), (2, 1), (3, 0), (4, 1), (5, 1), (6, 1), (7, 0), (8, 1), (9, 1), (10, 1), (11, 1), (12, 0), (13, 1), (14, 1), (15, 1), (16, 1), (17, 0), (18, 4), (19, 1)]))] }
@[go_sem] theorem c95_i0 : c95.li 0 = [0, 1] := rfl
@[go_sem] theorem c95_i1 : c95.li 1 = [0, 1] := rfl
@[go_sem] theorem c95_i2 : c95.li 2 = [] := rfl
@[go_sem] theorem c95_i3 : c95.li 3 = [0, 1] := rfl
@[go_sem] theorem c95_i4 : c95.li 4 = [0, 1, 5] := rfl
@[go_sem] theorem c95_i5 : c95.li 5 = [5] := rfl
@[go_sem] theorem c95_i6 : c95.li 6 = [0, 1] := rfl
@[go_sem] theorem c95_i7 : c95.li 7 = [0, 1, 6] := rfl
@[go_sem] theorem c95_i8 : c95.li 8 = [6] := rfl
@[go_sem] theorem c95_i9 : c95.li 9 = [0, 1] := rfl
@[go_sem] theorem c95_i10 : c95.li 10 = [0, 1, 7] := rfl
@[go_sem] theorem c95_i11 : c95.li 11 = [7] := rfl
@[go_sem] theorem c95_i12 : c95.li 12 = [0, 1] := rfl
@[go_sem] theorem c95_i13 : c95.li 13 = [0] := rfl
@[go_sem] theorem c95_i14 : c95.li 14 = [] := rfl
@[go_sem] theorem c95_r0 (p0 : Option Addr) (f1 : Option Addr) (K : Env → W) : RP c95 0 [(0, .pointer p0), (1, .pointer f1)] K =
    (K [(0, .pointer p0), (1, .pointer f1)]) := by kernel_rfl
@[go_sem] theorem c95_r1 (p0 : Option Addr) (f1 : Option Addr) (K : Env → W) : RP c95 1 [(0, .pointer p0), (1, .pointer f1)] K =
    (nn f1 fun y1_ => (ld eB ((y1_.add 3)) fun (y2_ : Bool) => (K [(0, .pointer p0), (1, .pointer f1), (12, .bool ((!y2_)))]))) := by kernel_rfl
@[go_sem] theorem c95_r2 (K : Env → W) : RP c95 2 [] K =
    (K [(4, .int .i64 (0 : Int))]) := by kernel_rfl
@[go_sem] theorem c95_r3 (p0 : Option Addr) (f1 : Option Addr) (K : Env → W) : RP c95 3 [(0, .pointer p0), (1, .pointer f1)] K =
    (ph fun S0 => (nn p0 fun y1_ => (ldq S0 eP ((y1_.add 1)) fun (y2_ : Option Addr) => (nn f1 fun y3_ => (ldq S0 eI ((y3_.add 1)) fun (y4_ : Int) => (cal eI Tryz.prog 40 #[.pointer y2_, .int .i64 y4_] fun (y5_ : Int) => (K [(0, .pointer p0), (1, .pointer f1), (5, .int .i64 y5_)]))))))) := by kernel_rfl
@[go_sem] theorem c95_r4 (p0 : Option Addr) (f1 : Option Addr) (e5 : Int) (K : Env → W) : RP c95 4 [(0, .pointer p0), (1, .pointer f1), (5, .int .i64 e5)] K =
    (K [(0, .pointer p0), (1, .pointer f1), (5, .int .i64 e5), (24, .bool ((e5 != (0 : Int))))]) := by kernel_rfl
@[go_sem] theorem c95_r5 (e5 : Int) (K : Env → W) : RP c95 5 [(5, .int .i64 e5)] K =
    (K [(4, .int .i64 e5)]) := by kernel_rfl
@[go_sem] theorem c95_r6 (p0 : Option Addr) (f1 : Option Addr) (K : Env → W) : RP c95 6 [(0, .pointer p0), (1, .pointer f1)] K =
    (ph fun S0 => (nn p0 fun y1_ => (ldq S0 eP y1_ fun (y2_ : Option Addr) => (nn f1 fun y3_ => (ldq S0 eI ((y3_.add 2)) fun (y4_ : Int) => (nn f1 fun y5_ => (ldq S0 eS y5_ fun (y6_ : List UInt8) => (nn f1 fun y7_ => (ldq S0 eI ((y7_.add 1)) fun (y8_ : Int) => (cal eI Tryz.prog 121 #[.pointer y2_, .int .i64 y4_, str y6_, .int .i64 y8_] fun (y9_ : Int) => (K [(0, .pointer p0), (1, .pointer f1), (6, .int .i64 y9_)]))))))))))) := by kernel_rfl
@[go_sem] theorem c95_r7 (p0 : Option Addr) (f1 : Option Addr) (e6 : Int) (K : Env → W) : RP c95 7 [(0, .pointer p0), (1, .pointer f1), (6, .int .i64 e6)] K =
    (K [(0, .pointer p0), (1, .pointer f1), (6, .int .i64 e6), (46, .bool ((e6 != (0 : Int))))]) := by kernel_rfl
@[go_sem] theorem c95_r8 (e6 : Int) (K : Env → W) : RP c95 8 [(6, .int .i64 e6)] K =
    (K [(4, .int .i64 e6)]) := by kernel_rfl
@[go_sem] theorem c95_r9 (p0 : Option Addr) (f1 : Option Addr) (K : Env → W) : RP c95 9 [(0, .pointer p0), (1, .pointer f1)] K =
    (nn p0 fun y1_ => (ld eP y1_ fun (y2_ : Option Addr) => (cal eI Tryz.prog 122 #[.pointer y2_] fun (y3_ : Int) => (K [(0, .pointer p0), (1, .pointer f1), (7, .int .i64 y3_)])))) := by kernel_rfl
@[go_sem] theorem c95_r10 (p0 : Option Addr) (f1 : Option Addr) (e7 : Int) (K : Env → W) : RP c95 10 [(0, .pointer p0), (1, .pointer f1), (7, .int .i64 e7)] K =
    (K [(0, .pointer p0), (1, .pointer f1), (7, .int .i64 e7), (54, .bool ((e7 != (0 : Int))))]) := by kernel_rfl
@[go_sem] theorem c95_r11 (e7 : Int) (K : Env → W) : RP c95 11 [(7, .int .i64 e7)] K =
    (K [(4, .int .i64 e7)]) := by kernel_rfl
@[go_sem] theorem c95_r12 (p0 : Option Addr) (f1 : Option Addr) (K : Env → W) : RP c95 12 [(0, .pointer p0), (1, .pointer f1)] K =
    (nn f1 fun y1_ => (st ((y1_.add 3)) (.bool false) (nn f1 fun y2_ => (st ((y2_.add 4)) (.int .i64 (0 : Int)) (K [(0, .pointer p0)]))))) := by kernel_rfl
@[go_sem] theorem c95_r13 (p0 : Option Addr) (K : Env → W) : RP c95 13 [(0, .pointer p0)] K =
    (nn p0 fun y1_ => (ld eI ((y1_.add 4)) fun (y2_ : Int) => (nn p0 fun y3_ => (st ((y3_.add 4)) (.int .i64 ((IntKind.wrap .i64 (y2_ + (1 : Int))))) (K []))))) := by kernel_rfl
@[go_sem] theorem c95_r14 (K : Env → W) : RP c95 14 [] K =
    (K [(4, .int .i64 (0 : Int))]) := by kernel_rfl
@[go_sem] theorem c95_o : c95.lo 1000000 = [4] := rfl
@[go_sem] theorem c95_e (t4 : Int) (k : Value → W) : RTp c95 [(4, .int .i64 t4)] k = (k (.int .i64 t4)) := by kernel_rfl
theorem c95_ok : (c95.P.follows .mixedOrders && okc c95 c95.body) = true := by kernel_rfl
theorem c95_fn {e : Enc} {args : Array Value} {G : e.α → W} {L : List HP} {ρ : Env} (hρ : envA 0 args.toList = ρ) (hs : Nat.ble args.size 69 = true) (h : E L (D c95 (.seq (.reg 0) (.seq (.seq (.reg 1) (.cond (.tmp 12) (.seq (.reg 2) (.ret)) (.skip))) (.seq (.seq (.reg 3) (.seq (.reg 4) (.cond (.tmp 24) (.seq (.reg 5) (.ret)) (.skip)))) (.seq (.seq (.reg 6) (.seq (.reg 7) (.cond (.tmp 46) (.seq (.reg 8) (.ret)) (.skip)))) (.seq (.seq (.reg 9) (.seq (.reg 10) (.cond (.tmp 54) (.seq (.reg 11) (.ret)) (.skip)))) (.seq (.reg 12) (.seq (.reg 13) (.seq (.reg 14) (.ret))))))))) (fnQ c95 e G) ρ)) : E L (cal e Tryz.prog 95 args G) :=
  d_fn (c := c95) Tryz.func95 (by kernel_rfl) (by kernel_rfl) (by kernel_rfl) c95_ok (by kernel_rfl) (by kernel_rfl) hρ hs h
/-! (*gharry.pool.Pool).victim -/
noncomputable def c120 : Cfg := { P := Tryz.prog, n := 60, T := TT, body := (Tryz.f120.body).getD .skip, res := Tryz.f120.results.toList, li := lk [] [(0, [0]), (1, [0]), (2, [0, 11, 12]), (3, [0, 11, 12]), (4, [0, 4, 11, 12]), (5, [4]), (6, [0, 4, 11, 12]), (7, [4]), (8, [0, 4, 11, 12]), (9, [0, 4, 11, 12]), (10, [0, 4, 11, 12]), (11, [0, 11, 12]), (12, [])], lo := lk [] [(0, [0]), (1, [0, 11, 12]), (2, [0, 11, 12, 13]), (3, [0, 4, 11, 12]), (4, [0, 4, 11, 12]), (5, [2, 3]), (6, [0, 4, 11, 12, 38]), (7, [2, 3]), (8, [0, 4, 11, 12, 45]), (9, [0, 4, 11, 12, 51]), (10, [0, 11, 12]), (11, [0, 11, 12]), (12, [2, 3]), (1000000, [2, 3])], ord := lk (false, []) [(3, (true, [(0, 1), (1, 1), (2, 1), (3, 0), (4, 1), (5, 1), (6, 1), (7, 0), (8, 1), (9, 1)])), (4, (true, [(0, 1), (1, 1), (2, 1), (3, 1), (4, 0), (5, 1), (6, 1), (7, 1), (8, 1), (9, 0), (10, 1), (11, 1), (12, 1), (13, 1), (14, 4)]))] }
@[go_sem] theorem c120_i0 : c120.li 0 = [0] := rfl
@[go_sem] theorem c120_i1 : c120.li 1 = [0] := rfl
@[go_sem] theorem c120_i2 : c120.li 2 = [0, 11, 12] := rfl
@[go_sem] theorem c120_i3 : c120.li 3 = [0, 11, 12] := rfl
@[go_sem] theorem c120_i4 : c120.li 4 = [0, 4, 11, 12] := rfl
@[go_sem] theorem c120_i5 : c120.li 5 = [4] := rfl
@[go_sem] theorem c120_i6 : c120.li 6 = [0, 4, 11, 12] := rfl
@[go_sem] theorem c120_i7 : c120.li 7 = [4] := rfl
@[go_sem] theorem c120_i8 : c120.li 8 = [0, 4, 11, 12] := rfl
@[go_sem] theorem c120_i9 : c120.li 9 = [0, 4, 11, 12] := rfl
@[go_sem] theorem c120_i10 : c120.li 10 = [0, 4, 11, 12] := rfl
@[go_sem] theorem c120_i11 : c120.li 11 = [0, 11, 12] := rfl
@[go_sem] theorem c120_i12 : c120.li 12 = [] := rfl
@[go_sem] theorem c120_r0 (p0 : Option Addr) (K : Env → W) : RP c120 0 [(0, .pointer p0)] K =
    (K [(0, .pointer p0)]) := by kernel_rfl
@[go_sem] theorem c120_r1 (p0 : Option Addr) (K : Env → W) : RP c120 1 [(0, .pointer p0)] K =
    (nn p0 fun y1_ => (ld eSl ((y1_.add 2)) fun (y2_ : (Option Addr × Nat × Nat)) => (K [(0, .pointer p0), (11, .int .i64 ((IntKind.wrap .i64 ((IntKind.wrap .i64 ((2 : Int) * (y2_.2.1 : Int))) + (1 : Int))))), (12, .int .i64 (0 : Int))]))) := by kernel_rfl
@[go_sem] theorem c120_r2 (p0 : Option Addr) (t11 : Int) (t12 : Int) (K : Env → W) : RP c120 2 [(0, .pointer p0), (11, .int .i64 t11), (12, .int .i64 t12)] K =
    (K [(0, .pointer p0), (11, .int .i64 t11), (12, .int .i64 t12), (13, .bool ((decide (t12 < t11))))]) := by kernel_rfl
@[go_sem] theorem c120_r3 (p0 : Option Addr) (t11 : Int) (t12 : Int) (K : Env → W) : RP c120 3 [(0, .pointer p0), (11, .int .i64 t11), (12, .int .i64 t12)] K =
    (ph fun S0 => (nn p0 fun y1_ => (ldq S0 eSl ((y1_.add 2)) fun (y2_ : (Option Addr × Nat × Nat)) => (nn p0 fun y3_ => (ldq S0 eI ((y3_.add 3)) fun (y4_ : Int) => (rq (0 ≤ y4_ ∧ y4_ < (y2_.2.1 : Int)) (nn y2_.1 fun y5_ => (K [(0, .pointer p0), (4, .pointer (some ((Addr.add y5_ ((y4_).toNat * 8))))), (11, .int .i64 t11), (12, .int .i64 t12)])))))))) := by kernel_rfl
@[go_sem] theorem c120_r4 (p0 : Option Addr) (f4 : Addr) (t11 : Int) (t12 : Int) (K : Env → W) : RP c120 4 [(0, .pointer p0), (4, .pointer (some f4)), (11, .int .i64 t11), (12, .int .i64 t12)] K =
    (ph fun S0 => (nn p0 fun y1_ => (ldq S0 eI ((y1_.add 3)) fun (y2_ : Int) => (nn p0 fun y3_ => (ldq S0 eSl ((y3_.add 2)) fun (y4_ : (Option Addr × Nat × Nat)) => (rq ((y4_.2.1 : Int) ≠ 0) (nn p0 fun y5_ => (st ((y5_.add 3)) (.int .i64 ((((IntKind.wrap .i64 (y2_ + (1 : Int)))).tmod ((y4_.2.1 : Int))))) (K [(0, .pointer p0), (4, .pointer (some f4)), (11, .int .i64 t11), (12, .int .i64 t12)]))))))))) := by kernel_rfl
@[go_sem] theorem c120_r5 (f4 : Addr) (K : Env → W) : RP c120 5 [(4, .pointer (some f4))] K =
    (K [(2, .pointer (some f4)), (3, .int .i64 (0 : Int))]) := by kernel_rfl
@[go_sem] theorem c120_r6 (p0 : Option Addr) (f4 : Addr) (t11 : Int) (t12 : Int) (K : Env → W) : RP c120 6 [(0, .pointer p0), (4, .pointer (some f4)), (11, .int .i64 t11), (12, .int .i64 t12)] K =
    (ld eB ((f4.add 7)) fun (y1_ : Bool) => (K [(0, .pointer p0), (4, .pointer (some f4)), (11, .int .i64 t11), (12, .int .i64 t12), (38, .bool ((!y1_)))])) := by kernel_rfl
@[go_sem] theorem c120_r7 (f4 : Addr) (K : Env → W) : RP c120 7 [(4, .pointer (some f4))] K =
    (K [(2, .pointer (some f4)), (3, .int .i64 (0 : Int))]) := by kernel_rfl
@[go_sem] theorem c120_r8 (p0 : Option Addr) (f4 : Addr) (t11 : Int) (t12 : Int) (K : Env → W) : RP c120 8 [(0, .pointer p0), (4, .pointer (some f4)), (11, .int .i64 t11), (12, .int .i64 t12)] K =
    (ld eI ((f4.add 5)) fun (y1_ : Int) => (K [(0, .pointer p0), (4, .pointer (some f4)), (11, .int .i64 t11), (12, .int .i64 t12), (45, .bool ((decide ((0 : Int) < y1_))))])) := by kernel_rfl
@[go_sem] theorem c120_r9 (p0 : Option Addr) (f4 : Addr) (t11 : Int) (t12 : Int) (K : Env → W) : RP c120 9 [(0, .pointer p0), (4, .pointer (some f4)), (11, .int .i64 t11), (12, .int .i64 t12)] K =
    (ld eB ((f4.add 6)) fun (y1_ : Bool) => (K [(0, .pointer p0), (4, .pointer (some f4)), (11, .int .i64 t11), (12, .int .i64 t12), (51, .bool y1_)])) := by kernel_rfl
@[go_sem] theorem c120_r10 (p0 : Option Addr) (f4 : Addr) (t11 : Int) (t12 : Int) (K : Env → W) : RP c120 10 [(0, .pointer p0), (4, .pointer (some f4)), (11, .int .i64 t11), (12, .int .i64 t12)] K =
    (st ((f4.add 6)) (.bool false) (K [(0, .pointer p0), (11, .int .i64 t11), (12, .int .i64 t12)])) := by kernel_rfl
@[go_sem] theorem c120_r11 (p0 : Option Addr) (t11 : Int) (t12 : Int) (K : Env → W) : RP c120 11 [(0, .pointer p0), (11, .int .i64 t11), (12, .int .i64 t12)] K =
    (K [(0, .pointer p0), (11, .int .i64 t11), (12, .int .i64 ((IntKind.wrap .i64 (t12 + (1 : Int)))))]) := by kernel_rfl
@[go_sem] theorem c120_r12 (K : Env → W) : RP c120 12 [] K =
    (K [(2, .pointer none), (3, .int .i64 (7 : Int))]) := by kernel_rfl
@[go_sem] theorem c120_o : c120.lo 1000000 = [2, 3] := rfl
@[go_sem] theorem c120_e (t2 : Option Addr) (t3 : Int) (k : Value → W) : RTp c120 [(2, .pointer t2), (3, .int .i64 t3)] k = (k (.tuple #[.pointer t2, .int .i64 t3])) := by kernel_rfl
theorem c120_ok : (c120.P.follows .mixedOrders && okc c120 c120.body) = true := by kernel_rfl
theorem c120_fn {e : Enc} {args : Array Value} {G : e.α → W} {L : List HP} {ρ : Env} (hρ : envA 0 args.toList = ρ) (hs : Nat.ble args.size 60 = true) (h : E L (D c120 (.seq (.reg 0) (.seq (.seq (.reg 1) (.block 0 (.loop (.seq (.reg 2) (.seq (.cond (.tmp 13) (.skip) (.exit 0)) (.seq (.block 1 (.seq (.reg 3) (.seq (.reg 4) (.block 2 (.seq (.reg 6) (.cond (.tmp 38) (.seq (.reg 7) (.ret)) (.seq (.reg 8) (.cond (.tmp 45) (.skip) (.seq (.reg 9) (.cond (.tmp 51) (.reg 10) (.seq (.reg 5) (.ret)))))))))))) (.reg 11))))))) (.seq (.reg 12) (.ret)))) (fnQ c120 e G) ρ)) : E L (cal e Tryz.prog 120 args G) :=
  d_fn (c := c120) Tryz.func120 (by kernel_rfl) (by kernel_rfl) (by kernel_rfl) c120_ok (by kernel_rfl) (by kernel_rfl) hρ hs h
-- loop (first region 2): live slots 0:p0 11:t11 12:t12, of which it writes [12]
end Go.Sp
/- The pool: what lies in memory; find, victim. -/
namespace Go.Sp
open Go Go.Proofs
set_option linter.unusedSimpArgs false
set_option linter.unusedVariables false
set_option maxRecDepth 10000
structure Fr where
  text : List UInt8
  lsn : Int
  id : Int
  dirty : Bool
  first : Int
  pins : Int
  used : Bool
  filled : Bool
abbrev cFr (f : Fr) : List Value := [str f.text, .int .i64 f.lsn, .int .i64 f.id, .bool f.dirty, .int .i64 f.first, .int .i64 f.pins, .bool f.used, .bool f.filled]
theorem cFr_len (f : Fr) : (cFr f).length = 8 := rfl
structure Po where
  q : Nat
  fb : Nat
  st : Nat
  lg : Nat
  fs : List Fr
  hand : Nat
  writes : Int
  loads : Int
abbrev ppt (P : Po) : HP := ar P.q 96 [.pointer (some ⟨P.st, 0, none⟩), .pointer (some ⟨P.lg, 0, none⟩), .slice (some ⟨P.fb, 0, none⟩) P.fs.length P.fs.length, .int .i64 (P.hand : Int), .int .i64 P.writes, .int .i64 P.loads]
abbrev pfs (P : Po) : HP := ar P.fb 134 (P.fs.flatMap cFr)
abbrev Po.p (P : Po) : Value := .pointer (some ⟨P.q, 0, none⟩)
abbrev Po.f (P : Po) (i : Nat) : Addr := ⟨P.fb, i * 8, none⟩
structure Po.ok (P : Po) : Prop where
  n2 : 2 ≤ P.fs.length
  n64 : P.fs.length ≤ 64
  h : P.hand < P.fs.length
theorem g89 (P : Po) (h : P.ok) : Fp eB Tryz.prog 89 #[P.p] [ppt P] false := fun L => by
  have := h.n2
  refine c89_fn rfl rfl ?_
  repeat' ((fail_if_success with_reducible refine nph ?_); first | (with_reducible first | (refine d_seq ?_; intro K hK) | (refine hK _ _ ?_; clear hK K) | (refine SG.p ?_; try intro b)) | ((with_reducible refine SC.p ?_); refine And.intro ?_ ?_) <;> intro hc <;> try simp only [push_cast, Int.reduceEq, Int.reduceLT, Int.reduceLE, Int.reduceNe] at hc | with_reducible refine r_rq (by first | decide | omega) ?_ | ((with_reducible refine SL.p ?_); first | refine ⟨_, rfl, ?_⟩ | refine ⟨_, _, _, rfl, ?_⟩ | (refine ⟨?_, rfl, ?_⟩; focus (simp; done))) | ((with_reducible first | apply i_ldn | apply i_ldnq); exact rfl; exact rfl; exact rfl) | ((try with_reducible refine d_reg ?_); simp only [go_sem, Nat.reduceAdd, Nat.reduceEqDiff, Int.reduceToNat, Nat.reduceMul, Nat.reduceSub]) | clear hK K)
  (with_reducible first | apply i_ret0 | apply i_ret2 | apply i_ret3 | apply i_ret); exact rfl
  rw [beq_eq_false_iff_ne]
  omega
def fndf (id : Int) : List Fr → Nat → Option Nat
  | [], _ => none
  | f :: r, i => if f.filled = true ∧ f.id = id then some i else fndf id r (i + 1)
def Po.find (P : Po) (id : Int) : Option Nat := fndf id P.fs 0
set_option maxHeartbeats 1000000 in
theorem g91 (P : Po) (h : P.ok) (id : Int) : Fp eP Tryz.prog 91 #[P.p, .int .i64 id] [ppt P, pfs P] ((P.find id).map P.f) := fun L => by
  have h64 := h.n64
  refine c91_fn rfl rfl ?_
  generalize hB : P.find id = B
  repeat' ((fail_if_success with_reducible refine nph ?_); first | (with_reducible first | (refine d_seq ?_; intro K hK) | (refine hK _ _ ?_; clear hK K) | (refine SG.p ?_; try intro b)) | ((with_reducible refine SC.p ?_); refine And.intro ?_ ?_) <;> intro hc <;> try simp only [push_cast, Int.reduceEq, Int.reduceLT, Int.reduceLE, Int.reduceNe] at hc | with_reducible refine r_rq (by first | decide | omega) ?_ | ((with_reducible refine SL.p ?_); first | refine ⟨_, rfl, ?_⟩ | refine ⟨_, _, _, rfl, ?_⟩ | (refine ⟨?_, rfl, ?_⟩; focus (simp; done))) | ((with_reducible first | apply i_ldn | apply i_ldnq); exact rfl; exact rfl; exact rfl) | ((try with_reducible refine d_reg ?_); simp only [go_sem, Nat.reduceAdd, Nat.reduceEqDiff, Int.reduceToNat, Nat.reduceMul, Nat.reduceSub]) | clear hK K)
  refine d_lp [0, 1, 11, 12] (fun i : Nat => [(0, .pointer (some ⟨P.q, 0, none⟩)), (1, .int .i64 id), (11, .int .i64 (P.fs.length : Int)), (12, .int .i64 (i : Int))])
    (fun _ => ppt P :: pfs P :: L) (fun i => i ≤ P.fs.length ∧ fndf id (P.fs.drop i) i = B) (fun i => P.fs.length - i) 0 rfl SX.p ⟨Nat.zero_le _, hB⟩ ?_
  rintro i ⟨hi, hf⟩
  by_cases hil : i < P.fs.length
  · have hx : P.fs[i]? = some P.fs[i] := List.getElem?_eq_getElem hil
    rw [List.drop_eq_getElem_cons hil] at hf
    generalize P.fs[i] = f at *
    unfold fndf at hf
    by_cases hc0 : f.filled = true ∧ f.id = id
    · rw [if_pos hc0] at hf
      subst hf
      repeat' ((fail_if_success with_reducible refine nph ?_); first | (with_reducible first | (refine d_seq ?_; intro K hK) | (refine hK _ _ ?_; clear hK K) | (refine SG.p ?_; try intro b)) | ((with_reducible refine SC.p ?_); refine And.intro ?_ ?_) <;> intro hc <;> try simp only [push_cast, Int.reduceEq, Int.reduceLT, Int.reduceLE, Int.reduceNe] at hc | with_reducible refine r_rq (by first | decide | omega) ?_ | ((with_reducible refine SL.p ?_); first | refine ⟨_, rfl, ?_⟩ | refine ⟨_, _, _, rfl, ?_⟩ | (refine ⟨?_, rfl, ?_⟩; focus (simp; done))) | ((with_reducible first | apply i_ldn | apply i_ldnq); exact rfl; exact rfl; exact rfl) | ((try with_reducible refine d_reg ?_); simp only [go_sem, Nat.reduceAdd, Nat.reduceEqDiff, Int.reduceToNat, Nat.reduceMul, Nat.reduceSub]) | clear hK K)
      all_goals try (exfalso; omega)
      refine i_fl (e := eB) (y := f.filled) cFr_len hx rfl ?_
      rw [hc0.1]
      repeat' ((fail_if_success with_reducible refine nph ?_); first | (with_reducible first | (refine d_seq ?_; intro K hK) | (refine hK _ _ ?_; clear hK K) | (refine SG.p ?_; try intro b)) | ((with_reducible refine SC.p ?_); refine And.intro ?_ ?_) <;> intro hc <;> try simp only [push_cast, Int.reduceEq, Int.reduceLT, Int.reduceLE, Int.reduceNe] at hc | with_reducible refine r_rq (by first | decide | omega) ?_ | ((with_reducible refine SL.p ?_); first | refine ⟨_, rfl, ?_⟩ | refine ⟨_, _, _, rfl, ?_⟩ | (refine ⟨?_, rfl, ?_⟩; focus (simp; done))) | ((with_reducible first | apply i_ldn | apply i_ldnq); exact rfl; exact rfl; exact rfl) | ((try with_reducible refine d_reg ?_); simp only [go_sem, Nat.reduceAdd, Nat.reduceEqDiff, Int.reduceToNat, Nat.reduceMul, Nat.reduceSub]) | clear hK K)
      all_goals try contradiction
      refine i_fl (e := eI) (y := f.id) cFr_len hx rfl ?_
      rw [hc0.2]
      repeat' ((fail_if_success with_reducible refine nph ?_); first | (with_reducible first | (refine d_seq ?_; intro K hK) | (refine hK _ _ ?_; clear hK K) | (refine SG.p ?_; try intro b)) | ((with_reducible refine SC.p ?_); refine And.intro ?_ ?_) <;> intro hc <;> try simp only [push_cast, Int.reduceEq, Int.reduceLT, Int.reduceLE, Int.reduceNe] at hc | with_reducible refine r_rq (by first | decide | omega) ?_ | ((with_reducible refine SL.p ?_); first | refine ⟨_, rfl, ?_⟩ | refine ⟨_, _, _, rfl, ?_⟩ | (refine ⟨?_, rfl, ?_⟩; focus (simp; done))) | ((with_reducible first | apply i_ldn | apply i_ldnq); exact rfl; exact rfl; exact rfl) | ((try with_reducible refine d_reg ?_); simp only [go_sem, Nat.reduceAdd, Nat.reduceEqDiff, Int.reduceToNat, Nat.reduceMul, Nat.reduceSub]) | clear hK K)
      all_goals try contradiction
      (with_reducible first | apply i_ret0 | apply i_ret2 | apply i_ret3 | apply i_ret); exact rfl
      rfl
    · rw [if_neg hc0] at hf
      repeat' ((fail_if_success with_reducible refine nph ?_); first | (with_reducible first | (refine d_seq ?_; intro K hK) | (refine hK _ _ ?_; clear hK K) | (refine SG.p ?_; try intro b)) | ((with_reducible refine SC.p ?_); refine And.intro ?_ ?_) <;> intro hc <;> try simp only [push_cast, Int.reduceEq, Int.reduceLT, Int.reduceLE, Int.reduceNe] at hc | with_reducible refine r_rq (by first | decide | omega) ?_ | ((with_reducible refine SL.p ?_); first | refine ⟨_, rfl, ?_⟩ | refine ⟨_, _, _, rfl, ?_⟩ | (refine ⟨?_, rfl, ?_⟩; focus (simp; done))) | ((with_reducible first | apply i_ldn | apply i_ldnq); exact rfl; exact rfl; exact rfl) | ((try with_reducible refine d_reg ?_); simp only [go_sem, Nat.reduceAdd, Nat.reduceEqDiff, Int.reduceToNat, Nat.reduceMul, Nat.reduceSub]) | clear hK K)
      all_goals try (exfalso; omega)
      refine i_fl (e := eB) (y := f.filled) cFr_len hx rfl ?_
      repeat' ((fail_if_success with_reducible refine nph ?_); first | (with_reducible first | (refine d_seq ?_; intro K hK) | (refine hK _ _ ?_; clear hK K) | (refine SG.p ?_; try intro b)) | ((with_reducible refine SC.p ?_); refine And.intro ?_ ?_) <;> intro hc <;> try simp only [push_cast, Int.reduceEq, Int.reduceLT, Int.reduceLE, Int.reduceNe] at hc | with_reducible refine r_rq (by first | decide | omega) ?_ | ((with_reducible refine SL.p ?_); first | refine ⟨_, rfl, ?_⟩ | refine ⟨_, _, _, rfl, ?_⟩ | (refine ⟨?_, rfl, ?_⟩; focus (simp; done))) | ((with_reducible first | apply i_ldn | apply i_ldnq); exact rfl; exact rfl; exact rfl) | ((try with_reducible refine d_reg ?_); simp only [go_sem, Nat.reduceAdd, Nat.reduceEqDiff, Int.reduceToNat, Nat.reduceMul, Nat.reduceSub]) | clear hK K)
      · refine i_fl (e := eI) (y := f.id) cFr_len hx rfl ?_
        repeat' ((fail_if_success with_reducible refine nph ?_); first | (with_reducible first | (refine d_seq ?_; intro K hK) | (refine hK _ _ ?_; clear hK K) | (refine SG.p ?_; try intro b)) | ((with_reducible refine SC.p ?_); refine And.intro ?_ ?_) <;> intro hc <;> try simp only [push_cast, Int.reduceEq, Int.reduceLT, Int.reduceLE, Int.reduceNe] at hc | with_reducible refine r_rq (by first | decide | omega) ?_ | ((with_reducible refine SL.p ?_); first | refine ⟨_, rfl, ?_⟩ | refine ⟨_, _, _, rfl, ?_⟩ | (refine ⟨?_, rfl, ?_⟩; focus (simp; done))) | ((with_reducible first | apply i_ldn | apply i_ldnq); exact rfl; exact rfl; exact rfl) | ((try with_reducible refine d_reg ?_); simp only [go_sem, Nat.reduceAdd, Nat.reduceEqDiff, Int.reduceToNat, Nat.reduceMul, Nat.reduceSub]) | clear hK K)
        · exact absurd ⟨by assumption, by assumption⟩ hc0
        · rw [w64 (by omega) (by omega)]
          exact i_bk (i + 1) rfl ⟨by omega, hf⟩ (by omega)
      · rw [w64 (by omega) (by omega)]
        exact i_bk (i + 1) rfl ⟨by omega, hf⟩ (by omega)
  · rw [List.drop_eq_nil_of_le (by omega)] at hf
    unfold fndf at hf
    subst hf
    repeat' ((fail_if_success with_reducible refine nph ?_); first | (with_reducible first | (refine d_seq ?_; intro K hK) | (refine hK _ _ ?_; clear hK K) | (refine SG.p ?_; try intro b)) | ((with_reducible refine SC.p ?_); refine And.intro ?_ ?_) <;> intro hc <;> try simp only [push_cast, Int.reduceEq, Int.reduceLT, Int.reduceLE, Int.reduceNe] at hc | with_reducible refine r_rq (by first | decide | omega) ?_ | ((with_reducible refine SL.p ?_); first | refine ⟨_, rfl, ?_⟩ | refine ⟨_, _, _, rfl, ?_⟩ | (refine ⟨?_, rfl, ?_⟩; focus (simp; done))) | ((with_reducible first | apply i_ldn | apply i_ldnq); exact rfl; exact rfl; exact rfl) | ((try with_reducible refine d_reg ?_); simp only [go_sem, Nat.reduceAdd, Nat.reduceEqDiff, Int.reduceToNat, Nat.reduceMul, Nat.reduceSub]) | clear hK K)
    all_goals try (exfalso; omega)
    (with_reducible first | apply i_ret0 | apply i_ret2 | apply i_ret3 | apply i_ret); exact rfl
    rfl
/-- The hand goes round. -/
def Po.turn (P : Po) : Po := { P with hand := (P.hand + 1) % P.fs.length }
def Po.at (P : Po) (i : Nat) : Fr := P.fs.getD i ⟨[], 0, 0, false, 0, 0, false, false⟩
def vic : Nat → Po → Option Nat × Po
  | 0, P => (none, P)
  | k + 1, P => if (P.at P.hand).filled = false then (some P.hand, P.turn) else if 0 < (P.at P.hand).pins then vic k P.turn
    else if (P.at P.hand).used = true then vic k { P.turn with fs := P.fs.set P.hand { P.at P.hand with used := false } } else (some P.hand, P.turn)
theorem turn_ok {P : Po} (h : P.ok) : P.turn.ok := ⟨h.n2, h.n64, Nat.mod_lt _ (by have := h.n2; show 0 < P.fs.length; omega)⟩
end Go.Sp
/- The pool: victim. -/
namespace Go.Sp
open Go Go.Proofs
set_option linter.unusedSimpArgs false
set_option linter.unusedVariables false
set_option maxRecDepth 10000
abbrev Po.wi (P : Po) (fs : List Fr) (h : Nat) : Po := { P with fs := fs, hand := h }
theorem vic_step {P : Po} {fs : List Fr} {h : Nat} {f : Fr} (hx : fs[h]? = some f) (k : Nat) : vic (k + 1) (P.wi fs h) = if f.filled = false then (some h, P.wi fs ((h + 1) % fs.length)) else if 0 < f.pins then vic k (P.wi fs ((h + 1) % fs.length))
    else if f.used = true then vic k (P.wi (fs.set h { f with used := false }) ((h + 1) % fs.length)) else (some h, P.wi fs ((h + 1) % fs.length)) := by
  have e : (P.wi fs h).at h = f := by
    unfold Po.at
    rw [List.getD_eq_getElem?_getD]
    show fs[h]?.getD _ = f
    rw [hx]
    rfl
  show (if ((P.wi fs h).at h).filled = false then _ else _) = _
  rw [e]
  rfl
set_option maxHeartbeats 2000000 in
theorem g120 (P : Po) (h : P.ok) : Fq (eT2 eP eI) Tryz.prog 120 #[P.p] [ppt P, pfs P] [ppt (vic (2 * P.fs.length + 1) P).2, pfs (vic (2 * P.fs.length + 1) P).2] ((vic (2 * P.fs.length + 1) P).1.map P.f, if (vic (2 * P.fs.length + 1) P).1.isSome then 0 else 7) := fun L => by
  have h64 := h.n64
  have h2 := h.n2
  generalize hB : vic (2 * P.fs.length + 1) P = B
  refine c120_fn rfl rfl ?_
  have e11 : IntKind.wrap .i64 (IntKind.wrap .i64 (2 * (P.fs.length : Int)) + 1) = ((2 * P.fs.length + 1 : Nat) : Int) := by rw [w64 (n := 2 * (P.fs.length : Int)) (by omega) (by omega), w64 (by omega) (by omega)]; omega
  repeat' (first | rw [e11] | (fail_if_success with_reducible refine nph ?_); first | (with_reducible first | (refine d_seq ?_; intro K hK) | (refine hK _ _ ?_; clear hK K) | (refine SG.p ?_; try intro b)) | ((with_reducible refine SC.p ?_); refine And.intro ?_ ?_) <;> intro hc <;> try simp only [push_cast, Int.reduceEq, Int.reduceLT, Int.reduceLE, Int.reduceNe] at hc | with_reducible refine r_rq (by first | decide | omega) ?_ | ((with_reducible refine SL.p ?_); first | refine ⟨_, rfl, ?_⟩ | refine ⟨_, _, _, rfl, ?_⟩ | (refine ⟨?_, rfl, ?_⟩; focus (simp; done))) | ((with_reducible first | apply i_ldn | apply i_ldnq); exact rfl; exact rfl; exact rfl) | ((try with_reducible refine d_reg ?_); simp only [go_sem, Nat.reduceAdd, Nat.reduceEqDiff, Int.reduceToNat, Nat.reduceMul, Nat.reduceSub]) | clear hK K)
  refine d_lp [0, 11, 12] (fun t : Nat × List Fr × Nat => [(0, .pointer (some ⟨P.q, 0, none⟩)), (11, .int .i64 ((2 * P.fs.length + 1 : Nat) : Int)), (12, .int .i64 (t.1 : Int))])
    (fun t => ppt (P.wi t.2.1 t.2.2) :: pfs (P.wi t.2.1 t.2.2) :: L) (fun t => t.1 ≤ 2 * P.fs.length + 1 ∧ t.2.1.length = P.fs.length ∧ t.2.2 < P.fs.length ∧ vic (2 * P.fs.length + 1 - t.1) (P.wi t.2.1 t.2.2) = B) (fun t => 2 * P.fs.length + 1 - t.1) (0, P.fs, P.hand) rfl SX.p ⟨Nat.zero_le _, rfl, h.h, hB⟩ ?_
  clear hB e11
  rintro ⟨i, fs, hd⟩ ⟨i1, i2, i3, i4⟩
  dsimp only at i1 i2 i3 i4 ⊢
  by_cases hi : i < 2 * P.fs.length + 1
  · obtain ⟨k, hk⟩ : ∃ k, 2 * P.fs.length + 1 - i = k + 1 := ⟨2 * P.fs.length - i, by omega⟩
    have hx : fs[hd]? = some fs[hd] := List.getElem?_eq_getElem (by omega)
    generalize fs[hd] = f at *
    rw [hk, vic_step hx] at i4
    have hm : (hd + 1) % fs.length < P.fs.length := by rw [i2]; exact Nat.mod_lt _ (by omega)
    have e1 : (IntKind.wrap .i64 ((hd : Int) + 1)).tmod (fs.length : Int) = (((hd + 1) % fs.length : Nat) : Int) := by
      rw [w64 (by omega) (by omega), tm (by omega)]
      push_cast
      rfl
    have hk2 : 2 * P.fs.length + 1 - (i + 1) = k := by omega
    by_cases c1 : f.filled = false
    · rw [if_pos c1] at i4
      subst i4
      repeat' (first | rw [e1] | (fail_if_success with_reducible refine nph ?_); first | (with_reducible first | (refine d_seq ?_; intro K hK) | (refine hK _ _ ?_; clear hK K) | (refine SG.p ?_; try intro b)) | ((with_reducible refine SC.p ?_); refine And.intro ?_ ?_) <;> intro hc <;> try simp only [push_cast, Int.reduceEq, Int.reduceLT, Int.reduceLE, Int.reduceNe] at hc | with_reducible refine r_rq (by first | decide | omega) ?_ | ((with_reducible refine SL.p ?_); first | refine ⟨_, rfl, ?_⟩ | refine ⟨_, _, _, rfl, ?_⟩ | (refine ⟨?_, rfl, ?_⟩; focus (simp; done))) | ((with_reducible first | apply i_ldn | apply i_ldnq); exact rfl; exact rfl; exact rfl) | ((try with_reducible refine d_reg ?_); simp only [go_sem, Nat.reduceAdd, Nat.reduceEqDiff, Int.reduceToNat, Nat.reduceMul, Nat.reduceSub]) | clear hK K)
      all_goals try (exfalso; omega)
      refine r_ph0 ?_
      repeat' (first | rw [e1] | (fail_if_success with_reducible refine nph ?_); first | (with_reducible first | (refine d_seq ?_; intro K hK) | (refine hK _ _ ?_; clear hK K) | (refine SG.p ?_; try intro b)) | ((with_reducible refine SC.p ?_); refine And.intro ?_ ?_) <;> intro hc <;> try simp only [push_cast, Int.reduceEq, Int.reduceLT, Int.reduceLE, Int.reduceNe] at hc | with_reducible refine r_rq (by first | decide | omega) ?_ | ((with_reducible refine SL.p ?_); first | refine ⟨_, rfl, ?_⟩ | refine ⟨_, _, _, rfl, ?_⟩ | (refine ⟨?_, rfl, ?_⟩; focus (simp; done))) | ((with_reducible first | apply i_ldn | apply i_ldnq); exact rfl; exact rfl; exact rfl) | ((try with_reducible refine d_reg ?_); simp only [go_sem, Nat.reduceAdd, Nat.reduceEqDiff, Int.reduceToNat, Nat.reduceMul, Nat.reduceSub]) | clear hK K)
      refine r_ph0 ?_
      repeat' (first | rw [e1] | (fail_if_success with_reducible refine nph ?_); first | (with_reducible first | (refine d_seq ?_; intro K hK) | (refine hK _ _ ?_; clear hK K) | (refine SG.p ?_; try intro b)) | ((with_reducible refine SC.p ?_); refine And.intro ?_ ?_) <;> intro hc <;> try simp only [push_cast, Int.reduceEq, Int.reduceLT, Int.reduceLE, Int.reduceNe] at hc | with_reducible refine r_rq (by first | decide | omega) ?_ | ((with_reducible refine SL.p ?_); first | refine ⟨_, rfl, ?_⟩ | refine ⟨_, _, _, rfl, ?_⟩ | (refine ⟨?_, rfl, ?_⟩; focus (simp; done))) | ((with_reducible first | apply i_ldn | apply i_ldnq); exact rfl; exact rfl; exact rfl) | ((try with_reducible refine d_reg ?_); simp only [go_sem, Nat.reduceAdd, Nat.reduceEqDiff, Int.reduceToNat, Nat.reduceMul, Nat.reduceSub]) | clear hK K)
      refine i_fl (e := eB) (y := f.filled) cFr_len hx rfl ?_
      rw [c1]
      repeat' ((fail_if_success with_reducible refine nph ?_); first | (with_reducible first | (refine d_seq ?_; intro K hK) | (refine hK _ _ ?_; clear hK K) | (refine SG.p ?_; try intro b)) | ((with_reducible refine SC.p ?_); refine And.intro ?_ ?_) <;> intro hc <;> try simp only [push_cast, Int.reduceEq, Int.reduceLT, Int.reduceLE, Int.reduceNe] at hc | with_reducible refine r_rq (by first | decide | omega) ?_ | ((with_reducible refine SL.p ?_); first | refine ⟨_, rfl, ?_⟩ | refine ⟨_, _, _, rfl, ?_⟩ | (refine ⟨?_, rfl, ?_⟩; focus (simp; done))) | ((with_reducible first | apply i_ldn | apply i_ldnq); exact rfl; exact rfl; exact rfl) | ((try with_reducible refine d_reg ?_); simp only [go_sem, Nat.reduceAdd, Nat.reduceEqDiff, Int.reduceToNat, Nat.reduceMul, Nat.reduceSub]) | clear hK K)
      all_goals try contradiction
      (with_reducible first | apply i_ret0 | apply i_ret2 | apply i_ret3 | apply i_ret); exact rfl
      rfl
    · rw [if_neg c1] at i4
      have c1' : f.filled = true := by simpa using c1
      by_cases c2 : 0 < f.pins
      · rw [if_pos c2] at i4
        repeat' (first | rw [e1] | (fail_if_success with_reducible refine nph ?_); first | (with_reducible first | (refine d_seq ?_; intro K hK) | (refine hK _ _ ?_; clear hK K) | (refine SG.p ?_; try intro b)) | ((with_reducible refine SC.p ?_); refine And.intro ?_ ?_) <;> intro hc <;> try simp only [push_cast, Int.reduceEq, Int.reduceLT, Int.reduceLE, Int.reduceNe] at hc | with_reducible refine r_rq (by first | decide | omega) ?_ | ((with_reducible refine SL.p ?_); first | refine ⟨_, rfl, ?_⟩ | refine ⟨_, _, _, rfl, ?_⟩ | (refine ⟨?_, rfl, ?_⟩; focus (simp; done))) | ((with_reducible first | apply i_ldn | apply i_ldnq); exact rfl; exact rfl; exact rfl) | ((try with_reducible refine d_reg ?_); simp only [go_sem, Nat.reduceAdd, Nat.reduceEqDiff, Int.reduceToNat, Nat.reduceMul, Nat.reduceSub]) | clear hK K)
        all_goals try (exfalso; omega)
        refine r_ph0 ?_
        repeat' (first | rw [e1] | (fail_if_success with_reducible refine nph ?_); first | (with_reducible first | (refine d_seq ?_; intro K hK) | (refine hK _ _ ?_; clear hK K) | (refine SG.p ?_; try intro b)) | ((with_reducible refine SC.p ?_); refine And.intro ?_ ?_) <;> intro hc <;> try simp only [push_cast, Int.reduceEq, Int.reduceLT, Int.reduceLE, Int.reduceNe] at hc | with_reducible refine r_rq (by first | decide | omega) ?_ | ((with_reducible refine SL.p ?_); first | refine ⟨_, rfl, ?_⟩ | refine ⟨_, _, _, rfl, ?_⟩ | (refine ⟨?_, rfl, ?_⟩; focus (simp; done))) | ((with_reducible first | apply i_ldn | apply i_ldnq); exact rfl; exact rfl; exact rfl) | ((try with_reducible refine d_reg ?_); simp only [go_sem, Nat.reduceAdd, Nat.reduceEqDiff, Int.reduceToNat, Nat.reduceMul, Nat.reduceSub]) | clear hK K)
        refine r_ph0 ?_
        repeat' (first | rw [e1] | (fail_if_success with_reducible refine nph ?_); first | (with_reducible first | (refine d_seq ?_; intro K hK) | (refine hK _ _ ?_; clear hK K) | (refine SG.p ?_; try intro b)) | ((with_reducible refine SC.p ?_); refine And.intro ?_ ?_) <;> intro hc <;> try simp only [push_cast, Int.reduceEq, Int.reduceLT, Int.reduceLE, Int.reduceNe] at hc | with_reducible refine r_rq (by first | decide | omega) ?_ | ((with_reducible refine SL.p ?_); first | refine ⟨_, rfl, ?_⟩ | refine ⟨_, _, _, rfl, ?_⟩ | (refine ⟨?_, rfl, ?_⟩; focus (simp; done))) | ((with_reducible first | apply i_ldn | apply i_ldnq); exact rfl; exact rfl; exact rfl) | ((try with_reducible refine d_reg ?_); simp only [go_sem, Nat.reduceAdd, Nat.reduceEqDiff, Int.reduceToNat, Nat.reduceMul, Nat.reduceSub]) | clear hK K)
        refine i_fl (e := eB) (y := f.filled) cFr_len hx rfl ?_
        rw [c1']
        repeat' ((fail_if_success with_reducible refine nph ?_); first | (with_reducible first | (refine d_seq ?_; intro K hK) | (refine hK _ _ ?_; clear hK K) | (refine SG.p ?_; try intro b)) | ((with_reducible refine SC.p ?_); refine And.intro ?_ ?_) <;> intro hc <;> try simp only [push_cast, Int.reduceEq, Int.reduceLT, Int.reduceLE, Int.reduceNe] at hc | with_reducible refine r_rq (by first | decide | omega) ?_ | ((with_reducible refine SL.p ?_); first | refine ⟨_, rfl, ?_⟩ | refine ⟨_, _, _, rfl, ?_⟩ | (refine ⟨?_, rfl, ?_⟩; focus (simp; done))) | ((with_reducible first | apply i_ldn | apply i_ldnq); exact rfl; exact rfl; exact rfl) | ((try with_reducible refine d_reg ?_); simp only [go_sem, Nat.reduceAdd, Nat.reduceEqDiff, Int.reduceToNat, Nat.reduceMul, Nat.reduceSub]) | clear hK K)
        all_goals try contradiction
        refine i_fl (e := eI) (y := f.pins) cFr_len hx rfl ?_
        repeat' ((fail_if_success with_reducible refine nph ?_); first | (with_reducible first | (refine d_seq ?_; intro K hK) | (refine hK _ _ ?_; clear hK K) | (refine SG.p ?_; try intro b)) | ((with_reducible refine SC.p ?_); refine And.intro ?_ ?_) <;> intro hc <;> try simp only [push_cast, Int.reduceEq, Int.reduceLT, Int.reduceLE, Int.reduceNe] at hc | with_reducible refine r_rq (by first | decide | omega) ?_ | ((with_reducible refine SL.p ?_); first | refine ⟨_, rfl, ?_⟩ | refine ⟨_, _, _, rfl, ?_⟩ | (refine ⟨?_, rfl, ?_⟩; focus (simp; done))) | ((with_reducible first | apply i_ldn | apply i_ldnq); exact rfl; exact rfl; exact rfl) | ((try with_reducible refine d_reg ?_); simp only [go_sem, Nat.reduceAdd, Nat.reduceEqDiff, Int.reduceToNat, Nat.reduceMul, Nat.reduceSub]) | clear hK K)
        all_goals try (exfalso; omega)
        rw [w64 (by omega) (by omega)]
        exact i_bk (i + 1, fs, (hd + 1) % fs.length) rfl ⟨by dsimp only; omega, i2, hm, by dsimp only; rw [hk2]; exact i4⟩ (by dsimp only; omega)
      · rw [if_neg c2] at i4
        by_cases c3 : f.used = true
        · rw [if_pos c3] at i4
          repeat' (first | rw [e1] | (fail_if_success with_reducible refine nph ?_); first | (with_reducible first | (refine d_seq ?_; intro K hK) | (refine hK _ _ ?_; clear hK K) | (refine SG.p ?_; try intro b)) | ((with_reducible refine SC.p ?_); refine And.intro ?_ ?_) <;> intro hc <;> try simp only [push_cast, Int.reduceEq, Int.reduceLT, Int.reduceLE, Int.reduceNe] at hc | with_reducible refine r_rq (by first | decide | omega) ?_ | ((with_reducible refine SL.p ?_); first | refine ⟨_, rfl, ?_⟩ | refine ⟨_, _, _, rfl, ?_⟩ | (refine ⟨?_, rfl, ?_⟩; focus (simp; done))) | ((with_reducible first | apply i_ldn | apply i_ldnq); exact rfl; exact rfl; exact rfl) | ((try with_reducible refine d_reg ?_); simp only [go_sem, Nat.reduceAdd, Nat.reduceEqDiff, Int.reduceToNat, Nat.reduceMul, Nat.reduceSub]) | clear hK K)
          all_goals try (exfalso; omega)
          refine r_ph0 ?_
          repeat' (first | rw [e1] | (fail_if_success with_reducible refine nph ?_); first | (with_reducible first | (refine d_seq ?_; intro K hK) | (refine hK _ _ ?_; clear hK K) | (refine SG.p ?_; try intro b)) | ((with_reducible refine SC.p ?_); refine And.intro ?_ ?_) <;> intro hc <;> try simp only [push_cast, Int.reduceEq, Int.reduceLT, Int.reduceLE, Int.reduceNe] at hc | with_reducible refine r_rq (by first | decide | omega) ?_ | ((with_reducible refine SL.p ?_); first | refine ⟨_, rfl, ?_⟩ | refine ⟨_, _, _, rfl, ?_⟩ | (refine ⟨?_, rfl, ?_⟩; focus (simp; done))) | ((with_reducible first | apply i_ldn | apply i_ldnq); exact rfl; exact rfl; exact rfl) | ((try with_reducible refine d_reg ?_); simp only [go_sem, Nat.reduceAdd, Nat.reduceEqDiff, Int.reduceToNat, Nat.reduceMul, Nat.reduceSub]) | clear hK K)
          refine r_ph0 ?_
          repeat' (first | rw [e1] | (fail_if_success with_reducible refine nph ?_); first | (with_reducible first | (refine d_seq ?_; intro K hK) | (refine hK _ _ ?_; clear hK K) | (refine SG.p ?_; try intro b)) | ((with_reducible refine SC.p ?_); refine And.intro ?_ ?_) <;> intro hc <;> try simp only [push_cast, Int.reduceEq, Int.reduceLT, Int.reduceLE, Int.reduceNe] at hc | with_reducible refine r_rq (by first | decide | omega) ?_ | ((with_reducible refine SL.p ?_); first | refine ⟨_, rfl, ?_⟩ | refine ⟨_, _, _, rfl, ?_⟩ | (refine ⟨?_, rfl, ?_⟩; focus (simp; done))) | ((with_reducible first | apply i_ldn | apply i_ldnq); exact rfl; exact rfl; exact rfl) | ((try with_reducible refine d_reg ?_); simp only [go_sem, Nat.reduceAdd, Nat.reduceEqDiff, Int.reduceToNat, Nat.reduceMul, Nat.reduceSub]) | clear hK K)
          refine i_fl (e := eB) (y := f.filled) cFr_len hx rfl ?_
          rw [c1']
          repeat' ((fail_if_success with_reducible refine nph ?_); first | (with_reducible first | (refine d_seq ?_; intro K hK) | (refine hK _ _ ?_; clear hK K) | (refine SG.p ?_; try intro b)) | ((with_reducible refine SC.p ?_); refine And.intro ?_ ?_) <;> intro hc <;> try simp only [push_cast, Int.reduceEq, Int.reduceLT, Int.reduceLE, Int.reduceNe] at hc | with_reducible refine r_rq (by first | decide | omega) ?_ | ((with_reducible refine SL.p ?_); first | refine ⟨_, rfl, ?_⟩ | refine ⟨_, _, _, rfl, ?_⟩ | (refine ⟨?_, rfl, ?_⟩; focus (simp; done))) | ((with_reducible first | apply i_ldn | apply i_ldnq); exact rfl; exact rfl; exact rfl) | ((try with_reducible refine d_reg ?_); simp only [go_sem, Nat.reduceAdd, Nat.reduceEqDiff, Int.reduceToNat, Nat.reduceMul, Nat.reduceSub]) | clear hK K)
          all_goals try contradiction
          refine i_fl (e := eI) (y := f.pins) cFr_len hx rfl ?_
          repeat' ((fail_if_success with_reducible refine nph ?_); first | (with_reducible first | (refine d_seq ?_; intro K hK) | (refine hK _ _ ?_; clear hK K) | (refine SG.p ?_; try intro b)) | ((with_reducible refine SC.p ?_); refine And.intro ?_ ?_) <;> intro hc <;> try simp only [push_cast, Int.reduceEq, Int.reduceLT, Int.reduceLE, Int.reduceNe] at hc | with_reducible refine r_rq (by first | decide | omega) ?_ | ((with_reducible refine SL.p ?_); first | refine ⟨_, rfl, ?_⟩ | refine ⟨_, _, _, rfl, ?_⟩ | (refine ⟨?_, rfl, ?_⟩; focus (simp; done))) | ((with_reducible first | apply i_ldn | apply i_ldnq); exact rfl; exact rfl; exact rfl) | ((try with_reducible refine d_reg ?_); simp only [go_sem, Nat.reduceAdd, Nat.reduceEqDiff, Int.reduceToNat, Nat.reduceMul, Nat.reduceSub]) | clear hK K)
          all_goals try (exfalso; omega)
          refine i_fl (e := eB) (y := f.used) cFr_len hx rfl ?_
          rw [c3]
          repeat' ((fail_if_success with_reducible refine nph ?_); first | (with_reducible first | (refine d_seq ?_; intro K hK) | (refine hK _ _ ?_; clear hK K) | (refine SG.p ?_; try intro b)) | ((with_reducible refine SC.p ?_); refine And.intro ?_ ?_) <;> intro hc <;> try simp only [push_cast, Int.reduceEq, Int.reduceLT, Int.reduceLE, Int.reduceNe] at hc | with_reducible refine r_rq (by first | decide | omega) ?_ | ((with_reducible refine SL.p ?_); first | refine ⟨_, rfl, ?_⟩ | refine ⟨_, _, _, rfl, ?_⟩ | (refine ⟨?_, rfl, ?_⟩; focus (simp; done))) | ((with_reducible first | apply i_ldn | apply i_ldnq); exact rfl; exact rfl; exact rfl) | ((try with_reducible refine d_reg ?_); simp only [go_sem, Nat.reduceAdd, Nat.reduceEqDiff, Int.reduceToNat, Nat.reduceMul, Nat.reduceSub]) | clear hK K)
          all_goals try contradiction
          refine i_fs (j := 6) (v := .bool false) cFr_len hx { f with used := false } rfl rfl rfl ?_
          repeat' ((fail_if_success with_reducible refine nph ?_); first | (with_reducible first | (refine d_seq ?_; intro K hK) | (refine hK _ _ ?_; clear hK K) | (refine SG.p ?_; try intro b)) | ((with_reducible refine SC.p ?_); refine And.intro ?_ ?_) <;> intro hc <;> try simp only [push_cast, Int.reduceEq, Int.reduceLT, Int.reduceLE, Int.reduceNe] at hc | with_reducible refine r_rq (by first | decide | omega) ?_ | ((with_reducible refine SL.p ?_); first | refine ⟨_, rfl, ?_⟩ | refine ⟨_, _, _, rfl, ?_⟩ | (refine ⟨?_, rfl, ?_⟩; focus (simp; done))) | ((with_reducible first | apply i_ldn | apply i_ldnq); exact rfl; exact rfl; exact rfl) | ((try with_reducible refine d_reg ?_); simp only [go_sem, Nat.reduceAdd, Nat.reduceEqDiff, Int.reduceToNat, Nat.reduceMul, Nat.reduceSub]) | clear hK K)
          rw [w64 (by omega) (by omega)]
          have hl : (fs.set hd { f with used := false }).length = fs.length := List.length_set
          generalize fs.set hd { f with used := false } = fs' at *
          rw [← hl] at i4 ⊢
          exact i_bk (i + 1, fs', (hd + 1) % fs'.length) rfl ⟨by dsimp only; omega, by dsimp only; omega, by dsimp only; rw [hl]; exact hm, by dsimp only; rw [hk2]; exact i4⟩ (by dsimp only; omega)
        · rw [if_neg c3] at i4
          have c3' : f.used = false := by simpa using c3
          subst i4
          repeat' (first | rw [e1] | (fail_if_success with_reducible refine nph ?_); first | (with_reducible first | (refine d_seq ?_; intro K hK) | (refine hK _ _ ?_; clear hK K) | (refine SG.p ?_; try intro b)) | ((with_reducible refine SC.p ?_); refine And.intro ?_ ?_) <;> intro hc <;> try simp only [push_cast, Int.reduceEq, Int.reduceLT, Int.reduceLE, Int.reduceNe] at hc | with_reducible refine r_rq (by first | decide | omega) ?_ | ((with_reducible refine SL.p ?_); first | refine ⟨_, rfl, ?_⟩ | refine ⟨_, _, _, rfl, ?_⟩ | (refine ⟨?_, rfl, ?_⟩; focus (simp; done))) | ((with_reducible first | apply i_ldn | apply i_ldnq); exact rfl; exact rfl; exact rfl) | ((try with_reducible refine d_reg ?_); simp only [go_sem, Nat.reduceAdd, Nat.reduceEqDiff, Int.reduceToNat, Nat.reduceMul, Nat.reduceSub]) | clear hK K)
          all_goals try (exfalso; omega)
          refine r_ph0 ?_
          repeat' (first | rw [e1] | (fail_if_success with_reducible refine nph ?_); first | (with_reducible first | (refine d_seq ?_; intro K hK) | (refine hK _ _ ?_; clear hK K) | (refine SG.p ?_; try intro b)) | ((with_reducible refine SC.p ?_); refine And.intro ?_ ?_) <;> intro hc <;> try simp only [push_cast, Int.reduceEq, Int.reduceLT, Int.reduceLE, Int.reduceNe] at hc | with_reducible refine r_rq (by first | decide | omega) ?_ | ((with_reducible refine SL.p ?_); first | refine ⟨_, rfl, ?_⟩ | refine ⟨_, _, _, rfl, ?_⟩ | (refine ⟨?_, rfl, ?_⟩; focus (simp; done))) | ((with_reducible first | apply i_ldn | apply i_ldnq); exact rfl; exact rfl; exact rfl) | ((try with_reducible refine d_reg ?_); simp only [go_sem, Nat.reduceAdd, Nat.reduceEqDiff, Int.reduceToNat, Nat.reduceMul, Nat.reduceSub]) | clear hK K)
          refine r_ph0 ?_
          repeat' (first | rw [e1] | (fail_if_success with_reducible refine nph ?_); first | (with_reducible first | (refine d_seq ?_; intro K hK) | (refine hK _ _ ?_; clear hK K) | (refine SG.p ?_; try intro b)) | ((with_reducible refine SC.p ?_); refine And.intro ?_ ?_) <;> intro hc <;> try simp only [push_cast, Int.reduceEq, Int.reduceLT, Int.reduceLE, Int.reduceNe] at hc | with_reducible refine r_rq (by first | decide | omega) ?_ | ((with_reducible refine SL.p ?_); first | refine ⟨_, rfl, ?_⟩ | refine ⟨_, _, _, rfl, ?_⟩ | (refine ⟨?_, rfl, ?_⟩; focus (simp; done))) | ((with_reducible first | apply i_ldn | apply i_ldnq); exact rfl; exact rfl; exact rfl) | ((try with_reducible refine d_reg ?_); simp only [go_sem, Nat.reduceAdd, Nat.reduceEqDiff, Int.reduceToNat, Nat.reduceMul, Nat.reduceSub]) | clear hK K)
          refine i_fl (e := eB) (y := f.filled) cFr_len hx rfl ?_
          rw [c1']
          repeat' ((fail_if_success with_reducible refine nph ?_); first | (with_reducible first | (refine d_seq ?_; intro K hK) | (refine hK _ _ ?_; clear hK K) | (refine SG.p ?_; try intro b)) | ((with_reducible refine SC.p ?_); refine And.intro ?_ ?_) <;> intro hc <;> try simp only [push_cast, Int.reduceEq, Int.reduceLT, Int.reduceLE, Int.reduceNe] at hc | with_reducible refine r_rq (by first | decide | omega) ?_ | ((with_reducible refine SL.p ?_); first | refine ⟨_, rfl, ?_⟩ | refine ⟨_, _, _, rfl, ?_⟩ | (refine ⟨?_, rfl, ?_⟩; focus (simp; done))) | ((with_reducible first | apply i_ldn | apply i_ldnq); exact rfl; exact rfl; exact rfl) | ((try with_reducible refine d_reg ?_); simp only [go_sem, Nat.reduceAdd, Nat.reduceEqDiff, Int.reduceToNat, Nat.reduceMul, Nat.reduceSub]) | clear hK K)
          all_goals try contradiction
          refine i_fl (e := eI) (y := f.pins) cFr_len hx rfl ?_
          repeat' ((fail_if_success with_reducible refine nph ?_); first | (with_reducible first | (refine d_seq ?_; intro K hK) | (refine hK _ _ ?_; clear hK K) | (refine SG.p ?_; try intro b)) | ((with_reducible refine SC.p ?_); refine And.intro ?_ ?_) <;> intro hc <;> try simp only [push_cast, Int.reduceEq, Int.reduceLT, Int.reduceLE, Int.reduceNe] at hc | with_reducible refine r_rq (by first | decide | omega) ?_ | ((with_reducible refine SL.p ?_); first | refine ⟨_, rfl, ?_⟩ | refine ⟨_, _, _, rfl, ?_⟩ | (refine ⟨?_, rfl, ?_⟩; focus (simp; done))) | ((with_reducible first | apply i_ldn | apply i_ldnq); exact rfl; exact rfl; exact rfl) | ((try with_reducible refine d_reg ?_); simp only [go_sem, Nat.reduceAdd, Nat.reduceEqDiff, Int.reduceToNat, Nat.reduceMul, Nat.reduceSub]) | clear hK K)
          all_goals try (exfalso; omega)
          refine i_fl (e := eB) (y := f.used) cFr_len hx rfl ?_
          rw [c3']
          repeat' ((fail_if_success with_reducible refine nph ?_); first | (with_reducible first | (refine d_seq ?_; intro K hK) | (refine hK _ _ ?_; clear hK K) | (refine SG.p ?_; try intro b)) | ((with_reducible refine SC.p ?_); refine And.intro ?_ ?_) <;> intro hc <;> try simp only [push_cast, Int.reduceEq, Int.reduceLT, Int.reduceLE, Int.reduceNe] at hc | with_reducible refine r_rq (by first | decide | omega) ?_ | ((with_reducible refine SL.p ?_); first | refine ⟨_, rfl, ?_⟩ | refine ⟨_, _, _, rfl, ?_⟩ | (refine ⟨?_, rfl, ?_⟩; focus (simp; done))) | ((with_reducible first | apply i_ldn | apply i_ldnq); exact rfl; exact rfl; exact rfl) | ((try with_reducible refine d_reg ?_); simp only [go_sem, Nat.reduceAdd, Nat.reduceEqDiff, Int.reduceToNat, Nat.reduceMul, Nat.reduceSub]) | clear hK K)
          all_goals try contradiction
          (with_reducible first | apply i_ret0 | apply i_ret2 | apply i_ret3 | apply i_ret); exact rfl
          rfl
  · rw [show 2 * P.fs.length + 1 - i = 0 by omega] at i4
    unfold vic at i4
    subst i4
    repeat' ((fail_if_success with_reducible refine nph ?_); first | (with_reducible first | (refine d_seq ?_; intro K hK) | (refine hK _ _ ?_; clear hK K) | (refine SG.p ?_; try intro b)) | ((with_reducible refine SC.p ?_); refine And.intro ?_ ?_) <;> intro hc <;> try simp only [push_cast, Int.reduceEq, Int.reduceLT, Int.reduceLE, Int.reduceNe] at hc | with_reducible refine r_rq (by first | decide | omega) ?_ | ((with_reducible refine SL.p ?_); first | refine ⟨_, rfl, ?_⟩ | refine ⟨_, _, _, rfl, ?_⟩ | (refine ⟨?_, rfl, ?_⟩; focus (simp; done))) | ((with_reducible first | apply i_ldn | apply i_ldnq); exact rfl; exact rfl; exact rfl) | ((try with_reducible refine d_reg ?_); simp only [go_sem, Nat.reduceAdd, Nat.reduceEqDiff, Int.reduceToNat, Nat.reduceMul, Nat.reduceSub]) | clear hK K)
    all_goals try (exfalso; omega)
    (with_reducible first | apply i_ret0 | apply i_ret2 | apply i_ret3 | apply i_ret); exact rfl
    rfl
end Go.Sp
/- The log: Cut. -/
namespace Go.Sp
open Go Go.Proofs
set_option linter.unusedSimpArgs false
set_option linter.unusedVariables false
set_option maxRecDepth 10000
theorem lflush_ok {Z : Dk} (h : Z.ok) {G : Lg} (hG : G.ok Z.sure.length) : (Z.lflush G).2.1.ok ∧ (Z.lflush G).2.1.sb = Z.sb ∧ (Z.lflush G).2.1.sure.length = Z.sure.length ∧ (Z.lflush G).2.2.ok Z.sure.length ∧ (Z.lflush G).2.2.q = G.q := by
  have hdn : ∀ e, (G.down e).ok Z.sure.length ∧ (G.down e).q = G.q := fun e => by
    unfold Lg.down
    split
    · exact ⟨hG, rfl⟩
    · exact ⟨⟨hG.s1, hG.fit, hG.n1, hG.r1, hG.r2, hG.du, hG.le⟩, rfl⟩
  obtain ⟨a1, a2, a3⟩ := lws_ok G (G.sectors + 1) (G.durable / 58) h
  unfold Dk.lflush
  split
  · exact ⟨h, rfl, rfl, hG, rfl⟩
  · split
    · exact ⟨h, rfl, rfl, hG, rfl⟩
    · dsimp only
      split
      · split
        · exact ⟨Dk.sync_ok a1, (Dk.sync_sb _).trans a2, (Dk.sync_n _).trans a3, ⟨hG.s1, hG.fit, hG.n1, hG.r1, hG.r2, Nat.le_refl _, hG.le⟩, rfl⟩
        · exact ⟨Dk.sync_ok a1, (Dk.sync_sb _).trans a2, (Dk.sync_n _).trans a3, (hdn _).1, (hdn _).2⟩
      · exact ⟨a1, a2, a3, (hdn _).1, (hdn _).2⟩
end Go.Sp
