/- Texts of a proof, one behind the other: W1 Gyc0 W2. No condition. -/
import Derived.Test.YtaidhghnflnmnaaGreatMd4bac639
import Derived.Test.YtaidhghnflnmnaaGreatMc004010e
/- The log's layer: its example. -/
namespace Go.Sp
open Go Go.Proofs
set_option linter.unusedSimpArgs false
set_option linter.unusedVariables false
set_option maxRecDepth 10000
theorem i_sj {e : Enc} {L L' : List HP} {A : HP} {α : Type} {cel : α → List Value} {a : Addr} {n c sz i j : Nat} {xs : List α} {x : α} {k : e.α → W} {y : e.α} (hR : Rs A (some a, n, c) sz (xs.flatMap cel)) (hc : ∀ x, (cel x).length = sz) (hx : xs[i]? = some x) [ha : AX L A L'] (hv : (cel x)[j]? = some (e.enc y)) (h : E L (k y)) : E L (ld e ((a.add (i * sz)).add j) k) :=
  r_sj hR hc hx ha.p hv h
theorem RL.two {S : HP} {rs : List api_Rec} {a b : Rc} (h : RL S rs [a, b]) : ∃ r s, rs = [r, s] ∧ RcAt S s b := by
  have hn := h.n
  match rs, hn with
  | [r, s], _ => exact ⟨r, s, rfl, h.g 1 s b rfl rfl⟩
set_option maxHeartbeats 1000000 in
theorem g15 : Fp eB Tryz.prog 15 #[] [] true := fun L => by
  refine c15_fn rfl rfl ?_
  repeat' ((fail_if_success with_reducible refine nph ?_); first | (with_reducible first | (refine d_seq ?_; intro K hK) | (refine hK _ _ ?_; clear hK K) | refine d_blk ?_ | refine d_rt0 ?_ | refine d_sk0 ?_ | refine d_ex0 ?_ | (refine r_nwc ?_; intro b)) | (first | ((with_reducible refine d_cnd ?_); refine And.intro ?_ ?_) | with_reducible refine r_cnd ?_ ?_) <;> intro hc <;> try simp only [push_cast, Int.reduceEq, Int.reduceLT, Int.reduceLE, Int.reduceNe] at hc | with_reducible refine r_rq (by first | decide | omega) ?_ | ((with_reducible first | apply i_lds | apply i_ldsq | apply i_ld | apply i_ldq); exact rfl) | ((with_reducible first | apply i_ldn | apply i_ldnq); exact rfl; exact rfl; exact rfl) | (with_reducible first | refine r_ph0 ?_ | apply i_kp0) | ((with_reducible first | apply i_st | apply i_stl); (focus simp); exact rfl) | ((try with_reducible refine d_reg ?_); simp only [go_sem, Nat.reduceAdd, Nat.reduceEqDiff, Int.reduceToNat, Nat.reduceMul, Nat.reduceSub]) | clear hK K)
  refine i_cal (F25 20 (by decide) (by decide)) ?_
  rintro y X ⟨sb, bb, mb, rfl, rfl⟩
  have hc0 : (Dk.new sb bb mb 20).calm sb 20 := Dk.calm.new (by decide) (by decide)
  have hz : ∀ m, m < 10 → at4 ((Dk.new sb bb mb 20).get ((1 + m : Nat) : Int)) = 0 := fun m hm => by rw [new_get (by omega)]; exact at4_nil
  generalize Dk.new sb bb mb 20 = Z at *
  repeat' ((fail_if_success with_reducible refine nph ?_); first | (with_reducible first | (refine d_seq ?_; intro K hK) | (refine hK _ _ ?_; clear hK K) | refine d_blk ?_ | refine d_rt0 ?_ | refine d_sk0 ?_ | refine d_ex0 ?_ | (refine r_nwc ?_; intro b)) | (first | ((with_reducible refine d_cnd ?_); refine And.intro ?_ ?_) | with_reducible refine r_cnd ?_ ?_) <;> intro hc <;> try simp only [push_cast, Int.reduceEq, Int.reduceLT, Int.reduceLE, Int.reduceNe] at hc | with_reducible refine r_rq (by first | decide | omega) ?_ | ((with_reducible first | apply i_lds | apply i_ldsq | apply i_ld | apply i_ldq); exact rfl) | ((with_reducible first | apply i_ldn | apply i_ldnq); exact rfl; exact rfl; exact rfl) | (with_reducible first | refine r_ph0 ?_ | apply i_kp0) | ((with_reducible first | apply i_st | apply i_stl); (focus simp); exact rfl) | ((try with_reducible refine d_reg ?_); simp only [go_sem, Nat.reduceAdd, Nat.reduceEqDiff, Int.reduceToNat, Nat.reduceMul, Nat.reduceSub]) | clear hK K)
  all_goals try contradiction
  refine i_cal (wopen0 hc0 hz (by decide) (by decide) (by decide) (by decide : 1 ≤ 1) (by decide)) ?_
  rintro y X ⟨q, Y, ρ, rfl, rfl, hW, hE⟩
  repeat' ((fail_if_success with_reducible refine nph ?_); first | (with_reducible first | (refine d_seq ?_; intro K hK) | (refine hK _ _ ?_; clear hK K) | refine d_blk ?_ | refine d_rt0 ?_ | refine d_sk0 ?_ | refine d_ex0 ?_ | (refine r_nwc ?_; intro b)) | (first | ((with_reducible refine d_cnd ?_); refine And.intro ?_ ?_) | with_reducible refine r_cnd ?_ ?_) <;> intro hc <;> try simp only [push_cast, Int.reduceEq, Int.reduceLT, Int.reduceLE, Int.reduceNe] at hc | with_reducible refine r_rq (by first | decide | omega) ?_ | ((with_reducible first | apply i_lds | apply i_ldsq | apply i_ld | apply i_ldq); exact rfl) | ((with_reducible first | apply i_ldn | apply i_ldnq); exact rfl; exact rfl; exact rfl) | (with_reducible first | refine r_ph0 ?_ | apply i_kp0) | ((with_reducible first | apply i_st | apply i_stl); (focus simp); exact rfl) | ((try with_reducible refine d_reg ?_); simp only [go_sem, Nat.reduceAdd, Nat.reduceEqDiff, Int.reduceToNat, Nat.reduceMul, Nat.reduceSub]) | clear hK K)
  all_goals try contradiction
  obtain ⟨f1, c1, l1⟩ := cm_frame (n := 1) ⟨by decide, by decide⟩
  obtain ⟨f2, c2, l2⟩ := cm_frame (n := 2) ⟨by decide, by decide⟩
  obtain ⟨f3, c3, l3⟩ := cm_frame (n := 3) ⟨by decide, by decide⟩
  have e1 : (⟨q, 1, 10, 1, [], 0, false⟩ : Lg).append (cm 1) = ((1, 0), ⟨q, 1, 10, 1, f1, 0, false⟩) := by
    rw [append_is rfl, c1]
    simp [l1]
  have A1 := wappend hW (dk Y) _ _ (cm_at (dk Y) 1)
  have W1 := hW.app (cm 1)
  rw [e1] at A1 W1
  dsimp only at W1
  have e2 : (⟨q, 1, 10, 1, f1, 0, false⟩ : Lg).append (cm 2) = ((20, 0), ⟨q, 1, 10, 1, f1 ++ f2, 0, false⟩) := by
    rw [append_is rfl, c2]
    simp [l1, l2]
  have A2 := wappend W1 (dk Y) _ _ (cm_at (dk Y) 2)
  have W2 := W1.app (cm 2)
  rw [e2] at A2 W2
  dsimp only at W2
  obtain ⟨V, ρ3, F3, W3, hE3⟩ := wflush W2
  dsimp only at F3 W3
  have l12 : (f1 ++ f2).length = 38 := by rw [List.length_append, l1, l2]
  rw [l12] at F3 W3
  have e4 : (⟨q, 1, 10, 1, f1 ++ f2, 38, false⟩ : Lg).append (cm 3) = ((39, 0), ⟨q, 1, 10, 1, f1 ++ f2 ++ f3, 38, false⟩) := by
    rw [append_is rfl, c3]
    simp [l1, l2, l3]
  have A4 := wappend W3 (dk V) _ _ (cm_at (dk V) 3)
  have W4 := W3.app (cm 3)
  rw [e4] at A4 W4
  dsimp only at W4
  have C5 := calm_c W4.calm (by decide) 0
  have C6 := calm_o W4.calm 0
  have W6 := W4.off (hE3 hE) 0
  have hps : Prs [(f1, cm 1), (f2, cm 2)] := fun x hx => by
    simp only [List.mem_cons, List.not_mem_nil, or_false] at hx
    rcases hx with rfl | rfl
    · exact ⟨⟨Nat.zero_le _, Nat.zero_le _⟩, c1⟩
    · exact ⟨⟨Nat.zero_le _, Nat.zero_le _⟩, c2⟩
  have ht : (f1 ++ f2 ++ f3).take 38 = f1 ++ f2 := List.take_left' l12
  have hwh : whole (f1 ++ f2) = 38 := by
    have := whole_frs hps.frs
    simpa [l1, l2] using this
  have O7 := wopen W6 (run := 2) (Nat.lt_succ_self 1) (by decide) (by dsimp only; rw [ht]; exact hwh)
  dsimp only at O7
  rw [ht] at O7
  have hrec : recs (f1 ++ f2) = [(1, cm 1), (20, cm 2)] := by
    have := recs_prs hps
    simp only [List.map_cons, List.map_nil, List.flatten_cons, List.flatten_nil, List.append_nil] at this
    rw [this]
    simp only [rl, l1]
    rfl
  refine i_clp (g37 1) ?_
  refine i_clq A1 ?_
  repeat' ((fail_if_success with_reducible refine nph ?_); first | (with_reducible first | (refine d_seq ?_; intro K hK) | (refine hK _ _ ?_; clear hK K) | refine d_blk ?_ | refine d_rt0 ?_ | refine d_sk0 ?_ | refine d_ex0 ?_ | (refine r_nwc ?_; intro b)) | (first | ((with_reducible refine d_cnd ?_); refine And.intro ?_ ?_) | with_reducible refine r_cnd ?_ ?_) <;> intro hc <;> try simp only [push_cast, Int.reduceEq, Int.reduceLT, Int.reduceLE, Int.reduceNe] at hc | with_reducible refine r_rq (by first | decide | omega) ?_ | ((with_reducible first | apply i_lds | apply i_ldsq | apply i_ld | apply i_ldq); exact rfl) | ((with_reducible first | apply i_ldn | apply i_ldnq); exact rfl; exact rfl; exact rfl) | (with_reducible first | refine r_ph0 ?_ | apply i_kp0) | ((with_reducible first | apply i_st | apply i_stl); (focus simp); exact rfl) | ((try with_reducible refine d_reg ?_); simp only [go_sem, Nat.reduceAdd, Nat.reduceEqDiff, Int.reduceToNat, Nat.reduceMul, Nat.reduceSub]) | clear hK K)
  refine i_clp (g37 2) ?_
  refine i_clq A2 ?_
  repeat' ((fail_if_success with_reducible refine nph ?_); first | (with_reducible first | (refine d_seq ?_; intro K hK) | (refine hK _ _ ?_; clear hK K) | refine d_blk ?_ | refine d_rt0 ?_ | refine d_sk0 ?_ | refine d_ex0 ?_ | (refine r_nwc ?_; intro b)) | (first | ((with_reducible refine d_cnd ?_); refine And.intro ?_ ?_) | with_reducible refine r_cnd ?_ ?_) <;> intro hc <;> try simp only [push_cast, Int.reduceEq, Int.reduceLT, Int.reduceLE, Int.reduceNe] at hc | with_reducible refine r_rq (by first | decide | omega) ?_ | ((with_reducible first | apply i_lds | apply i_ldsq | apply i_ld | apply i_ldq); exact rfl) | ((with_reducible first | apply i_ldn | apply i_ldnq); exact rfl; exact rfl; exact rfl) | (with_reducible first | refine r_ph0 ?_ | apply i_kp0) | ((with_reducible first | apply i_st | apply i_stl); (focus simp); exact rfl) | ((try with_reducible refine d_reg ?_); simp only [go_sem, Nat.reduceAdd, Nat.reduceEqDiff, Int.reduceToNat, Nat.reduceMul, Nat.reduceSub]) | clear hK K)
  refine i_clq F3 ?_
  repeat' ((fail_if_success with_reducible refine nph ?_); first | (with_reducible first | (refine d_seq ?_; intro K hK) | (refine hK _ _ ?_; clear hK K) | refine d_blk ?_ | refine d_rt0 ?_ | refine d_sk0 ?_ | refine d_ex0 ?_ | (refine r_nwc ?_; intro b)) | (first | ((with_reducible refine d_cnd ?_); refine And.intro ?_ ?_) | with_reducible refine r_cnd ?_ ?_) <;> intro hc <;> try simp only [push_cast, Int.reduceEq, Int.reduceLT, Int.reduceLE, Int.reduceNe] at hc | with_reducible refine r_rq (by first | decide | omega) ?_ | ((with_reducible first | apply i_lds | apply i_ldsq | apply i_ld | apply i_ldq); exact rfl) | ((with_reducible first | apply i_ldn | apply i_ldnq); exact rfl; exact rfl; exact rfl) | (with_reducible first | refine r_ph0 ?_ | apply i_kp0) | ((with_reducible first | apply i_st | apply i_stl); (focus simp); exact rfl) | ((try with_reducible refine d_reg ?_); simp only [go_sem, Nat.reduceAdd, Nat.reduceEqDiff, Int.reduceToNat, Nat.reduceMul, Nat.reduceSub]) | clear hK K)
  all_goals try contradiction
  refine i_clp (g37 3) ?_
  refine i_clq A4 ?_
  repeat' ((fail_if_success with_reducible refine nph ?_); first | (with_reducible first | (refine d_seq ?_; intro K hK) | (refine hK _ _ ?_; clear hK K) | refine d_blk ?_ | refine d_rt0 ?_ | refine d_sk0 ?_ | refine d_ex0 ?_ | (refine r_nwc ?_; intro b)) | (first | ((with_reducible refine d_cnd ?_); refine And.intro ?_ ?_) | with_reducible refine r_cnd ?_ ?_) <;> intro hc <;> try simp only [push_cast, Int.reduceEq, Int.reduceLT, Int.reduceLE, Int.reduceNe] at hc | with_reducible refine r_rq (by first | decide | omega) ?_ | ((with_reducible first | apply i_lds | apply i_ldsq | apply i_ld | apply i_ldq); exact rfl) | ((with_reducible first | apply i_ldn | apply i_ldnq); exact rfl; exact rfl; exact rfl) | (with_reducible first | refine r_ph0 ?_ | apply i_kp0) | ((with_reducible first | apply i_st | apply i_stl); (focus simp); exact rfl) | ((try with_reducible refine d_reg ?_); simp only [go_sem, Nat.reduceAdd, Nat.reduceEqDiff, Int.reduceToNat, Nat.reduceMul, Nat.reduceSub]) | clear hK K)
  refine i_clq C5 ?_
  repeat' ((fail_if_success with_reducible refine nph ?_); first | (with_reducible first | (refine d_seq ?_; intro K hK) | (refine hK _ _ ?_; clear hK K) | refine d_blk ?_ | refine d_rt0 ?_ | refine d_sk0 ?_ | refine d_ex0 ?_ | (refine r_nwc ?_; intro b)) | (first | ((with_reducible refine d_cnd ?_); refine And.intro ?_ ?_) | with_reducible refine r_cnd ?_ ?_) <;> intro hc <;> try simp only [push_cast, Int.reduceEq, Int.reduceLT, Int.reduceLE, Int.reduceNe] at hc | with_reducible refine r_rq (by first | decide | omega) ?_ | ((with_reducible first | apply i_lds | apply i_ldsq | apply i_ld | apply i_ldq); exact rfl) | ((with_reducible first | apply i_ldn | apply i_ldnq); exact rfl; exact rfl; exact rfl) | (with_reducible first | refine r_ph0 ?_ | apply i_kp0) | ((with_reducible first | apply i_st | apply i_stl); (focus simp); exact rfl) | ((try with_reducible refine d_reg ?_); simp only [go_sem, Nat.reduceAdd, Nat.reduceEqDiff, Int.reduceToNat, Nat.reduceMul, Nat.reduceSub]) | clear hK K)
  refine i_clq C6 ?_
  repeat' ((fail_if_success with_reducible refine nph ?_); first | (with_reducible first | (refine d_seq ?_; intro K hK) | (refine hK _ _ ?_; clear hK K) | refine d_blk ?_ | refine d_rt0 ?_ | refine d_sk0 ?_ | refine d_ex0 ?_ | (refine r_nwc ?_; intro b)) | (first | ((with_reducible refine d_cnd ?_); refine And.intro ?_ ?_) | with_reducible refine r_cnd ?_ ?_) <;> intro hc <;> try simp only [push_cast, Int.reduceEq, Int.reduceLT, Int.reduceLE, Int.reduceNe] at hc | with_reducible refine r_rq (by first | decide | omega) ?_ | ((with_reducible first | apply i_lds | apply i_ldsq | apply i_ld | apply i_ldq); exact rfl) | ((with_reducible first | apply i_ldn | apply i_ldnq); exact rfl; exact rfl; exact rfl) | (with_reducible first | refine r_ph0 ?_ | apply i_kp0) | ((with_reducible first | apply i_st | apply i_stl); (focus simp); exact rfl) | ((try with_reducible refine d_reg ?_); simp only [go_sem, Nat.reduceAdd, Nat.reduceEqDiff, Int.reduceToNat, Nat.reduceMul, Nat.reduceSub]) | clear hK K)
  refine i_cal O7 ?_
  rintro y X ⟨q2, Y2, ρ2, rfl, rfl, hW2, hE2⟩
  repeat' ((fail_if_success with_reducible refine nph ?_); first | (with_reducible first | (refine d_seq ?_; intro K hK) | (refine hK _ _ ?_; clear hK K) | refine d_blk ?_ | refine d_rt0 ?_ | refine d_sk0 ?_ | refine d_ex0 ?_ | (refine r_nwc ?_; intro b)) | (first | ((with_reducible refine d_cnd ?_); refine And.intro ?_ ?_) | with_reducible refine r_cnd ?_ ?_) <;> intro hc <;> try simp only [push_cast, Int.reduceEq, Int.reduceLT, Int.reduceLE, Int.reduceNe] at hc | with_reducible refine r_rq (by first | decide | omega) ?_ | ((with_reducible first | apply i_lds | apply i_ldsq | apply i_ld | apply i_ldq); exact rfl) | ((with_reducible first | apply i_ldn | apply i_ldnq); exact rfl; exact rfl; exact rfl) | (with_reducible first | refine r_ph0 ?_ | apply i_kp0) | ((with_reducible first | apply i_st | apply i_stl); (focus simp); exact rfl) | ((try with_reducible refine d_reg ?_); simp only [go_sem, Nat.reduceAdd, Nat.reduceEqDiff, Int.reduceToNat, Nat.reduceMul, Nat.reduceSub]) | clear hK K)
  all_goals try contradiction
  have hlen : (f1 ++ f2).length ≤ 1000000 := by omega
  have R8 := g25 ⟨q2, 1, 10, 2, f1 ++ f2, 38, false⟩ sb hlen
  dsimp only at R8
  rw [hrec] at R8
  refine i_cal R8 ?_
  rintro ⟨⟨p, n, c⟩, y2⟩ X ⟨S, rs, rfl, hRL⟩
  replace hRL : RL S rs [cm 1, cm 2] := hRL
  dsimp only [List.cons_append, List.nil_append]
  obtain ⟨r1, r2, rfl, hr⟩ := hRL.two
  have hr2 := hr.e
  have htx : r2.Txn = 2 := by
    have := congrArg Rc.txn hr2
    exact this.symm
  refine i_ow (t := 36) (sz := 13) (p, n, c) fun hR => ?_
  obtain rfl : n = 2 := hR.len rcl_len (by decide)
  obtain ⟨a, rfl⟩ := hR.ptr (by decide)
  repeat' ((fail_if_success with_reducible refine nph ?_); first | (with_reducible first | (refine d_seq ?_; intro K hK) | (refine hK _ _ ?_; clear hK K) | refine d_blk ?_ | refine d_rt0 ?_ | refine d_sk0 ?_ | refine d_ex0 ?_ | (refine r_nwc ?_; intro b)) | (first | ((with_reducible refine d_cnd ?_); refine And.intro ?_ ?_) | with_reducible refine r_cnd ?_ ?_) <;> intro hc <;> try simp only [push_cast, Int.reduceEq, Int.reduceLT, Int.reduceLE, Int.reduceNe] at hc | with_reducible refine r_rq (by first | decide | omega) ?_ | ((with_reducible first | apply i_lds | apply i_ldsq | apply i_ld | apply i_ldq); exact rfl) | ((with_reducible first | apply i_ldn | apply i_ldnq); exact rfl; exact rfl; exact rfl) | (with_reducible first | refine r_ph0 ?_ | apply i_kp0) | ((with_reducible first | apply i_st | apply i_stl); (focus simp); exact rfl) | ((try with_reducible refine d_reg ?_); simp only [go_sem, Nat.reduceAdd, Nat.reduceEqDiff, Int.reduceToNat, Nat.reduceMul, Nat.reduceSub]) | clear hK K)
  all_goals try contradiction
  refine i_sj (i := 1) (j := 1) hR rcl_len (x := r2) rfl rfl ?_
  repeat' ((fail_if_success with_reducible refine nph ?_); first | (with_reducible first | (refine d_seq ?_; intro K hK) | (refine hK _ _ ?_; clear hK K) | refine d_blk ?_ | refine d_rt0 ?_ | refine d_sk0 ?_ | refine d_ex0 ?_ | (refine r_nwc ?_; intro b)) | (first | ((with_reducible refine d_cnd ?_); refine And.intro ?_ ?_) | with_reducible refine r_cnd ?_ ?_) <;> intro hc <;> try simp only [push_cast, Int.reduceEq, Int.reduceLT, Int.reduceLE, Int.reduceNe] at hc | with_reducible refine r_rq (by first | decide | omega) ?_ | ((with_reducible first | apply i_lds | apply i_ldsq | apply i_ld | apply i_ldq); exact rfl) | ((with_reducible first | apply i_ldn | apply i_ldnq); exact rfl; exact rfl; exact rfl) | (with_reducible first | refine r_ph0 ?_ | apply i_kp0) | ((with_reducible first | apply i_st | apply i_stl); (focus simp); exact rfl) | ((try with_reducible refine d_reg ?_); simp only [go_sem, Nat.reduceAdd, Nat.reduceEqDiff, Int.reduceToNat, Nat.reduceMul, Nat.reduceSub]) | clear hK K)
  rw [htx]
  (with_reducible first | apply i_ret0 | apply i_ret2 | apply i_ret3 | apply i_ret); exact rfl
  rfl
end Go.Sp
/- What each region of the Go functions does. Written by my own generator. -/
namespace Go.Sp
open Go
set_option maxRecDepth 100000
set_option linter.unusedVariables false
open Go.Proofs
/-! gharry.gharrylaw08.WalOpens -/
noncomputable def c5 : Cfg := { P := Tryz.prog, n := 135, T := TT, body := (Tryz.f5.body).getD .skip, res := Tryz.f5.results.toList, li := lk [] [(0, [0, 1, 2, 3]), (1, [0, 1, 2, 3]), (2, []), (3, [0, 1, 2, 3]), (4, [0, 1, 2, 3, 9, 10]), (5, [0, 1, 2, 3, 10, 11, 12]), (6, [0, 1, 2, 3, 10, 11, 12, 13, 14]), (7, []), (8, [0, 1, 2, 3, 11, 12]), (9, [11, 12]), (10, [0, 1, 2, 3, 11, 12]), (11, [11, 12]), (12, [2, 3, 11, 12])], lo := lk [] [(0, [0, 1, 2, 3]), (1, [0, 1, 2, 3, 20]), (2, [8]), (3, [0, 1, 2, 3, 9, 10]), (4, [0, 1, 2, 3, 10, 11, 12]), (5, [0, 1, 2, 3, 10, 11, 12, 13, 14]), (6, [0, 1, 2, 3, 11, 12, 51]), (7, [8]), (8, [0, 1, 2, 3, 11, 12, 65]), (9, [8]), (10, [2, 3, 11, 12, 84]), (11, [8]), (12, [8]), (1000000, [8])], ord := lk (false, []) [] }
@[go_sem] theorem c5_i0 : c5.li 0 = [0, 1, 2, 3] := rfl
@[go_sem] theorem c5_i1 : c5.li 1 = [0, 1, 2, 3] := rfl
@[go_sem] theorem c5_i2 : c5.li 2 = [] := rfl
@[go_sem] theorem c5_i3 : c5.li 3 = [0, 1, 2, 3] := rfl
@[go_sem] theorem c5_i4 : c5.li 4 = [0, 1, 2, 3, 9, 10] := rfl
@[go_sem] theorem c5_i5 : c5.li 5 = [0, 1, 2, 3, 10, 11, 12] := rfl
@[go_sem] theorem c5_i6 : c5.li 6 = [0, 1, 2, 3, 10, 11, 12, 13, 14] := rfl
@[go_sem] theorem c5_i7 : c5.li 7 = [] := rfl
@[go_sem] theorem c5_i8 : c5.li 8 = [0, 1, 2, 3, 11, 12] := rfl
@[go_sem] theorem c5_i9 : c5.li 9 = [11, 12] := rfl
@[go_sem] theorem c5_i10 : c5.li 10 = [0, 1, 2, 3, 11, 12] := rfl
@[go_sem] theorem c5_i11 : c5.li 11 = [11, 12] := rfl
@[go_sem] theorem c5_i12 : c5.li 12 = [2, 3, 11, 12] := rfl
@[go_sem] theorem c5_r0 (sectors0 : Int) (base1 : Int) (n2 : Int) (run3 : Int) (K : Env → W) : RP c5 0 [(0, .int .i64 sectors0), (1, .int .i64 base1), (2, .int .i64 n2), (3, .int .i64 run3)] K =
    (K [(0, .int .i64 sectors0), (1, .int .i64 base1), (2, .int .i64 n2), (3, .int .i64 run3)]) := by kernel_rfl
@[go_sem] theorem c5_r1 (sectors0 : Int) (base1 : Int) (n2 : Int) (run3 : Int) (K : Env → W) : RP c5 1 [(0, .int .i64 sectors0), (1, .int .i64 base1), (2, .int .i64 n2), (3, .int .i64 run3)] K =
    (cnd ((decide (sectors0 < (1 : Int)))) (K [(0, .int .i64 sectors0), (1, .int .i64 base1), (2, .int .i64 n2), (3, .int .i64 run3), (20, .bool true)]) (K [(0, .int .i64 sectors0), (1, .int .i64 base1), (2, .int .i64 n2), (3, .int .i64 run3), (20, .bool ((decide ((100 : Int) < sectors0))))])) := by kernel_rfl
@[go_sem] theorem c5_r2 (K : Env → W) : RP c5 2 [] K =
    (cal eB Tryz.prog 15 #[] fun (y1_ : Bool) => (K [(8, .bool y1_)])) := by kernel_rfl
@[go_sem] theorem c5_r3 (sectors0 : Int) (base1 : Int) (n2 : Int) (run3 : Int) (K : Env → W) : RP c5 3 [(0, .int .i64 sectors0), (1, .int .i64 base1), (2, .int .i64 n2), (3, .int .i64 run3)] K =
    (cal (eT2 eP eI) Tryz.prog 16 #[.int .i64 sectors0] fun (y1_ : ((Option Addr) × Int)) => (K [(0, .int .i64 sectors0), (1, .int .i64 base1), (2, .int .i64 n2), (3, .int .i64 run3), (9, .pointer y1_.1), (10, .int .i64 y1_.2)])) := by kernel_rfl
@[go_sem] theorem c5_r4 (sectors0 : Int) (base1 : Int) (n2 : Int) (run3 : Int) (d9 : Option Addr) (e10 : Int) (K : Env → W) : RP c5 4 [(0, .int .i64 sectors0), (1, .int .i64 base1), (2, .int .i64 n2), (3, .int .i64 run3), (9, .pointer d9), (10, .int .i64 e10)] K =
    (cal (eT2 eP eI) Tryz.prog 17 #[.pointer d9, .int .i64 base1, .int .i64 n2, .int .i64 run3] fun (y1_ : ((Option Addr) × Int)) => (K [(0, .int .i64 sectors0), (1, .int .i64 base1), (2, .int .i64 n2), (3, .int .i64 run3), (10, .int .i64 e10), (11, .pointer y1_.1), (12, .int .i64 y1_.2)])) := by kernel_rfl
@[go_sem] theorem c5_r5 (sectors0 : Int) (base1 : Int) (n2 : Int) (run3 : Int) (e10 : Int) (l11 : Option Addr) (f12 : Int) (K : Env → W) : RP c5 5 [(0, .int .i64 sectors0), (1, .int .i64 base1), (2, .int .i64 n2), (3, .int .i64 run3), (10, .int .i64 e10), (11, .pointer l11), (12, .int .i64 f12)] K =
    (cal (eT2 eP eI) Tryz.prog 17 #[.pointer none, .int .i64 base1, .int .i64 n2, .int .i64 run3] fun (y1_ : ((Option Addr) × Int)) => (K [(0, .int .i64 sectors0), (1, .int .i64 base1), (2, .int .i64 n2), (3, .int .i64 run3), (10, .int .i64 e10), (11, .pointer l11), (12, .int .i64 f12), (13, .pointer y1_.1), (14, .int .i64 y1_.2)])) := by kernel_rfl
@[go_sem] theorem c5_r6 (sectors0 : Int) (base1 : Int) (n2 : Int) (run3 : Int) (e10 : Int) (l11 : Option Addr) (f12 : Int) (z13 : Option Addr) (g14 : Int) (K : Env → W) : RP c5 6 [(0, .int .i64 sectors0), (1, .int .i64 base1), (2, .int .i64 n2), (3, .int .i64 run3), (10, .int .i64 e10), (11, .pointer l11), (12, .int .i64 f12), (13, .pointer z13), (14, .int .i64 g14)] K =
    (cnd ((e10 != (0 : Int))) (K [(0, .int .i64 sectors0), (1, .int .i64 base1), (2, .int .i64 n2), (3, .int .i64 run3), (11, .pointer l11), (12, .int .i64 f12), (51, .bool true)]) (cnd ((!(z13).isNone)) (K [(0, .int .i64 sectors0), (1, .int .i64 base1), (2, .int .i64 n2), (3, .int .i64 run3), (11, .pointer l11), (12, .int .i64 f12), (51, .bool true)]) (K [(0, .int .i64 sectors0), (1, .int .i64 base1), (2, .int .i64 n2), (3, .int .i64 run3), (11, .pointer l11), (12, .int .i64 f12), (51, .bool ((g14 != (1 : Int))))]))) := by kernel_rfl
@[go_sem] theorem c5_r7 (K : Env → W) : RP c5 7 [] K =
    (K [(8, .bool false)]) := by kernel_rfl
@[go_sem] theorem c5_r8 (sectors0 : Int) (base1 : Int) (n2 : Int) (run3 : Int) (l11 : Option Addr) (f12 : Int) (K : Env → W) : RP c5 8 [(0, .int .i64 sectors0), (1, .int .i64 base1), (2, .int .i64 n2), (3, .int .i64 run3), (11, .pointer l11), (12, .int .i64 f12)] K =
    (cnd ((decide (base1 < (0 : Int)))) (K [(0, .int .i64 sectors0), (1, .int .i64 base1), (2, .int .i64 n2), (3, .int .i64 run3), (11, .pointer l11), (12, .int .i64 f12), (65, .bool true)]) (cnd ((decide (n2 < (1 : Int)))) (K [(0, .int .i64 sectors0), (1, .int .i64 base1), (2, .int .i64 n2), (3, .int .i64 run3), (11, .pointer l11), (12, .int .i64 f12), (65, .bool true)]) (cnd ((decide (run3 < (1 : Int)))) (K [(0, .int .i64 sectors0), (1, .int .i64 base1), (2, .int .i64 n2), (3, .int .i64 run3), (11, .pointer l11), (12, .int .i64 f12), (65, .bool true)]) (K [(0, .int .i64 sectors0), (1, .int .i64 base1), (2, .int .i64 n2), (3, .int .i64 run3), (11, .pointer l11), (12, .int .i64 f12), (65, .bool ((decide ((4294967295 : Int) < run3))))])))) := by kernel_rfl
@[go_sem] theorem c5_r9 (l11 : Option Addr) (f12 : Int) (K : Env → W) : RP c5 9 [(11, .pointer l11), (12, .int .i64 f12)] K =
    (cnd ((l11).isNone) (cnd ((f12 == (1 : Int))) (cal eB Tryz.prog 15 #[] fun (y1_ : Bool) => (K [(8, .bool y1_)])) (K [(8, .bool false)])) (K [(8, .bool false)])) := by kernel_rfl
@[go_sem] theorem c5_r10 (sectors0 : Int) (base1 : Int) (n2 : Int) (run3 : Int) (l11 : Option Addr) (f12 : Int) (K : Env → W) : RP c5 10 [(0, .int .i64 sectors0), (1, .int .i64 base1), (2, .int .i64 n2), (3, .int .i64 run3), (11, .pointer l11), (12, .int .i64 f12)] K =
    (cnd ((decide (sectors0 < base1))) (K [(2, .int .i64 n2), (3, .int .i64 run3), (11, .pointer l11), (12, .int .i64 f12), (84, .bool true)]) (K [(2, .int .i64 n2), (3, .int .i64 run3), (11, .pointer l11), (12, .int .i64 f12), (84, .bool ((decide ((IntKind.wrap .i64 (sectors0 - base1)) < n2))))])) := by kernel_rfl
@[go_sem] theorem c5_r11 (l11 : Option Addr) (f12 : Int) (K : Env → W) : RP c5 11 [(11, .pointer l11), (12, .int .i64 f12)] K =
    (cnd ((l11).isNone) (cnd ((f12 == (6 : Int))) (cal eB Tryz.prog 15 #[] fun (y1_ : Bool) => (K [(8, .bool y1_)])) (K [(8, .bool false)])) (K [(8, .bool false)])) := by kernel_rfl
@[go_sem] theorem c5_r12 (n2 : Int) (run3 : Int) (l11 : Option Addr) (f12 : Int) (K : Env → W) : RP c5 12 [(2, .int .i64 n2), (3, .int .i64 run3), (11, .pointer l11), (12, .int .i64 f12)] K =
    (cnd ((!(l11).isNone)) (cnd ((f12 == (0 : Int))) (cal eI Tryz.prog 28 #[.pointer l11] fun (y1_ : Int) => (cnd ((y1_ == (1 : Int))) (cal eI Tryz.prog 29 #[.pointer l11] fun (y2_ : Int) => (cnd ((y2_ == (1 : Int))) (cal eI Tryz.prog 30 #[.pointer l11] fun (y3_ : Int) => (cnd ((y3_ == (IntKind.wrap .i64 ((58 : Int) * n2)))) (cal eI Tryz.prog 31 #[.pointer l11] fun (y4_ : Int) => (cnd ((y4_ == run3)) (cal eB Tryz.prog 32 #[.pointer l11, .int .i64 (1 : Int)] fun (y5_ : Bool) => (cnd y5_ (cal eB Tryz.prog 32 #[.pointer l11, .int .i64 (2 : Int)] fun (y6_ : Bool) => (cnd ((!y6_)) (cal eB Tryz.prog 15 #[] fun (y7_ : Bool) => (K [(8, .bool y7_)])) (K [(8, .bool false)]))) (K [(8, .bool false)]))) (K [(8, .bool false)]))) (K [(8, .bool false)]))) (K [(8, .bool false)]))) (K [(8, .bool false)]))) (K [(8, .bool false)])) (K [(8, .bool false)])) := by kernel_rfl
@[go_sem] theorem c5_o : c5.lo 1000000 = [8] := rfl
@[go_sem] theorem c5_e (t8 : Bool) (k : Value → W) : RTp c5 [(8, .bool t8)] k = (k (.bool t8)) := by kernel_rfl
theorem c5_ok : (c5.P.follows .mixedOrders && okc c5 c5.body) = true := by kernel_rfl
theorem c5_fn {e : Enc} {args : Array Value} {G : e.α → W} {L : List HP} {ρ : Env} (hρ : envA 0 args.toList = ρ) (hs : Nat.ble args.size 135 = true) (h : E L (D c5 (.seq (.reg 0) (.seq (.seq (.reg 1) (.cond (.tmp 20) (.seq (.reg 2) (.ret)) (.skip))) (.seq (.reg 3) (.seq (.reg 4) (.seq (.reg 5) (.seq (.seq (.reg 6) (.cond (.tmp 51) (.seq (.reg 7) (.ret)) (.skip))) (.seq (.seq (.reg 8) (.cond (.tmp 65) (.seq (.reg 9) (.ret)) (.skip))) (.seq (.seq (.reg 10) (.cond (.tmp 84) (.seq (.reg 11) (.ret)) (.skip))) (.seq (.reg 12) (.ret)))))))))) (fnQ c5 e G) ρ)) : E L (cal e Tryz.prog 5 args G) :=
  d_fn (c := c5) Tryz.func5 (by kernel_rfl) (by kernel_rfl) (by kernel_rfl) c5_ok (by kernel_rfl) (by kernel_rfl) hρ hs h
end Go.Sp
/- The log's layer: which logs there are. -/
namespace Go.Sp
open Go Go.Proofs
set_option linter.unusedSimpArgs false
set_option linter.unusedVariables false
set_option maxRecDepth 10000
theorem g17n (base sectors run : Int) : Fp (eT2 eP eI) Tryz.prog 17 #[.pointer none, .int .i64 base, .int .i64 sectors, .int .i64 run] [] (none, 1) := fun L => by
  refine c17_fn rfl rfl ?_
  repeat' ((fail_if_success with_reducible refine nph ?_); first | (with_reducible first | (refine d_seq ?_; intro K hK) | (refine hK _ _ ?_; clear hK K) | refine d_blk ?_ | refine d_rt0 ?_ | refine d_sk0 ?_ | refine d_ex0 ?_ | (refine r_nwc ?_; intro b)) | (first | ((with_reducible refine d_cnd ?_); refine And.intro ?_ ?_) | with_reducible refine r_cnd ?_ ?_) <;> intro hc <;> try simp only [push_cast, Int.reduceEq, Int.reduceLT, Int.reduceLE, Int.reduceNe] at hc | with_reducible refine r_rq (by first | decide | omega) ?_ | ((with_reducible first | apply i_lds | apply i_ldsq | apply i_ld | apply i_ldq); exact rfl) | ((with_reducible first | apply i_ldn | apply i_ldnq); exact rfl; exact rfl; exact rfl) | (with_reducible first | refine r_ph0 ?_ | apply i_kp0) | ((with_reducible first | apply i_st | apply i_stl); (focus simp); exact rfl) | ((try with_reducible refine d_reg ?_); simp only [go_sem, Nat.reduceAdd, Nat.reduceEqDiff, Int.reduceToNat, Nat.reduceMul, Nat.reduceSub]) | clear hK K)
  refine i_clp (g67n base sectors run) ?_
  repeat' ((fail_if_success with_reducible refine nph ?_); first | (with_reducible first | (refine d_seq ?_; intro K hK) | (refine hK _ _ ?_; clear hK K) | refine d_blk ?_ | refine d_rt0 ?_ | refine d_sk0 ?_ | refine d_ex0 ?_ | (refine r_nwc ?_; intro b)) | (first | ((with_reducible refine d_cnd ?_); refine And.intro ?_ ?_) | with_reducible refine r_cnd ?_ ?_) <;> intro hc <;> try simp only [push_cast, Int.reduceEq, Int.reduceLT, Int.reduceLE, Int.reduceNe] at hc | with_reducible refine r_rq (by first | decide | omega) ?_ | ((with_reducible first | apply i_lds | apply i_ldsq | apply i_ld | apply i_ldq); exact rfl) | ((with_reducible first | apply i_ldn | apply i_ldnq); exact rfl; exact rfl; exact rfl) | (with_reducible first | refine r_ph0 ?_ | apply i_kp0) | ((with_reducible first | apply i_st | apply i_stl); (focus simp); exact rfl) | ((try with_reducible refine d_reg ?_); simp only [go_sem, Nat.reduceAdd, Nat.reduceEqDiff, Int.reduceToNat, Nat.reduceMul, Nat.reduceSub]) | clear hK K)
  all_goals try contradiction
  (with_reducible first | apply i_ret0 | apply i_ret2 | apply i_ret3 | apply i_ret); exact rfl
  rfl
theorem open_no {Z : Dk} {sb n : Nat} (hc : Z.calm sb n) {base S run : Int} (w1 : wf64 base) (w2 : wf64 S) {e : Int} (he : lchk n base S run = e) (h0 : e ≠ 0) :
    Fp (eT2 eP eI) Tryz.prog 17 #[.pointer (some ⟨sb, 0, none⟩), .int .i64 base, .int .i64 S, .int .i64 run] [dk Z] (none, e) := fun L w hw => by
  have F := g17 Z hc.ok base S run w1 w2
  rw [hc.sb, hc.n, he] at F
  simp only [h0, if_false] at F
  refine (F L w hw).mono ?_
  rintro _ w' ⟨y, he, X, ⟨rfl, rfl⟩, hX⟩
  exact ⟨_, he, _, ⟨rfl, rfl⟩, hX⟩
set_option maxHeartbeats 1000000 in
theorem g5 (s base n run : Int) (w1 : wf64 base) (w2 : wf64 n) (w3 : wf64 run) : Fp eB Tryz.prog 5 #[.int .i64 s, .int .i64 base, .int .i64 n, .int .i64 run] [] true := fun L => by
  unfold wf64 at w1 w2 w3
  refine c5_fn rfl rfl ?_
  by_cases hs : s < 1 ∨ 100 < s
  · repeat' ((fail_if_success with_reducible refine nph ?_); first | (with_reducible first | (refine d_seq ?_; intro K hK) | (refine hK _ _ ?_; clear hK K) | refine d_blk ?_ | refine d_rt0 ?_ | refine d_sk0 ?_ | refine d_ex0 ?_ | (refine r_nwc ?_; intro b)) | (first | ((with_reducible refine d_cnd ?_); refine And.intro ?_ ?_) | with_reducible refine r_cnd ?_ ?_) <;> intro hc <;> try simp only [push_cast, Int.reduceEq, Int.reduceLT, Int.reduceLE, Int.reduceNe] at hc | with_reducible refine r_rq (by first | decide | omega) ?_ | ((with_reducible first | apply i_lds | apply i_ldsq | apply i_ld | apply i_ldq); exact rfl) | ((with_reducible first | apply i_ldn | apply i_ldnq); exact rfl; exact rfl; exact rfl) | (with_reducible first | refine r_ph0 ?_ | apply i_kp0) | ((with_reducible first | apply i_st | apply i_stl); (focus simp); exact rfl) | ((try with_reducible refine d_reg ?_); simp only [go_sem, Nat.reduceAdd, Nat.reduceEqDiff, Int.reduceToNat, Nat.reduceMul, Nat.reduceSub]) | clear hK K)
    all_goals try (exfalso; omega)
    all_goals try contradiction
    all_goals refine i_clp g15 ?_
    all_goals repeat' ((fail_if_success with_reducible refine nph ?_); first | (with_reducible first | (refine d_seq ?_; intro K hK) | (refine hK _ _ ?_; clear hK K) | refine d_blk ?_ | refine d_rt0 ?_ | refine d_sk0 ?_ | refine d_ex0 ?_ | (refine r_nwc ?_; intro b)) | (first | ((with_reducible refine d_cnd ?_); refine And.intro ?_ ?_) | with_reducible refine r_cnd ?_ ?_) <;> intro hc <;> try simp only [push_cast, Int.reduceEq, Int.reduceLT, Int.reduceLE, Int.reduceNe] at hc | with_reducible refine r_rq (by first | decide | omega) ?_ | ((with_reducible first | apply i_lds | apply i_ldsq | apply i_ld | apply i_ldq); exact rfl) | ((with_reducible first | apply i_ldn | apply i_ldnq); exact rfl; exact rfl; exact rfl) | (with_reducible first | refine r_ph0 ?_ | apply i_kp0) | ((with_reducible first | apply i_st | apply i_stl); (focus simp); exact rfl) | ((try with_reducible refine d_reg ?_); simp only [go_sem, Nat.reduceAdd, Nat.reduceEqDiff, Int.reduceToNat, Nat.reduceMul, Nat.reduceSub]) | clear hK K)
    all_goals ((with_reducible first | apply i_ret0 | apply i_ret2 | apply i_ret3 | apply i_ret); exact rfl; rfl)
  obtain ⟨k, rfl⟩ : ∃ k : Nat, s = (k : Int) := ⟨s.toNat, by omega⟩
  repeat' ((fail_if_success with_reducible refine nph ?_); first | (with_reducible first | (refine d_seq ?_; intro K hK) | (refine hK _ _ ?_; clear hK K) | refine d_blk ?_ | refine d_rt0 ?_ | refine d_sk0 ?_ | refine d_ex0 ?_ | (refine r_nwc ?_; intro b)) | (first | ((with_reducible refine d_cnd ?_); refine And.intro ?_ ?_) | with_reducible refine r_cnd ?_ ?_) <;> intro hc <;> try simp only [push_cast, Int.reduceEq, Int.reduceLT, Int.reduceLE, Int.reduceNe] at hc | with_reducible refine r_rq (by first | decide | omega) ?_ | ((with_reducible first | apply i_lds | apply i_ldsq | apply i_ld | apply i_ldq); exact rfl) | ((with_reducible first | apply i_ldn | apply i_ldnq); exact rfl; exact rfl; exact rfl) | (with_reducible first | refine r_ph0 ?_ | apply i_kp0) | ((with_reducible first | apply i_st | apply i_stl); (focus simp); exact rfl) | ((try with_reducible refine d_reg ?_); simp only [go_sem, Nat.reduceAdd, Nat.reduceEqDiff, Int.reduceToNat, Nat.reduceMul, Nat.reduceSub]) | clear hK K)
  all_goals try (exfalso; omega)
  all_goals try contradiction
  refine i_cal (F25 k (by omega) (by omega)) ?_
  rintro y X ⟨sb, bb, mb, rfl, rfl⟩
  have hc0 : (Dk.new sb bb mb k).calm sb k := Dk.calm.new (by omega) (by omega)
  have hz : ∀ j, j < k → at4 ((Dk.new sb bb mb k).get (j : Int)) = 0 := fun m hm => by rw [new_get hm]; exact at4_nil
  generalize Dk.new sb bb mb k = Z at *
  by_cases hA : base < 0 ∨ n < 1 ∨ run < 1 ∨ 4294967295 < run
  · have O := open_no hc0 (base := base) (S := n) (run := run) w1 w2 (e := 1) (by unfold lchk; rw [if_pos (by omega)]) (by decide)
    repeat' ((fail_if_success with_reducible refine nph ?_); first | (with_reducible first | (refine d_seq ?_; intro K hK) | (refine hK _ _ ?_; clear hK K) | refine d_blk ?_ | refine d_rt0 ?_ | refine d_sk0 ?_ | refine d_ex0 ?_ | (refine r_nwc ?_; intro b)) | (first | ((with_reducible refine d_cnd ?_); refine And.intro ?_ ?_) | with_reducible refine r_cnd ?_ ?_) <;> intro hc <;> try simp only [push_cast, Int.reduceEq, Int.reduceLT, Int.reduceLE, Int.reduceNe] at hc | with_reducible refine r_rq (by first | decide | omega) ?_ | ((with_reducible first | apply i_lds | apply i_ldsq | apply i_ld | apply i_ldq); exact rfl) | ((with_reducible first | apply i_ldn | apply i_ldnq); exact rfl; exact rfl; exact rfl) | (with_reducible first | refine r_ph0 ?_ | apply i_kp0) | ((with_reducible first | apply i_st | apply i_stl); (focus simp); exact rfl) | ((try with_reducible refine d_reg ?_); simp only [go_sem, Nat.reduceAdd, Nat.reduceEqDiff, Int.reduceToNat, Nat.reduceMul, Nat.reduceSub]) | clear hK K)
    refine i_clp O ?_
    repeat' ((fail_if_success with_reducible refine nph ?_); first | (with_reducible first | (refine d_seq ?_; intro K hK) | (refine hK _ _ ?_; clear hK K) | refine d_blk ?_ | refine d_rt0 ?_ | refine d_sk0 ?_ | refine d_ex0 ?_ | (refine r_nwc ?_; intro b)) | (first | ((with_reducible refine d_cnd ?_); refine And.intro ?_ ?_) | with_reducible refine r_cnd ?_ ?_) <;> intro hc <;> try simp only [push_cast, Int.reduceEq, Int.reduceLT, Int.reduceLE, Int.reduceNe] at hc | with_reducible refine r_rq (by first | decide | omega) ?_ | ((with_reducible first | apply i_lds | apply i_ldsq | apply i_ld | apply i_ldq); exact rfl) | ((with_reducible first | apply i_ldn | apply i_ldnq); exact rfl; exact rfl; exact rfl) | (with_reducible first | refine r_ph0 ?_ | apply i_kp0) | ((with_reducible first | apply i_st | apply i_stl); (focus simp); exact rfl) | ((try with_reducible refine d_reg ?_); simp only [go_sem, Nat.reduceAdd, Nat.reduceEqDiff, Int.reduceToNat, Nat.reduceMul, Nat.reduceSub]) | clear hK K)
    refine i_clp (g17n base n run) ?_
    repeat' ((fail_if_success with_reducible refine nph ?_); first | (with_reducible first | (refine d_seq ?_; intro K hK) | (refine hK _ _ ?_; clear hK K) | refine d_blk ?_ | refine d_rt0 ?_ | refine d_sk0 ?_ | refine d_ex0 ?_ | (refine r_nwc ?_; intro b)) | (first | ((with_reducible refine d_cnd ?_); refine And.intro ?_ ?_) | with_reducible refine r_cnd ?_ ?_) <;> intro hc <;> try simp only [push_cast, Int.reduceEq, Int.reduceLT, Int.reduceLE, Int.reduceNe] at hc | with_reducible refine r_rq (by first | decide | omega) ?_ | ((with_reducible first | apply i_lds | apply i_ldsq | apply i_ld | apply i_ldq); exact rfl) | ((with_reducible first | apply i_ldn | apply i_ldnq); exact rfl; exact rfl; exact rfl) | (with_reducible first | refine r_ph0 ?_ | apply i_kp0) | ((with_reducible first | apply i_st | apply i_stl); (focus simp); exact rfl) | ((try with_reducible refine d_reg ?_); simp only [go_sem, Nat.reduceAdd, Nat.reduceEqDiff, Int.reduceToNat, Nat.reduceMul, Nat.reduceSub]) | clear hK K)
    all_goals try (exfalso; omega)
    all_goals try contradiction
    all_goals refine i_clp g15 ?_
    all_goals repeat' ((fail_if_success with_reducible refine nph ?_); first | (with_reducible first | (refine d_seq ?_; intro K hK) | (refine hK _ _ ?_; clear hK K) | refine d_blk ?_ | refine d_rt0 ?_ | refine d_sk0 ?_ | refine d_ex0 ?_ | (refine r_nwc ?_; intro b)) | (first | ((with_reducible refine d_cnd ?_); refine And.intro ?_ ?_) | with_reducible refine r_cnd ?_ ?_) <;> intro hc <;> try simp only [push_cast, Int.reduceEq, Int.reduceLT, Int.reduceLE, Int.reduceNe] at hc | with_reducible refine r_rq (by first | decide | omega) ?_ | ((with_reducible first | apply i_lds | apply i_ldsq | apply i_ld | apply i_ldq); exact rfl) | ((with_reducible first | apply i_ldn | apply i_ldnq); exact rfl; exact rfl; exact rfl) | (with_reducible first | refine r_ph0 ?_ | apply i_kp0) | ((with_reducible first | apply i_st | apply i_stl); (focus simp); exact rfl) | ((try with_reducible refine d_reg ?_); simp only [go_sem, Nat.reduceAdd, Nat.reduceEqDiff, Int.reduceToNat, Nat.reduceMul, Nat.reduceSub]) | clear hK K)
    all_goals ((with_reducible first | apply i_ret0 | apply i_ret2 | apply i_ret3 | apply i_ret); exact rfl; rfl)
  · by_cases hB : (k : Int) < base ∨ (k : Int) - base < n
    · have O := open_no hc0 (base := base) (S := n) (run := run) w1 w2 (e := 6) (by unfold lchk; rw [if_neg (by omega), if_pos hB]) (by decide)
      have ew : IntKind.wrap .i64 ((k : Int) - base) = (k : Int) - base := w64 (by omega) (by omega)
      repeat' ((fail_if_success with_reducible refine nph ?_); first | (with_reducible first | (refine d_seq ?_; intro K hK) | (refine hK _ _ ?_; clear hK K) | refine d_blk ?_ | refine d_rt0 ?_ | refine d_sk0 ?_ | refine d_ex0 ?_ | (refine r_nwc ?_; intro b)) | (first | ((with_reducible refine d_cnd ?_); refine And.intro ?_ ?_) | with_reducible refine r_cnd ?_ ?_) <;> intro hc <;> try simp only [push_cast, Int.reduceEq, Int.reduceLT, Int.reduceLE, Int.reduceNe] at hc | with_reducible refine r_rq (by first | decide | omega) ?_ | ((with_reducible first | apply i_lds | apply i_ldsq | apply i_ld | apply i_ldq); exact rfl) | ((with_reducible first | apply i_ldn | apply i_ldnq); exact rfl; exact rfl; exact rfl) | (with_reducible first | refine r_ph0 ?_ | apply i_kp0) | ((with_reducible first | apply i_st | apply i_stl); (focus simp); exact rfl) | ((try with_reducible refine d_reg ?_); simp only [go_sem, Nat.reduceAdd, Nat.reduceEqDiff, Int.reduceToNat, Nat.reduceMul, Nat.reduceSub]) | clear hK K)
      refine i_clp O ?_
      repeat' ((fail_if_success with_reducible refine nph ?_); first | (with_reducible first | (refine d_seq ?_; intro K hK) | (refine hK _ _ ?_; clear hK K) | refine d_blk ?_ | refine d_rt0 ?_ | refine d_sk0 ?_ | refine d_ex0 ?_ | (refine r_nwc ?_; intro b)) | (first | ((with_reducible refine d_cnd ?_); refine And.intro ?_ ?_) | with_reducible refine r_cnd ?_ ?_) <;> intro hc <;> try simp only [push_cast, Int.reduceEq, Int.reduceLT, Int.reduceLE, Int.reduceNe] at hc | with_reducible refine r_rq (by first | decide | omega) ?_ | ((with_reducible first | apply i_lds | apply i_ldsq | apply i_ld | apply i_ldq); exact rfl) | ((with_reducible first | apply i_ldn | apply i_ldnq); exact rfl; exact rfl; exact rfl) | (with_reducible first | refine r_ph0 ?_ | apply i_kp0) | ((with_reducible first | apply i_st | apply i_stl); (focus simp); exact rfl) | ((try with_reducible refine d_reg ?_); simp only [go_sem, Nat.reduceAdd, Nat.reduceEqDiff, Int.reduceToNat, Nat.reduceMul, Nat.reduceSub]) | clear hK K)
      refine i_clp (g17n base n run) ?_
      repeat' (first | rw [ew] | (fail_if_success with_reducible refine nph ?_); first | (with_reducible first | (refine d_seq ?_; intro K hK) | (refine hK _ _ ?_; clear hK K) | refine d_blk ?_ | refine d_rt0 ?_ | refine d_sk0 ?_ | refine d_ex0 ?_ | (refine r_nwc ?_; intro b)) | (first | ((with_reducible refine d_cnd ?_); refine And.intro ?_ ?_) | with_reducible refine r_cnd ?_ ?_) <;> intro hc <;> try simp only [push_cast, Int.reduceEq, Int.reduceLT, Int.reduceLE, Int.reduceNe] at hc | with_reducible refine r_rq (by first | decide | omega) ?_ | ((with_reducible first | apply i_lds | apply i_ldsq | apply i_ld | apply i_ldq); exact rfl) | ((with_reducible first | apply i_ldn | apply i_ldnq); exact rfl; exact rfl; exact rfl) | (with_reducible first | refine r_ph0 ?_ | apply i_kp0) | ((with_reducible first | apply i_st | apply i_stl); (focus simp); exact rfl) | ((try with_reducible refine d_reg ?_); simp only [go_sem, Nat.reduceAdd, Nat.reduceEqDiff, Int.reduceToNat, Nat.reduceMul, Nat.reduceSub]) | clear hK K)
      all_goals try (exfalso; omega)
      all_goals try contradiction
      all_goals refine i_clp g15 ?_
      all_goals repeat' ((fail_if_success with_reducible refine nph ?_); first | (with_reducible first | (refine d_seq ?_; intro K hK) | (refine hK _ _ ?_; clear hK K) | refine d_blk ?_ | refine d_rt0 ?_ | refine d_sk0 ?_ | refine d_ex0 ?_ | (refine r_nwc ?_; intro b)) | (first | ((with_reducible refine d_cnd ?_); refine And.intro ?_ ?_) | with_reducible refine r_cnd ?_ ?_) <;> intro hc <;> try simp only [push_cast, Int.reduceEq, Int.reduceLT, Int.reduceLE, Int.reduceNe] at hc | with_reducible refine r_rq (by first | decide | omega) ?_ | ((with_reducible first | apply i_lds | apply i_ldsq | apply i_ld | apply i_ldq); exact rfl) | ((with_reducible first | apply i_ldn | apply i_ldnq); exact rfl; exact rfl; exact rfl) | (with_reducible first | refine r_ph0 ?_ | apply i_kp0) | ((with_reducible first | apply i_st | apply i_stl); (focus simp); exact rfl) | ((try with_reducible refine d_reg ?_); simp only [go_sem, Nat.reduceAdd, Nat.reduceEqDiff, Int.reduceToNat, Nat.reduceMul, Nat.reduceSub]) | clear hK K)
      all_goals ((with_reducible first | apply i_ret0 | apply i_ret2 | apply i_ret3 | apply i_ret); exact rfl; rfl)
    · obtain ⟨b, rfl⟩ : ∃ b : Nat, base = (b : Int) := ⟨base.toNat, by omega⟩
      obtain ⟨m, rfl⟩ : ∃ b : Nat, n = (b : Int) := ⟨n.toNat, by omega⟩
      obtain ⟨r, rfl⟩ : ∃ b : Nat, run = (b : Int) := ⟨run.toNat, by omega⟩
      have ew : IntKind.wrap .i64 ((k : Int) - (b : Int)) = (k : Int) - b := w64 (by omega) (by omega)
      have ew2 : IntKind.wrap .i64 (58 * (m : Int)) = ((58 * m : Nat) : Int) := by rw [w64 (by omega) (by omega)]; omega
      repeat' ((fail_if_success with_reducible refine nph ?_); first | (with_reducible first | (refine d_seq ?_; intro K hK) | (refine hK _ _ ?_; clear hK K) | refine d_blk ?_ | refine d_rt0 ?_ | refine d_sk0 ?_ | refine d_ex0 ?_ | (refine r_nwc ?_; intro b)) | (first | ((with_reducible refine d_cnd ?_); refine And.intro ?_ ?_) | with_reducible refine r_cnd ?_ ?_) <;> intro hc <;> try simp only [push_cast, Int.reduceEq, Int.reduceLT, Int.reduceLE, Int.reduceNe] at hc | with_reducible refine r_rq (by first | decide | omega) ?_ | ((with_reducible first | apply i_lds | apply i_ldsq | apply i_ld | apply i_ldq); exact rfl) | ((with_reducible first | apply i_ldn | apply i_ldnq); exact rfl; exact rfl; exact rfl) | (with_reducible first | refine r_ph0 ?_ | apply i_kp0) | ((with_reducible first | apply i_st | apply i_stl); (focus simp); exact rfl) | ((try with_reducible refine d_reg ?_); simp only [go_sem, Nat.reduceAdd, Nat.reduceEqDiff, Int.reduceToNat, Nat.reduceMul, Nat.reduceSub]) | clear hK K)
      refine i_cal (wopen0 hc0 (base := b) (S := m) (run := r) (fun j hj => hz _ (by omega)) (by omega) (by omega) (by omega) (by omega) (by omega)) ?_
      rintro y X ⟨q, Y, ρ, rfl, rfl, hW, hE⟩
      have B1 := g32 ⟨q, b, m, r, [], 0, false⟩ sb (by simp) 1
      have B2 := g32 ⟨q, b, m, r, [], 0, false⟩ sb (by simp) 2
      have G1 := g28 ⟨q, b, m, r, [], 0, false⟩ sb (by simp)
      have G2 := g29 ⟨q, b, m, r, [], 0, false⟩ sb (by simp)
      have G3 := g30 ⟨q, b, m, r, [], 0, false⟩ sb (by simp) (by dsimp only; omega)
      have G4 := g31 ⟨q, b, m, r, [], 0, false⟩ sb
      rw [show (⟨q, b, m, r, [], 0, false⟩ : Lg).bound 1 = true from rfl] at B1
      rw [show (⟨q, b, m, r, [], 0, false⟩ : Lg).bound 2 = false from rfl] at B2
      dsimp only [List.length_nil, Nat.sub_zero] at G1 G2 G3 G4
      repeat' ((fail_if_success with_reducible refine nph ?_); first | (with_reducible first | (refine d_seq ?_; intro K hK) | (refine hK _ _ ?_; clear hK K) | refine d_blk ?_ | refine d_rt0 ?_ | refine d_sk0 ?_ | refine d_ex0 ?_ | (refine r_nwc ?_; intro b)) | (first | ((with_reducible refine d_cnd ?_); refine And.intro ?_ ?_) | with_reducible refine r_cnd ?_ ?_) <;> intro hc <;> try simp only [push_cast, Int.reduceEq, Int.reduceLT, Int.reduceLE, Int.reduceNe] at hc | with_reducible refine r_rq (by first | decide | omega) ?_ | ((with_reducible first | apply i_lds | apply i_ldsq | apply i_ld | apply i_ldq); exact rfl) | ((with_reducible first | apply i_ldn | apply i_ldnq); exact rfl; exact rfl; exact rfl) | (with_reducible first | refine r_ph0 ?_ | apply i_kp0) | ((with_reducible first | apply i_st | apply i_stl); (focus simp); exact rfl) | ((try with_reducible refine d_reg ?_); simp only [go_sem, Nat.reduceAdd, Nat.reduceEqDiff, Int.reduceToNat, Nat.reduceMul, Nat.reduceSub]) | clear hK K)
      refine i_clp (g17n (b : Int) (m : Int) (r : Int)) ?_
      repeat' (first | rw [ew] | (fail_if_success with_reducible refine nph ?_); first | (with_reducible first | (refine d_seq ?_; intro K hK) | (refine hK _ _ ?_; clear hK K) | refine d_blk ?_ | refine d_rt0 ?_ | refine d_sk0 ?_ | refine d_ex0 ?_ | (refine r_nwc ?_; intro b)) | (first | ((with_reducible refine d_cnd ?_); refine And.intro ?_ ?_) | with_reducible refine r_cnd ?_ ?_) <;> intro hc <;> try simp only [push_cast, Int.reduceEq, Int.reduceLT, Int.reduceLE, Int.reduceNe] at hc | with_reducible refine r_rq (by first | decide | omega) ?_ | ((with_reducible first | apply i_lds | apply i_ldsq | apply i_ld | apply i_ldq); exact rfl) | ((with_reducible first | apply i_ldn | apply i_ldnq); exact rfl; exact rfl; exact rfl) | (with_reducible first | refine r_ph0 ?_ | apply i_kp0) | ((with_reducible first | apply i_st | apply i_stl); (focus simp); exact rfl) | ((try with_reducible refine d_reg ?_); simp only [go_sem, Nat.reduceAdd, Nat.reduceEqDiff, Int.reduceToNat, Nat.reduceMul, Nat.reduceSub]) | clear hK K)
      all_goals try (exfalso; omega)
      all_goals try contradiction
      refine i_clp G1 ?_
      repeat' ((fail_if_success with_reducible refine nph ?_); first | (with_reducible first | (refine d_seq ?_; intro K hK) | (refine hK _ _ ?_; clear hK K) | refine d_blk ?_ | refine d_rt0 ?_ | refine d_sk0 ?_ | refine d_ex0 ?_ | (refine r_nwc ?_; intro b)) | (first | ((with_reducible refine d_cnd ?_); refine And.intro ?_ ?_) | with_reducible refine r_cnd ?_ ?_) <;> intro hc <;> try simp only [push_cast, Int.reduceEq, Int.reduceLT, Int.reduceLE, Int.reduceNe] at hc | with_reducible refine r_rq (by first | decide | omega) ?_ | ((with_reducible first | apply i_lds | apply i_ldsq | apply i_ld | apply i_ldq); exact rfl) | ((with_reducible first | apply i_ldn | apply i_ldnq); exact rfl; exact rfl; exact rfl) | (with_reducible first | refine r_ph0 ?_ | apply i_kp0) | ((with_reducible first | apply i_st | apply i_stl); (focus simp); exact rfl) | ((try with_reducible refine d_reg ?_); simp only [go_sem, Nat.reduceAdd, Nat.reduceEqDiff, Int.reduceToNat, Nat.reduceMul, Nat.reduceSub]) | clear hK K)
      all_goals try (exfalso; omega)
      all_goals try contradiction
      refine i_clp G2 ?_
      repeat' ((fail_if_success with_reducible refine nph ?_); first | (with_reducible first | (refine d_seq ?_; intro K hK) | (refine hK _ _ ?_; clear hK K) | refine d_blk ?_ | refine d_rt0 ?_ | refine d_sk0 ?_ | refine d_ex0 ?_ | (refine r_nwc ?_; intro b)) | (first | ((with_reducible refine d_cnd ?_); refine And.intro ?_ ?_) | with_reducible refine r_cnd ?_ ?_) <;> intro hc <;> try simp only [push_cast, Int.reduceEq, Int.reduceLT, Int.reduceLE, Int.reduceNe] at hc | with_reducible refine r_rq (by first | decide | omega) ?_ | ((with_reducible first | apply i_lds | apply i_ldsq | apply i_ld | apply i_ldq); exact rfl) | ((with_reducible first | apply i_ldn | apply i_ldnq); exact rfl; exact rfl; exact rfl) | (with_reducible first | refine r_ph0 ?_ | apply i_kp0) | ((with_reducible first | apply i_st | apply i_stl); (focus simp); exact rfl) | ((try with_reducible refine d_reg ?_); simp only [go_sem, Nat.reduceAdd, Nat.reduceEqDiff, Int.reduceToNat, Nat.reduceMul, Nat.reduceSub]) | clear hK K)
      all_goals try (exfalso; omega)
      all_goals try contradiction
      refine i_clp G3 ?_
      repeat' (first | rw [ew2] | (fail_if_success with_reducible refine nph ?_); first | (with_reducible first | (refine d_seq ?_; intro K hK) | (refine hK _ _ ?_; clear hK K) | refine d_blk ?_ | refine d_rt0 ?_ | refine d_sk0 ?_ | refine d_ex0 ?_ | (refine r_nwc ?_; intro b)) | (first | ((with_reducible refine d_cnd ?_); refine And.intro ?_ ?_) | with_reducible refine r_cnd ?_ ?_) <;> intro hc <;> try simp only [push_cast, Int.reduceEq, Int.reduceLT, Int.reduceLE, Int.reduceNe] at hc | with_reducible refine r_rq (by first | decide | omega) ?_ | ((with_reducible first | apply i_lds | apply i_ldsq | apply i_ld | apply i_ldq); exact rfl) | ((with_reducible first | apply i_ldn | apply i_ldnq); exact rfl; exact rfl; exact rfl) | (with_reducible first | refine r_ph0 ?_ | apply i_kp0) | ((with_reducible first | apply i_st | apply i_stl); (focus simp); exact rfl) | ((try with_reducible refine d_reg ?_); simp only [go_sem, Nat.reduceAdd, Nat.reduceEqDiff, Int.reduceToNat, Nat.reduceMul, Nat.reduceSub]) | clear hK K)
      all_goals try (exfalso; omega)
      all_goals try contradiction
      refine i_clp G4 ?_
      repeat' ((fail_if_success with_reducible refine nph ?_); first | (with_reducible first | (refine d_seq ?_; intro K hK) | (refine hK _ _ ?_; clear hK K) | refine d_blk ?_ | refine d_rt0 ?_ | refine d_sk0 ?_ | refine d_ex0 ?_ | (refine r_nwc ?_; intro b)) | (first | ((with_reducible refine d_cnd ?_); refine And.intro ?_ ?_) | with_reducible refine r_cnd ?_ ?_) <;> intro hc <;> try simp only [push_cast, Int.reduceEq, Int.reduceLT, Int.reduceLE, Int.reduceNe] at hc | with_reducible refine r_rq (by first | decide | omega) ?_ | ((with_reducible first | apply i_lds | apply i_ldsq | apply i_ld | apply i_ldq); exact rfl) | ((with_reducible first | apply i_ldn | apply i_ldnq); exact rfl; exact rfl; exact rfl) | (with_reducible first | refine r_ph0 ?_ | apply i_kp0) | ((with_reducible first | apply i_st | apply i_stl); (focus simp); exact rfl) | ((try with_reducible refine d_reg ?_); simp only [go_sem, Nat.reduceAdd, Nat.reduceEqDiff, Int.reduceToNat, Nat.reduceMul, Nat.reduceSub]) | clear hK K)
      all_goals try (exfalso; omega)
      all_goals try contradiction
      refine i_clp B1 ?_
      repeat' ((fail_if_success with_reducible refine nph ?_); first | (with_reducible first | (refine d_seq ?_; intro K hK) | (refine hK _ _ ?_; clear hK K) | refine d_blk ?_ | refine d_rt0 ?_ | refine d_sk0 ?_ | refine d_ex0 ?_ | (refine r_nwc ?_; intro b)) | (first | ((with_reducible refine d_cnd ?_); refine And.intro ?_ ?_) | with_reducible refine r_cnd ?_ ?_) <;> intro hc <;> try simp only [push_cast, Int.reduceEq, Int.reduceLT, Int.reduceLE, Int.reduceNe] at hc | with_reducible refine r_rq (by first | decide | omega) ?_ | ((with_reducible first | apply i_lds | apply i_ldsq | apply i_ld | apply i_ldq); exact rfl) | ((with_reducible first | apply i_ldn | apply i_ldnq); exact rfl; exact rfl; exact rfl) | (with_reducible first | refine r_ph0 ?_ | apply i_kp0) | ((with_reducible first | apply i_st | apply i_stl); (focus simp); exact rfl) | ((try with_reducible refine d_reg ?_); simp only [go_sem, Nat.reduceAdd, Nat.reduceEqDiff, Int.reduceToNat, Nat.reduceMul, Nat.reduceSub]) | clear hK K)
      all_goals try contradiction
      refine i_clp B2 ?_
      repeat' ((fail_if_success with_reducible refine nph ?_); first | (with_reducible first | (refine d_seq ?_; intro K hK) | (refine hK _ _ ?_; clear hK K) | refine d_blk ?_ | refine d_rt0 ?_ | refine d_sk0 ?_ | refine d_ex0 ?_ | (refine r_nwc ?_; intro b)) | (first | ((with_reducible refine d_cnd ?_); refine And.intro ?_ ?_) | with_reducible refine r_cnd ?_ ?_) <;> intro hc <;> try simp only [push_cast, Int.reduceEq, Int.reduceLT, Int.reduceLE, Int.reduceNe] at hc | with_reducible refine r_rq (by first | decide | omega) ?_ | ((with_reducible first | apply i_lds | apply i_ldsq | apply i_ld | apply i_ldq); exact rfl) | ((with_reducible first | apply i_ldn | apply i_ldnq); exact rfl; exact rfl; exact rfl) | (with_reducible first | refine r_ph0 ?_ | apply i_kp0) | ((with_reducible first | apply i_st | apply i_stl); (focus simp); exact rfl) | ((try with_reducible refine d_reg ?_); simp only [go_sem, Nat.reduceAdd, Nat.reduceEqDiff, Int.reduceToNat, Nat.reduceMul, Nat.reduceSub]) | clear hK K)
      all_goals try contradiction
      refine i_clp g15 ?_
      repeat' ((fail_if_success with_reducible refine nph ?_); first | (with_reducible first | (refine d_seq ?_; intro K hK) | (refine hK _ _ ?_; clear hK K) | refine d_blk ?_ | refine d_rt0 ?_ | refine d_sk0 ?_ | refine d_ex0 ?_ | (refine r_nwc ?_; intro b)) | (first | ((with_reducible refine d_cnd ?_); refine And.intro ?_ ?_) | with_reducible refine r_cnd ?_ ?_) <;> intro hc <;> try simp only [push_cast, Int.reduceEq, Int.reduceLT, Int.reduceLE, Int.reduceNe] at hc | with_reducible refine r_rq (by first | decide | omega) ?_ | ((with_reducible first | apply i_lds | apply i_ldsq | apply i_ld | apply i_ldq); exact rfl) | ((with_reducible first | apply i_ldn | apply i_ldnq); exact rfl; exact rfl; exact rfl) | (with_reducible first | refine r_ph0 ?_ | apply i_kp0) | ((with_reducible first | apply i_st | apply i_stl); (focus simp); exact rfl) | ((try with_reducible refine d_reg ?_); simp only [go_sem, Nat.reduceAdd, Nat.reduceEqDiff, Int.reduceToNat, Nat.reduceMul, Nat.reduceSub]) | clear hK K)
      (with_reducible first | apply i_ret0 | apply i_ret2 | apply i_ret3 | apply i_ret); exact rfl
      rfl
end Go.Sp
