/- The base: what is loaded. -/
import Derived.Test.YtpadmllpdkknnaaE2
import Derived.Test.YtpadmllpdkknnaaD7
import Derived.Test.YtpadmllpdkknnaaGb0
namespace Go.Sp
open Go Go.Proofs
set_option linter.unusedSimpArgs false
set_option linter.unusedVariables false
set_option maxRecDepth 10000
theorem raw_go (b : Nat) (s : List UInt8) (a w : Nat) (h : a + w ≤ s.length) : (⟨b, s, a, 0⟩ : Rd).raw (w : Int) = ((s.drop a).take w, ⟨b, s, a + w, 0⟩) := by
  unfold Rd.raw
  simp only [if_true]
  rw [if_neg (by omega), if_neg (by omega)]
  simp
theorem num_go (b : Nat) (s : List UInt8) (a w : Nat) (h : a + w ≤ s.length) (h1 : 1 ≤ w) (h6 : w ≤ 6) (hl : s.length ≤ 4611686018427387904) :
    Fq eI Try.prog 75 #[.pointer (some ⟨b, 0, none⟩), .int .i64 (w : Int)] (rdl ⟨b, s, a, 0⟩) (rdl ⟨b, s, a + w, 0⟩) (be ((s.drop a).take w) : Int) := by
  have := f75 ⟨b, s, a, 0⟩ (w : Int) (by omega) (by omega) hl (by simp only; omega)
  rw [raw_go b s a w h] at this
  exact this
theorem text_go (b : Nat) (s : List UInt8) (most : Nat) (h : 2 + most ≤ s.length) : (⟨b, s, 0, 0⟩ : Rd).text (most : Int) =
    if be (s.take 2) ≤ most then ((s.drop 2).take (be (s.take 2)), ⟨b, s, 2 + be (s.take 2), 0⟩) else ([], ⟨b, s, 2, 3⟩) := by
  unfold Rd.text
  have e := raw_go b s 0 2 (by omega)
  simp only [List.drop_zero, Nat.zero_add] at e
  rw [show ((2 : Nat) : Int) = 2 from rfl] at e
  rw [e]
  by_cases hm : be (s.take 2) ≤ most
  · rw [if_pos hm]
    simp only [true_and]
    rw [if_neg (by omega), raw_go b s 2 _ (by omega)]
  · rw [if_neg hm]
    simp only [true_and]
    rw [if_pos (by omega)]
    simp [Rd.fail, Rd.raw]
theorem sign_iff (s g : List UInt8) (hs : 9 ≤ s.length) (hg : g.length = 7) : (be (s.take 2) ≤ 7 ∧ (s.drop 2).take (be (s.take 2)) = g) ↔ s.take 9 = 0 :: 7 :: g := by
  match s, hs with
  | x :: y :: r, hs =>
    have e : be ((x :: y :: r).take 2) = x.toNat * 256 + y.toNat := by simp [be]
    rw [e]
    simp only [List.drop_succ_cons, List.drop_zero, List.take_succ_cons, List.cons.injEq]
    have hx := x.toNat_lt
    have hy := y.toNat_lt
    simp only [List.length_cons] at hs
    constructor
    · rintro ⟨h1, h2⟩
      have h3 := congrArg List.length h2
      rw [List.length_take, hg] at h3
      have h7 : x.toNat * 256 + y.toNat = 7 := by omega
      refine ⟨UInt8.toNat_inj.1 (by simp; omega), UInt8.toNat_inj.1 (by simp; omega), ?_⟩
      rw [h7] at h2
      exact h2
    · rintro ⟨rfl, rfl, h⟩
      exact ⟨by decide, h⟩
def sg : List UInt8 := [103, 104, 97, 114, 114, 121, 49]
def bz : base_Base := ⟨0, 0, 0, 0, 0, 0, 0⟩
/-- The base that a sector's bytes are. -/
def bof (s : List UInt8) : base_Base := ⟨be ((s.drop 9).take 1), be ((s.drop 10).take 4), be ((s.drop 14).take 2), be ((s.drop 16).take 6), be ((s.drop 22).take 6), be ((s.drop 28).take 4), be ((s.drop 32).take 4)⟩
def Dk.load (D : Dk) : base_Base × Int := if D.chk 0 = 0 then (if (D.get 0).take 9 = 0 :: 7 :: sg then (bof (D.get 0), 0) else (bz, 8)) else (bz, D.chk 0)
theorem Dk.get_len {D : Dk} (h : D.ok) {i : Int} (hi : D.chk i = 0) : (D.get i).length = 64 := by
  have hk := Dk.chk_ok hi
  unfold Dk.get
  cases hg : gk D.es i with
  | some v => obtain ⟨x, hx, _, rfl⟩ := gk_mem hg; exact h.e64 x hx
  | none =>
    have : i.toNat < D.sure.length := by omega
    exact wh_len (h.l64 _ (by simp [this]))
theorem f34 (D : Dk) (h : D.ok) : Fp (eT2 e_base_Base eI) Try.prog 34 #[D.p] [dk D] D.load := by
  have h31 := F31 D h 0
  unfold Dk.load
  simp only [Dk.p] at *
  by_cases h0 : D.chk 0 = 0
  · have hl := Dk.get_len h h0
    rw [h0, if_pos rfl] at h31
    rw [h0, if_pos rfl]
    generalize D.get 0 = s at *
    have hsg := sign_iff s sg (by omega) rfl
    intro L
    refine c34_fn rfl rfl ?_
    repeat' ((fail_if_success with_reducible refine (id : E _ (ph _) → E _ (ph _)) ?_); first | ((with_reducible refine d_seq ?_); intro K hK) | ((with_reducible refine d_reg ?_); simp only [go_sem, Nat.reduceAdd, Nat.reduceEqDiff, Int.reduceToNat, Nat.reduceMul, Nat.reduceSub]) | ((first | ((with_reducible refine d_cnd ?_); refine And.intro ?_ ?_) | (with_reducible refine r_cnd ?_ ?_)); all_goals (intro hc; (try simp only [push_cast, Int.reduceEq, Int.reduceLT, Int.reduceLE, Int.reduceNe] at hc))) | ((with_reducible refine hK _ _ ?_); clear hK; clear K) | ((with_reducible first | refine d_blk ?_ | refine d_rt0 ?_ | refine d_sk0 ?_ | refine d_ex0 ?_); (try simp only [go_sem, Nat.reduceAdd, Nat.reduceEqDiff, Int.reduceToNat, Nat.reduceMul, Nat.reduceSub])) | (with_reducible refine r_rq (by first | decide | omega) ?_) | ((with_reducible refine r_nwc ?_); intro b) | ((with_reducible first | apply i_lds | apply i_ldsq | apply i_ld | apply i_ldq); exact rfl) | ((with_reducible first | apply i_ldn | apply i_ldnq); exact rfl; exact rfl; exact rfl) | (with_reducible first | refine r_ph0 ?_ | apply i_kp0) | ((with_reducible first | apply i_st | apply i_stl); (focus simp); exact rfl) | simp only [go_sem, Nat.reduceAdd, Nat.reduceEqDiff, Int.reduceToNat, Nat.reduceMul, Nat.reduceSub] | (clear hK; clear K))
    refine i_clp h31 ?_
    repeat' ((fail_if_success with_reducible refine (id : E _ (ph _) → E _ (ph _)) ?_); first | ((with_reducible refine d_seq ?_); intro K hK) | ((with_reducible refine d_reg ?_); simp only [go_sem, Nat.reduceAdd, Nat.reduceEqDiff, Int.reduceToNat, Nat.reduceMul, Nat.reduceSub]) | ((first | ((with_reducible refine d_cnd ?_); refine And.intro ?_ ?_) | (with_reducible refine r_cnd ?_ ?_)); all_goals (intro hc; (try simp only [push_cast, Int.reduceEq, Int.reduceLT, Int.reduceLE, Int.reduceNe] at hc))) | ((with_reducible refine hK _ _ ?_); clear hK; clear K) | ((with_reducible first | refine d_blk ?_ | refine d_rt0 ?_ | refine d_sk0 ?_ | refine d_ex0 ?_); (try simp only [go_sem, Nat.reduceAdd, Nat.reduceEqDiff, Int.reduceToNat, Nat.reduceMul, Nat.reduceSub])) | (with_reducible refine r_rq (by first | decide | omega) ?_) | ((with_reducible refine r_nwc ?_); intro b) | ((with_reducible first | apply i_lds | apply i_ldsq | apply i_ld | apply i_ldq); exact rfl) | ((with_reducible first | apply i_ldn | apply i_ldnq); exact rfl; exact rfl; exact rfl) | (with_reducible first | refine r_ph0 ?_ | apply i_kp0) | ((with_reducible first | apply i_st | apply i_stl); (focus simp); exact rfl) | simp only [go_sem, Nat.reduceAdd, Nat.reduceEqDiff, Int.reduceToNat, Nat.reduceMul, Nat.reduceSub] | (clear hK; clear K))
    refine i_cal (f72 s) ?_
    rintro y X ⟨rb, rfl, rfl⟩
    repeat' ((fail_if_success with_reducible refine (id : E _ (ph _) → E _ (ph _)) ?_); first | ((with_reducible refine d_seq ?_); intro K hK) | ((with_reducible refine d_reg ?_); simp only [go_sem, Nat.reduceAdd, Nat.reduceEqDiff, Int.reduceToNat, Nat.reduceMul, Nat.reduceSub]) | ((first | ((with_reducible refine d_cnd ?_); refine And.intro ?_ ?_) | (with_reducible refine r_cnd ?_ ?_)); all_goals (intro hc; (try simp only [push_cast, Int.reduceEq, Int.reduceLT, Int.reduceLE, Int.reduceNe] at hc))) | ((with_reducible refine hK _ _ ?_); clear hK; clear K) | ((with_reducible first | refine d_blk ?_ | refine d_rt0 ?_ | refine d_sk0 ?_ | refine d_ex0 ?_); (try simp only [go_sem, Nat.reduceAdd, Nat.reduceEqDiff, Int.reduceToNat, Nat.reduceMul, Nat.reduceSub])) | (with_reducible refine r_rq (by first | decide | omega) ?_) | ((with_reducible refine r_nwc ?_); intro b) | ((with_reducible first | apply i_lds | apply i_ldsq | apply i_ld | apply i_ldq); exact rfl) | ((with_reducible first | apply i_ldn | apply i_ldnq); exact rfl; exact rfl; exact rfl) | (with_reducible first | refine r_ph0 ?_ | apply i_kp0) | ((with_reducible first | apply i_st | apply i_stl); (focus simp); exact rfl) | simp only [go_sem, Nat.reduceAdd, Nat.reduceEqDiff, Int.reduceToNat, Nat.reduceMul, Nat.reduceSub] | (clear hK; clear K))
    have ht := f73 ⟨rb, s, 0, 0⟩ ((7 : Nat) : Int) (by simp only; omega) (by simp)
    rw [text_go rb s 7 (by omega)] at ht
    have no : ¬ s.take 9 = 0 :: 7 :: sg → (if s.take 9 = 0 :: 7 :: sg then (bof s, (0 : Int)) else (bz, 8)) = (bz, 8) := fun hn => if_neg hn
    by_cases hm : be (s.take 2) ≤ 7
    · rw [if_pos hm] at ht
      by_cases hq : (s.drop 2).take (be (s.take 2)) = sg
      · have h9 := hsg.1 ⟨hm, hq⟩
        have h7 : be (s.take 2) = 7 := by
          have h3 := congrArg List.length hq
          rw [List.length_take, List.length_drop] at h3
          have : sg.length = 7 := rfl
          omega
        rw [hq, h7] at ht
        refine i_clq ht ?_
        repeat' ((fail_if_success with_reducible refine (id : E _ (ph _) → E _ (ph _)) ?_); first | ((with_reducible refine d_seq ?_); intro K hK) | ((with_reducible refine d_reg ?_); simp only [go_sem, Nat.reduceAdd, Nat.reduceEqDiff, Int.reduceToNat, Nat.reduceMul, Nat.reduceSub]) | ((first | ((with_reducible refine d_cnd ?_); refine And.intro ?_ ?_) | (with_reducible refine r_cnd ?_ ?_)); all_goals (intro hc; (try simp only [push_cast, Int.reduceEq, Int.reduceLT, Int.reduceLE, Int.reduceNe] at hc))) | ((with_reducible refine hK _ _ ?_); clear hK; clear K) | ((with_reducible first | refine d_blk ?_ | refine d_rt0 ?_ | refine d_sk0 ?_ | refine d_ex0 ?_); (try simp only [go_sem, Nat.reduceAdd, Nat.reduceEqDiff, Int.reduceToNat, Nat.reduceMul, Nat.reduceSub])) | (with_reducible refine r_rq (by first | decide | omega) ?_) | ((with_reducible refine r_nwc ?_); intro b) | ((with_reducible first | apply i_lds | apply i_ldsq | apply i_ld | apply i_ldq); exact rfl) | ((with_reducible first | apply i_ldn | apply i_ldnq); exact rfl; exact rfl; exact rfl) | (with_reducible first | refine r_ph0 ?_ | apply i_kp0) | ((with_reducible first | apply i_st | apply i_stl); (focus simp); exact rfl) | simp only [go_sem, Nat.reduceAdd, Nat.reduceEqDiff, Int.reduceToNat, Nat.reduceMul, Nat.reduceSub] | (clear hK; clear K))
        all_goals try (rename_i hx; exact absurd rfl hx)
        refine i_clp (f74 ⟨rb, s, 9, 0⟩) ?_
        repeat' ((fail_if_success with_reducible refine (id : E _ (ph _) → E _ (ph _)) ?_); first | ((with_reducible refine d_seq ?_); intro K hK) | ((with_reducible refine d_reg ?_); simp only [go_sem, Nat.reduceAdd, Nat.reduceEqDiff, Int.reduceToNat, Nat.reduceMul, Nat.reduceSub]) | ((first | ((with_reducible refine d_cnd ?_); refine And.intro ?_ ?_) | (with_reducible refine r_cnd ?_ ?_)); all_goals (intro hc; (try simp only [push_cast, Int.reduceEq, Int.reduceLT, Int.reduceLE, Int.reduceNe] at hc))) | ((with_reducible refine hK _ _ ?_); clear hK; clear K) | ((with_reducible first | refine d_blk ?_ | refine d_rt0 ?_ | refine d_sk0 ?_ | refine d_ex0 ?_); (try simp only [go_sem, Nat.reduceAdd, Nat.reduceEqDiff, Int.reduceToNat, Nat.reduceMul, Nat.reduceSub])) | (with_reducible refine r_rq (by first | decide | omega) ?_) | ((with_reducible refine r_nwc ?_); intro b) | ((with_reducible first | apply i_lds | apply i_ldsq | apply i_ld | apply i_ldq); exact rfl) | ((with_reducible first | apply i_ldn | apply i_ldnq); exact rfl; exact rfl; exact rfl) | (with_reducible first | refine r_ph0 ?_ | apply i_kp0) | ((with_reducible first | apply i_st | apply i_stl); (focus simp); exact rfl) | simp only [go_sem, Nat.reduceAdd, Nat.reduceEqDiff, Int.reduceToNat, Nat.reduceMul, Nat.reduceSub] | (clear hK; clear K))
        refine i_clq (num_go rb s 9 1 (by omega) (by omega) (by omega) (by omega)) ?_
        refine i_clq (num_go rb s 10 4 (by omega) (by omega) (by omega) (by omega)) ?_
        refine i_clq (num_go rb s 14 2 (by omega) (by omega) (by omega) (by omega)) ?_
        refine i_clq (num_go rb s 16 6 (by omega) (by omega) (by omega) (by omega)) ?_
        refine i_clq (num_go rb s 22 6 (by omega) (by omega) (by omega) (by omega)) ?_
        refine i_clq (num_go rb s 28 4 (by omega) (by omega) (by omega) (by omega)) ?_
        refine i_clq (num_go rb s 32 4 (by omega) (by omega) (by omega) (by omega)) ?_
        repeat' (first | ((with_reducible refine d_seq ?_); intro K hK) | ((with_reducible refine d_reg ?_); simp only [go_sem, Nat.reduceAdd, Nat.reduceEqDiff, Int.reduceToNat, Nat.reduceMul, Nat.reduceSub]) | ((first | ((with_reducible refine d_cnd ?_); refine And.intro ?_ ?_) | (with_reducible refine r_cnd ?_ ?_)); all_goals (intro hc; (try simp only [push_cast, Int.reduceEq, Int.reduceLT, Int.reduceLE, Int.reduceNe] at hc))) | ((with_reducible refine hK _ _ ?_); clear hK; clear K) | ((with_reducible first | refine d_blk ?_ | refine d_rt0 ?_ | refine d_sk0 ?_ | refine d_ex0 ?_); (try simp only [go_sem, Nat.reduceAdd, Nat.reduceEqDiff, Int.reduceToNat, Nat.reduceMul, Nat.reduceSub])) | (with_reducible refine r_rq (by first | decide | omega) ?_) | ((with_reducible refine r_nwc ?_); intro b) | ((with_reducible first | apply i_lds | apply i_ldsq | apply i_ld | apply i_ldq); exact rfl) | ((with_reducible first | apply i_ldn | apply i_ldnq); exact rfl; exact rfl; exact rfl) | (with_reducible first | refine r_ph0 ?_ | apply i_kp0) | ((with_reducible first | apply i_st | apply i_stl); (focus simp); exact rfl) | simp only [go_sem, Nat.reduceAdd, Nat.reduceEqDiff, Int.reduceToNat, Nat.reduceMul, Nat.reduceSub] | (clear hK; clear K))
        refine i_ldn (x := bof s) rfl rfl rfl ?_
        exact i_ret2 (x := bof s) rfl (if_pos h9).symm
      · refine i_clq ht ?_
        repeat' ((fail_if_success with_reducible refine (id : E _ (ph _) → E _ (ph _)) ?_); first | ((with_reducible refine d_seq ?_); intro K hK) | ((with_reducible refine d_reg ?_); simp only [go_sem, Nat.reduceAdd, Nat.reduceEqDiff, Int.reduceToNat, Nat.reduceMul, Nat.reduceSub]) | ((first | ((with_reducible refine d_cnd ?_); refine And.intro ?_ ?_) | (with_reducible refine r_cnd ?_ ?_)); all_goals (intro hc; (try simp only [push_cast, Int.reduceEq, Int.reduceLT, Int.reduceLE, Int.reduceNe] at hc))) | ((with_reducible refine hK _ _ ?_); clear hK; clear K) | ((with_reducible first | refine d_blk ?_ | refine d_rt0 ?_ | refine d_sk0 ?_ | refine d_ex0 ?_); (try simp only [go_sem, Nat.reduceAdd, Nat.reduceEqDiff, Int.reduceToNat, Nat.reduceMul, Nat.reduceSub])) | (with_reducible refine r_rq (by first | decide | omega) ?_) | ((with_reducible refine r_nwc ?_); intro b) | ((with_reducible first | apply i_lds | apply i_ldsq | apply i_ld | apply i_ldq); exact rfl) | ((with_reducible first | apply i_ldn | apply i_ldnq); exact rfl; exact rfl; exact rfl) | (with_reducible first | refine r_ph0 ?_ | apply i_kp0) | ((with_reducible first | apply i_st | apply i_stl); (focus simp); exact rfl) | simp only [go_sem, Nat.reduceAdd, Nat.reduceEqDiff, Int.reduceToNat, Nat.reduceMul, Nat.reduceSub] | (clear hK; clear K))
        all_goals try (exact absurd hc hq)
        refine i_ldn (x := bz) rfl rfl rfl ?_
        exact i_ret2 (x := bz) rfl (no fun h => hq (hsg.2 h).2).symm
    · rw [if_neg hm] at ht
      refine i_clq ht ?_
      repeat' ((fail_if_success with_reducible refine (id : E _ (ph _) → E _ (ph _)) ?_); first | ((with_reducible refine d_seq ?_); intro K hK) | ((with_reducible refine d_reg ?_); simp only [go_sem, Nat.reduceAdd, Nat.reduceEqDiff, Int.reduceToNat, Nat.reduceMul, Nat.reduceSub]) | ((first | ((with_reducible refine d_cnd ?_); refine And.intro ?_ ?_) | (with_reducible refine r_cnd ?_ ?_)); all_goals (intro hc; (try simp only [push_cast, Int.reduceEq, Int.reduceLT, Int.reduceLE, Int.reduceNe] at hc))) | ((with_reducible refine hK _ _ ?_); clear hK; clear K) | ((with_reducible first | refine d_blk ?_ | refine d_rt0 ?_ | refine d_sk0 ?_ | refine d_ex0 ?_); (try simp only [go_sem, Nat.reduceAdd, Nat.reduceEqDiff, Int.reduceToNat, Nat.reduceMul, Nat.reduceSub])) | (with_reducible refine r_rq (by first | decide | omega) ?_) | ((with_reducible refine r_nwc ?_); intro b) | ((with_reducible first | apply i_lds | apply i_ldsq | apply i_ld | apply i_ldq); exact rfl) | ((with_reducible first | apply i_ldn | apply i_ldnq); exact rfl; exact rfl; exact rfl) | (with_reducible first | refine r_ph0 ?_ | apply i_kp0) | ((with_reducible first | apply i_st | apply i_stl); (focus simp); exact rfl) | simp only [go_sem, Nat.reduceAdd, Nat.reduceEqDiff, Int.reduceToNat, Nat.reduceMul, Nat.reduceSub] | (clear hK; clear K))
      all_goals try (exact absurd hc (by decide))
      refine i_ldn (x := bz) rfl rfl rfl ?_
      exact i_ret2 (x := bz) rfl (no fun h => hm (hsg.2 h).1).symm
  · rw [if_neg h0] at h31 ⊢
    intro L
    refine c34_fn rfl rfl ?_
    repeat' ((fail_if_success with_reducible refine (id : E _ (ph _) → E _ (ph _)) ?_); first | ((with_reducible refine d_seq ?_); intro K hK) | ((with_reducible refine d_reg ?_); simp only [go_sem, Nat.reduceAdd, Nat.reduceEqDiff, Int.reduceToNat, Nat.reduceMul, Nat.reduceSub]) | ((first | ((with_reducible refine d_cnd ?_); refine And.intro ?_ ?_) | (with_reducible refine r_cnd ?_ ?_)); all_goals (intro hc; (try simp only [push_cast, Int.reduceEq, Int.reduceLT, Int.reduceLE, Int.reduceNe] at hc))) | ((with_reducible refine hK _ _ ?_); clear hK; clear K) | ((with_reducible first | refine d_blk ?_ | refine d_rt0 ?_ | refine d_sk0 ?_ | refine d_ex0 ?_); (try simp only [go_sem, Nat.reduceAdd, Nat.reduceEqDiff, Int.reduceToNat, Nat.reduceMul, Nat.reduceSub])) | (with_reducible refine r_rq (by first | decide | omega) ?_) | ((with_reducible refine r_nwc ?_); intro b) | ((with_reducible first | apply i_lds | apply i_ldsq | apply i_ld | apply i_ldq); exact rfl) | ((with_reducible first | apply i_ldn | apply i_ldnq); exact rfl; exact rfl; exact rfl) | (with_reducible first | refine r_ph0 ?_ | apply i_kp0) | ((with_reducible first | apply i_st | apply i_stl); (focus simp); exact rfl) | simp only [go_sem, Nat.reduceAdd, Nat.reduceEqDiff, Int.reduceToNat, Nat.reduceMul, Nat.reduceSub] | (clear hK; clear K))
    refine i_clp h31 ?_
    repeat' ((fail_if_success with_reducible refine (id : E _ (ph _) → E _ (ph _)) ?_); first | ((with_reducible refine d_seq ?_); intro K hK) | ((with_reducible refine d_reg ?_); simp only [go_sem, Nat.reduceAdd, Nat.reduceEqDiff, Int.reduceToNat, Nat.reduceMul, Nat.reduceSub]) | ((first | ((with_reducible refine d_cnd ?_); refine And.intro ?_ ?_) | (with_reducible refine r_cnd ?_ ?_)); all_goals (intro hc; (try simp only [push_cast, Int.reduceEq, Int.reduceLT, Int.reduceLE, Int.reduceNe] at hc))) | ((with_reducible refine hK _ _ ?_); clear hK; clear K) | ((with_reducible first | refine d_blk ?_ | refine d_rt0 ?_ | refine d_sk0 ?_ | refine d_ex0 ?_); (try simp only [go_sem, Nat.reduceAdd, Nat.reduceEqDiff, Int.reduceToNat, Nat.reduceMul, Nat.reduceSub])) | (with_reducible refine r_rq (by first | decide | omega) ?_) | ((with_reducible refine r_nwc ?_); intro b) | ((with_reducible first | apply i_lds | apply i_ldsq | apply i_ld | apply i_ldq); exact rfl) | ((with_reducible first | apply i_ldn | apply i_ldnq); exact rfl; exact rfl; exact rfl) | (with_reducible first | refine r_ph0 ?_ | apply i_kp0) | ((with_reducible first | apply i_st | apply i_stl); (focus simp); exact rfl) | simp only [go_sem, Nat.reduceAdd, Nat.reduceEqDiff, Int.reduceToNat, Nat.reduceMul, Nat.reduceSub] | (clear hK; clear K))
    all_goals try contradiction
    refine i_ldn (x := bz) rfl rfl rfl ?_
    exact i_ret2 (x := bz) rfl rfl
end Go.Sp
