/- Texts of a proof, one behind the other: U1 K25 Gs0 Gq0 S1 S2 S3 S4 S5 U2 U3 U4 U5 U6 U7 U8 U9 V1 Gxf0. No condition. -/
import Derived.Test.YtaidhghnflnmnaaGreatM07037a67
import Derived.Test.YtaidhghnflnmnaaGreatMc46540a7
import Derived.Test.YtaidhghnflnmnaaGreatMdf5d80c7
import Derived.Lib.Builder
import Derived.Lib.AppendStr
import Derived.Lib.UnsafeStr
import Derived.Test.YtaidhghnflnmnaaGreatM5e8a56cb
import Derived.Test.YtaidhghnflnmnaaGreatMfe05ac9a
/- The log: its small functions; how far a text is whole. -/
namespace Go.Sp
open Go Go.Proofs
set_option linter.unusedSimpArgs false
set_option linter.unusedVariables false
set_option maxRecDepth 10000
structure Lg where
  q : Nat
  base : Nat
  sectors : Nat
  run : Nat
  all : List UInt8
  durable : Nat
  dead : Bool
abbrev lgp (G : Lg) (sb : Nat) : HP := ar G.q 66 [.pointer (some ⟨sb, 0, none⟩), .int .i64 (G.base : Int), .int .i64 (G.sectors : Int), .int .i64 (G.run : Int), str G.all, .int .i64 (G.durable : Int), .bool G.dead]
abbrev Lg.p (G : Lg) : Value := .pointer (some ⟨G.q, 0, none⟩)
structure Lg.ok (G : Lg) (n : Nat) : Prop where
  s1 : 1 ≤ G.sectors
  fit : G.base + G.sectors ≤ n
  n1 : n ≤ 8192
  r1 : 1 ≤ G.run
  r2 : G.run < 4294967296
  du : G.durable ≤ G.all.length
  le : G.all.length ≤ 58 * G.sectors
theorem g83 (G : Lg) (sb : Nat) : Fp eB Tryz.prog 83 #[G.p] [lgp G sb] false := fun L => by
  refine c83_fn rfl rfl ?_
  repeat' (first | (with_reducible first | (refine d_seq ?_; intro K hK) | (refine hK _ _ ?_; clear hK K) | refine d_blk ?_ | refine d_rt0 ?_ | refine d_sk0 ?_ | refine d_ex0 ?_ | (refine r_nwc ?_; intro b)) | (first | ((with_reducible refine d_cnd ?_); refine And.intro ?_ ?_) | with_reducible refine r_cnd ?_ ?_) <;> intro hc <;> try simp only [push_cast, Int.reduceEq, Int.reduceLT, Int.reduceLE, Int.reduceNe] at hc | with_reducible refine r_rq (by first | decide | omega) ?_ | ((with_reducible first | apply i_lds | apply i_ldsq | apply i_ld | apply i_ldq); exact rfl) | ((with_reducible first | apply i_ldn | apply i_ldnq); exact rfl; exact rfl; exact rfl) | (with_reducible first | refine r_ph0 ?_ | apply i_kp0) | ((with_reducible first | apply i_st | apply i_stl); (focus simp); exact rfl) | ((try with_reducible refine d_reg ?_); simp only [go_sem, Nat.reduceAdd, Nat.reduceEqDiff, Int.reduceToNat, Nat.reduceMul, Nat.reduceSub]) | clear hK K)
  (with_reducible first | apply i_ret0 | apply i_ret2 | apply i_ret3 | apply i_ret); exact rfl
  rfl
def Lg.off (G : Lg) : Int := if G.dead then 9 else 0
theorem g75 (G : Lg) (sb : Nat) : Fp eI Tryz.prog 75 #[G.p] [lgp G sb] G.off := fun L => by
  unfold Lg.off
  refine c75_fn rfl rfl ?_
  repeat' ((fail_if_success with_reducible refine nph ?_); first | (with_reducible first | (refine d_seq ?_; intro K hK) | (refine hK _ _ ?_; clear hK K) | refine d_blk ?_ | refine d_rt0 ?_ | refine d_sk0 ?_ | refine d_ex0 ?_ | (refine r_nwc ?_; intro b)) | (first | ((with_reducible refine d_cnd ?_); refine And.intro ?_ ?_) | with_reducible refine r_cnd ?_ ?_) <;> intro hc <;> try simp only [push_cast, Int.reduceEq, Int.reduceLT, Int.reduceLE, Int.reduceNe] at hc | with_reducible refine r_rq (by first | decide | omega) ?_ | ((with_reducible first | apply i_lds | apply i_ldsq | apply i_ld | apply i_ldq); exact rfl) | ((with_reducible first | apply i_ldn | apply i_ldnq); exact rfl; exact rfl; exact rfl) | (with_reducible first | refine r_ph0 ?_ | apply i_kp0) | ((with_reducible first | apply i_st | apply i_stl); (focus simp); exact rfl) | ((try with_reducible refine d_reg ?_); simp only [go_sem, Nat.reduceAdd, Nat.reduceEqDiff, Int.reduceToNat, Nat.reduceMul, Nat.reduceSub]) | clear hK K)
  refine i_clp (g83 G sb) ?_
  repeat' ((fail_if_success with_reducible refine nph ?_); first | (with_reducible first | (refine d_seq ?_; intro K hK) | (refine hK _ _ ?_; clear hK K) | refine d_blk ?_ | refine d_rt0 ?_ | refine d_sk0 ?_ | refine d_ex0 ?_ | (refine r_nwc ?_; intro b)) | (first | ((with_reducible refine d_cnd ?_); refine And.intro ?_ ?_) | with_reducible refine r_cnd ?_ ?_) <;> intro hc <;> try simp only [push_cast, Int.reduceEq, Int.reduceLT, Int.reduceLE, Int.reduceNe] at hc | with_reducible refine r_rq (by first | decide | omega) ?_ | ((with_reducible first | apply i_lds | apply i_ldsq | apply i_ld | apply i_ldq); exact rfl) | ((with_reducible first | apply i_ldn | apply i_ldnq); exact rfl; exact rfl; exact rfl) | (with_reducible first | refine r_ph0 ?_ | apply i_kp0) | ((with_reducible first | apply i_st | apply i_stl); (focus simp); exact rfl) | ((try with_reducible refine d_reg ?_); simp only [go_sem, Nat.reduceAdd, Nat.reduceEqDiff, Int.reduceToNat, Nat.reduceMul, Nat.reduceSub]) | clear hK K)
  all_goals try contradiction
  · (with_reducible first | apply i_ret0 | apply i_ret2 | apply i_ret3 | apply i_ret); exact rfl
    rw [if_pos (by assumption)]
  · (with_reducible first | apply i_ret0 | apply i_ret2 | apply i_ret3 | apply i_ret); exact rfl
    rw [if_neg (by simpa using hc)]
def Lg.down (G : Lg) (e : Int) : Lg := if e = 0 then G else { G with dead := true }
theorem g78 (G : Lg) (sb : Nat) (e : Int) : Fq eI Tryz.prog 78 #[G.p, .int .i64 e] [lgp G sb] [lgp (G.down e) sb] e := fun L => by
  unfold Lg.down
  refine c78_fn rfl rfl ?_
  by_cases he : e = 0
  · rw [if_pos he]
    repeat' ((fail_if_success with_reducible refine nph ?_); first | (with_reducible first | (refine d_seq ?_; intro K hK) | (refine hK _ _ ?_; clear hK K) | refine d_blk ?_ | refine d_rt0 ?_ | refine d_sk0 ?_ | refine d_ex0 ?_ | (refine r_nwc ?_; intro b)) | (first | ((with_reducible refine d_cnd ?_); refine And.intro ?_ ?_) | with_reducible refine r_cnd ?_ ?_) <;> intro hc <;> try simp only [push_cast, Int.reduceEq, Int.reduceLT, Int.reduceLE, Int.reduceNe] at hc | with_reducible refine r_rq (by first | decide | omega) ?_ | ((with_reducible first | apply i_lds | apply i_ldsq | apply i_ld | apply i_ldq); exact rfl) | ((with_reducible first | apply i_ldn | apply i_ldnq); exact rfl; exact rfl; exact rfl) | (with_reducible first | refine r_ph0 ?_ | apply i_kp0) | ((with_reducible first | apply i_st | apply i_stl); (focus simp); exact rfl) | ((try with_reducible refine d_reg ?_); simp only [go_sem, Nat.reduceAdd, Nat.reduceEqDiff, Int.reduceToNat, Nat.reduceMul, Nat.reduceSub]) | clear hK K)
    all_goals try (first | contradiction | (simp only [ reduceCtorEq] at *; done) | (exfalso; omega))
    (with_reducible first | apply i_ret0 | apply i_ret2 | apply i_ret3 | apply i_ret); exact rfl
    rfl
  · rw [if_neg he]
    repeat' ((fail_if_success with_reducible refine nph ?_); first | (with_reducible first | (refine d_seq ?_; intro K hK) | (refine hK _ _ ?_; clear hK K) | refine d_blk ?_ | refine d_rt0 ?_ | refine d_sk0 ?_ | refine d_ex0 ?_ | (refine r_nwc ?_; intro b)) | (first | ((with_reducible refine d_cnd ?_); refine And.intro ?_ ?_) | with_reducible refine r_cnd ?_ ?_) <;> intro hc <;> try simp only [push_cast, Int.reduceEq, Int.reduceLT, Int.reduceLE, Int.reduceNe] at hc | with_reducible refine r_rq (by first | decide | omega) ?_ | ((with_reducible first | apply i_lds | apply i_ldsq | apply i_ld | apply i_ldq); exact rfl) | ((with_reducible first | apply i_ldn | apply i_ldnq); exact rfl; exact rfl; exact rfl) | (with_reducible first | refine r_ph0 ?_ | apply i_kp0) | ((with_reducible first | apply i_st | apply i_stl); (focus simp); exact rfl) | ((try with_reducible refine d_reg ?_); simp only [go_sem, Nat.reduceAdd, Nat.reduceEqDiff, Int.reduceToNat, Nat.reduceMul, Nat.reduceSub]) | clear hK K)
    all_goals try (first | contradiction | (simp only [ reduceCtorEq] at *; done) | (exfalso; omega))
    (with_reducible first | apply i_ret0 | apply i_ret2 | apply i_ret3 | apply i_ret); exact rfl
    rfl
theorem g28 (G : Lg) (sb : Nat) (h : G.all.length ≤ 1000000) : Fp eI Tryz.prog 28 #[G.p] [lgp G sb] ((G.all.length + 1 : Nat) : Int) := fun L => by
  refine c28_fn rfl rfl ?_
  repeat' ((fail_if_success with_reducible refine nph ?_); first | (with_reducible first | (refine d_seq ?_; intro K hK) | (refine hK _ _ ?_; clear hK K) | refine d_blk ?_ | refine d_rt0 ?_ | refine d_sk0 ?_ | refine d_ex0 ?_ | (refine r_nwc ?_; intro b)) | (first | ((with_reducible refine d_cnd ?_); refine And.intro ?_ ?_) | with_reducible refine r_cnd ?_ ?_) <;> intro hc <;> try simp only [push_cast, Int.reduceEq, Int.reduceLT, Int.reduceLE, Int.reduceNe] at hc | with_reducible refine r_rq (by first | decide | omega) ?_ | ((with_reducible first | apply i_lds | apply i_ldsq | apply i_ld | apply i_ldq); exact rfl) | ((with_reducible first | apply i_ldn | apply i_ldnq); exact rfl; exact rfl; exact rfl) | (with_reducible first | refine r_ph0 ?_ | apply i_kp0) | ((with_reducible first | apply i_st | apply i_stl); (focus simp); exact rfl) | ((try with_reducible refine d_reg ?_); simp only [go_sem, Nat.reduceAdd, Nat.reduceEqDiff, Int.reduceToNat, Nat.reduceMul, Nat.reduceSub]) | clear hK K)
  refine i_clp (g83 G sb) ?_
  repeat' (first | (with_reducible first | (refine d_seq ?_; intro K hK) | (refine hK _ _ ?_; clear hK K) | refine d_blk ?_ | refine d_rt0 ?_ | refine d_sk0 ?_ | refine d_ex0 ?_ | (refine r_nwc ?_; intro b)) | (first | ((with_reducible refine d_cnd ?_); refine And.intro ?_ ?_) | with_reducible refine r_cnd ?_ ?_) <;> intro hc <;> try simp only [push_cast, Int.reduceEq, Int.reduceLT, Int.reduceLE, Int.reduceNe] at hc | with_reducible refine r_rq (by first | decide | omega) ?_ | ((with_reducible first | apply i_lds | apply i_ldsq | apply i_ld | apply i_ldq); exact rfl) | ((with_reducible first | apply i_ldn | apply i_ldnq); exact rfl; exact rfl; exact rfl) | (with_reducible first | refine r_ph0 ?_ | apply i_kp0) | ((with_reducible first | apply i_st | apply i_stl); (focus simp); exact rfl) | ((try with_reducible refine d_reg ?_); simp only [go_sem, Nat.reduceAdd, Nat.reduceEqDiff, Int.reduceToNat, Nat.reduceMul, Nat.reduceSub]) | clear hK K)
  (with_reducible first | apply i_ret0 | apply i_ret2 | apply i_ret3 | apply i_ret); exact rfl
  rw [w64 (by omega) (by omega)]
  rfl
theorem g30 (G : Lg) (sb : Nat) (h : G.all.length ≤ 58 * G.sectors) (h2 : G.sectors ≤ 8192) : Fp eI Tryz.prog 30 #[G.p] [lgp G sb] ((58 * G.sectors - G.all.length : Nat) : Int) := fun L => by
  refine c30_fn rfl rfl ?_
  repeat' ((fail_if_success with_reducible refine nph ?_); first | (with_reducible first | (refine d_seq ?_; intro K hK) | (refine hK _ _ ?_; clear hK K) | refine d_blk ?_ | refine d_rt0 ?_ | refine d_sk0 ?_ | refine d_ex0 ?_ | (refine r_nwc ?_; intro b)) | (first | ((with_reducible refine d_cnd ?_); refine And.intro ?_ ?_) | with_reducible refine r_cnd ?_ ?_) <;> intro hc <;> try simp only [push_cast, Int.reduceEq, Int.reduceLT, Int.reduceLE, Int.reduceNe] at hc | with_reducible refine r_rq (by first | decide | omega) ?_ | ((with_reducible first | apply i_lds | apply i_ldsq | apply i_ld | apply i_ldq); exact rfl) | ((with_reducible first | apply i_ldn | apply i_ldnq); exact rfl; exact rfl; exact rfl) | (with_reducible first | refine r_ph0 ?_ | apply i_kp0) | ((with_reducible first | apply i_st | apply i_stl); (focus simp); exact rfl) | ((try with_reducible refine d_reg ?_); simp only [go_sem, Nat.reduceAdd, Nat.reduceEqDiff, Int.reduceToNat, Nat.reduceMul, Nat.reduceSub]) | clear hK K)
  refine i_clp (g83 G sb) ?_
  repeat' (first | (with_reducible first | (refine d_seq ?_; intro K hK) | (refine hK _ _ ?_; clear hK K) | refine d_blk ?_ | refine d_rt0 ?_ | refine d_sk0 ?_ | refine d_ex0 ?_ | (refine r_nwc ?_; intro b)) | (first | ((with_reducible refine d_cnd ?_); refine And.intro ?_ ?_) | with_reducible refine r_cnd ?_ ?_) <;> intro hc <;> try simp only [push_cast, Int.reduceEq, Int.reduceLT, Int.reduceLE, Int.reduceNe] at hc | with_reducible refine r_rq (by first | decide | omega) ?_ | ((with_reducible first | apply i_lds | apply i_ldsq | apply i_ld | apply i_ldq); exact rfl) | ((with_reducible first | apply i_ldn | apply i_ldnq); exact rfl; exact rfl; exact rfl) | (with_reducible first | refine r_ph0 ?_ | apply i_kp0) | ((with_reducible first | apply i_st | apply i_stl); (focus simp); exact rfl) | ((try with_reducible refine d_reg ?_); simp only [go_sem, Nat.reduceAdd, Nat.reduceEqDiff, Int.reduceToNat, Nat.reduceMul, Nat.reduceSub]) | clear hK K)
  (with_reducible first | apply i_ret0 | apply i_ret2 | apply i_ret3 | apply i_ret); exact rfl
  rw [w64 (n := (G.sectors : Int) * 58) (by omega) (by omega), w64 (by omega) (by omega)]
  show ((G.sectors : Int) * 58 - (G.all.length : Int)) = ((58 * G.sectors - G.all.length : Nat) : Int)
  omega
def lchk (n : Nat) (base sectors run : Int) : Int := if base < 0 ∨ sectors < 1 ∨ run < 1 ∨ 4294967296 ≤ run then 1 else if (n : Int) < base ∨ (n : Int) - base < sectors then 6 else 0
theorem g67 (Z : Dk) (h : Z.ok) (base sectors run : Int) (hb : wf64 base) : Fp eI Tryz.prog 67 #[.pointer (some ⟨Z.sb, 0, none⟩), .int .i64 base, .int .i64 sectors, .int .i64 run] [dk Z] (lchk Z.sure.length base sectors run) := fun L => by
  have F := F26 Z h
  have hn := h.n1
  unfold wf64 at hb
  unfold lchk
  simp only [Dk.p] at F
  refine c67_fn rfl rfl ?_
  by_cases h1 : base < 0 ∨ sectors < 1 ∨ run < 1 ∨ 4294967296 ≤ run
  · rw [if_pos h1]
    repeat' ((fail_if_success with_reducible refine nph ?_); first | (with_reducible first | (refine d_seq ?_; intro K hK) | (refine hK _ _ ?_; clear hK K) | refine d_blk ?_ | refine d_rt0 ?_ | refine d_sk0 ?_ | refine d_ex0 ?_ | (refine r_nwc ?_; intro b)) | (first | ((with_reducible refine d_cnd ?_); refine And.intro ?_ ?_) | with_reducible refine r_cnd ?_ ?_) <;> intro hc <;> try simp only [push_cast, Int.reduceEq, Int.reduceLT, Int.reduceLE, Int.reduceNe] at hc | with_reducible refine r_rq (by first | decide | omega) ?_ | ((with_reducible first | apply i_lds | apply i_ldsq | apply i_ld | apply i_ldq); exact rfl) | ((with_reducible first | apply i_ldn | apply i_ldnq); exact rfl; exact rfl; exact rfl) | (with_reducible first | refine r_ph0 ?_ | apply i_kp0) | ((with_reducible first | apply i_st | apply i_stl); (focus simp); exact rfl) | ((try with_reducible refine d_reg ?_); simp only [go_sem, Nat.reduceAdd, Nat.reduceEqDiff, Int.reduceToNat, Nat.reduceMul, Nat.reduceSub]) | clear hK K)
    all_goals try (exfalso; omega)
    all_goals first | contradiction | ((with_reducible first | apply i_ret0 | apply i_ret2 | apply i_ret3 | apply i_ret); exact rfl; rfl)
  · rw [if_neg h1]
    by_cases h2 : (Z.sure.length : Int) < base ∨ (Z.sure.length : Int) - base < sectors
    · rw [if_pos h2]
      repeat' ((fail_if_success with_reducible refine nph ?_); first | (with_reducible first | (refine d_seq ?_; intro K hK) | (refine hK _ _ ?_; clear hK K) | refine d_blk ?_ | refine d_rt0 ?_ | refine d_sk0 ?_ | refine d_ex0 ?_ | (refine r_nwc ?_; intro b)) | (first | ((with_reducible refine d_cnd ?_); refine And.intro ?_ ?_) | with_reducible refine r_cnd ?_ ?_) <;> intro hc <;> try simp only [push_cast, Int.reduceEq, Int.reduceLT, Int.reduceLE, Int.reduceNe] at hc | with_reducible refine r_rq (by first | decide | omega) ?_ | ((with_reducible first | apply i_lds | apply i_ldsq | apply i_ld | apply i_ldq); exact rfl) | ((with_reducible first | apply i_ldn | apply i_ldnq); exact rfl; exact rfl; exact rfl) | (with_reducible first | refine r_ph0 ?_ | apply i_kp0) | ((with_reducible first | apply i_st | apply i_stl); (focus simp); exact rfl) | ((try with_reducible refine d_reg ?_); simp only [go_sem, Nat.reduceAdd, Nat.reduceEqDiff, Int.reduceToNat, Nat.reduceMul, Nat.reduceSub]) | clear hK K)
      all_goals try (exfalso; omega)
      all_goals try contradiction
      refine i_clp F ?_
      repeat' ((fail_if_success with_reducible refine nph ?_); first | (with_reducible first | (refine d_seq ?_; intro K hK) | (refine hK _ _ ?_; clear hK K) | refine d_blk ?_ | refine d_rt0 ?_ | refine d_sk0 ?_ | refine d_ex0 ?_ | (refine r_nwc ?_; intro b)) | (first | ((with_reducible refine d_cnd ?_); refine And.intro ?_ ?_) | with_reducible refine r_cnd ?_ ?_) <;> intro hc <;> try simp only [push_cast, Int.reduceEq, Int.reduceLT, Int.reduceLE, Int.reduceNe] at hc | with_reducible refine r_rq (by first | decide | omega) ?_ | ((with_reducible first | apply i_lds | apply i_ldsq | apply i_ld | apply i_ldq); exact rfl) | ((with_reducible first | apply i_ldn | apply i_ldnq); exact rfl; exact rfl; exact rfl) | (with_reducible first | refine r_ph0 ?_ | apply i_kp0) | ((with_reducible first | apply i_st | apply i_stl); (focus simp); exact rfl) | ((try with_reducible refine d_reg ?_); simp only [go_sem, Nat.reduceAdd, Nat.reduceEqDiff, Int.reduceToNat, Nat.reduceMul, Nat.reduceSub]) | clear hK K)
      all_goals try (exfalso; omega)
      · (with_reducible first | apply i_ret0 | apply i_ret2 | apply i_ret3 | apply i_ret); exact rfl
        rfl
      · refine i_clp F ?_
        rw [w64 (by omega) (by omega)]
        repeat' ((fail_if_success with_reducible refine nph ?_); first | (with_reducible first | (refine d_seq ?_; intro K hK) | (refine hK _ _ ?_; clear hK K) | refine d_blk ?_ | refine d_rt0 ?_ | refine d_sk0 ?_ | refine d_ex0 ?_ | (refine r_nwc ?_; intro b)) | (first | ((with_reducible refine d_cnd ?_); refine And.intro ?_ ?_) | with_reducible refine r_cnd ?_ ?_) <;> intro hc <;> try simp only [push_cast, Int.reduceEq, Int.reduceLT, Int.reduceLE, Int.reduceNe] at hc | with_reducible refine r_rq (by first | decide | omega) ?_ | ((with_reducible first | apply i_lds | apply i_ldsq | apply i_ld | apply i_ldq); exact rfl) | ((with_reducible first | apply i_ldn | apply i_ldnq); exact rfl; exact rfl; exact rfl) | (with_reducible first | refine r_ph0 ?_ | apply i_kp0) | ((with_reducible first | apply i_st | apply i_stl); (focus simp); exact rfl) | ((try with_reducible refine d_reg ?_); simp only [go_sem, Nat.reduceAdd, Nat.reduceEqDiff, Int.reduceToNat, Nat.reduceMul, Nat.reduceSub]) | clear hK K)
        all_goals try (exfalso; omega)
        (with_reducible first | apply i_ret0 | apply i_ret2 | apply i_ret3 | apply i_ret); exact rfl
        rfl
    · rw [if_neg h2]
      repeat' ((fail_if_success with_reducible refine nph ?_); first | (with_reducible first | (refine d_seq ?_; intro K hK) | (refine hK _ _ ?_; clear hK K) | refine d_blk ?_ | refine d_rt0 ?_ | refine d_sk0 ?_ | refine d_ex0 ?_ | (refine r_nwc ?_; intro b)) | (first | ((with_reducible refine d_cnd ?_); refine And.intro ?_ ?_) | with_reducible refine r_cnd ?_ ?_) <;> intro hc <;> try simp only [push_cast, Int.reduceEq, Int.reduceLT, Int.reduceLE, Int.reduceNe] at hc | with_reducible refine r_rq (by first | decide | omega) ?_ | ((with_reducible first | apply i_lds | apply i_ldsq | apply i_ld | apply i_ldq); exact rfl) | ((with_reducible first | apply i_ldn | apply i_ldnq); exact rfl; exact rfl; exact rfl) | (with_reducible first | refine r_ph0 ?_ | apply i_kp0) | ((with_reducible first | apply i_st | apply i_stl); (focus simp); exact rfl) | ((try with_reducible refine d_reg ?_); simp only [go_sem, Nat.reduceAdd, Nat.reduceEqDiff, Int.reduceToNat, Nat.reduceMul, Nat.reduceSub]) | clear hK K)
      all_goals try (exfalso; omega)
      all_goals try contradiction
      refine i_clp F ?_
      repeat' ((fail_if_success with_reducible refine nph ?_); first | (with_reducible first | (refine d_seq ?_; intro K hK) | (refine hK _ _ ?_; clear hK K) | refine d_blk ?_ | refine d_rt0 ?_ | refine d_sk0 ?_ | refine d_ex0 ?_ | (refine r_nwc ?_; intro b)) | (first | ((with_reducible refine d_cnd ?_); refine And.intro ?_ ?_) | with_reducible refine r_cnd ?_ ?_) <;> intro hc <;> try simp only [push_cast, Int.reduceEq, Int.reduceLT, Int.reduceLE, Int.reduceNe] at hc | with_reducible refine r_rq (by first | decide | omega) ?_ | ((with_reducible first | apply i_lds | apply i_ldsq | apply i_ld | apply i_ldq); exact rfl) | ((with_reducible first | apply i_ldn | apply i_ldnq); exact rfl; exact rfl; exact rfl) | (with_reducible first | refine r_ph0 ?_ | apply i_kp0) | ((with_reducible first | apply i_st | apply i_stl); (focus simp); exact rfl) | ((try with_reducible refine d_reg ?_); simp only [go_sem, Nat.reduceAdd, Nat.reduceEqDiff, Int.reduceToNat, Nat.reduceMul, Nat.reduceSub]) | clear hK K)
      all_goals try (exfalso; omega)
      refine i_clp F ?_
      rw [w64 (by omega) (by omega)]
      repeat' ((fail_if_success with_reducible refine nph ?_); first | (with_reducible first | (refine d_seq ?_; intro K hK) | (refine hK _ _ ?_; clear hK K) | refine d_blk ?_ | refine d_rt0 ?_ | refine d_sk0 ?_ | refine d_ex0 ?_ | (refine r_nwc ?_; intro b)) | (first | ((with_reducible refine d_cnd ?_); refine And.intro ?_ ?_) | with_reducible refine r_cnd ?_ ?_) <;> intro hc <;> try simp only [push_cast, Int.reduceEq, Int.reduceLT, Int.reduceLE, Int.reduceNe] at hc | with_reducible refine r_rq (by first | decide | omega) ?_ | ((with_reducible first | apply i_lds | apply i_ldsq | apply i_ld | apply i_ldq); exact rfl) | ((with_reducible first | apply i_ldn | apply i_ldnq); exact rfl; exact rfl; exact rfl) | (with_reducible first | refine r_ph0 ?_ | apply i_kp0) | ((with_reducible first | apply i_st | apply i_stl); (focus simp); exact rfl) | ((try with_reducible refine d_reg ?_); simp only [go_sem, Nat.reduceAdd, Nat.reduceEqDiff, Int.reduceToNat, Nat.reduceMul, Nat.reduceSub]) | clear hK K)
      all_goals try (exfalso; omega)
      (with_reducible first | apply i_ret0 | apply i_ret2 | apply i_ret3 | apply i_ret); exact rfl
      rfl
/-- How many bytes from a place on are whole records. -/
def whl (s : List UInt8) : Nat → Nat → Nat
  | 0, a => a
  | k + 1, a => if (opn s (a : Int)).2.2 = 0 then whl s k (a + (opn s (a : Int)).2.1.toNat) else a
def whole (s : List UInt8) : Nat := whl s (s.length + 1) 0
theorem opn_nat {s : List UInt8} {a : Nat} (h : a ≤ s.length) : opn s (a : Int) = opn0 (s.drop a) := by
  unfold opn
  rw [if_neg (by omega), Int.toNat_natCast]
theorem opn_step {s : List UInt8} {a : Nat} (h : a ≤ s.length) (h0 : (opn s (a : Int)).2.2 = 0) : ∃ m : Nat, (opn s (a : Int)).2.1 = (m : Int) ∧ 7 ≤ m ∧ a + m ≤ s.length := by
  rw [opn_nat h] at h0 ⊢
  generalize ho : opn0 (s.drop a) = o at *
  obtain ⟨c, n, e⟩ := o
  dsimp only at h0 ⊢
  subst h0
  obtain ⟨hs, _, f, Y, ht, hf, hn⟩ := opn0_ok ho
  have hl := frame_len hs hf
  have := congrArg List.length ht
  rw [List.length_drop, List.length_append] at this
  exact ⟨f.length, hn, hl.1, by omega⟩
set_option maxHeartbeats 1000000 in
theorem g69 (s : List UInt8) (hs : s.length ≤ 4611686018427387903) : Fp eI Tryz.prog 69 #[str s] [] (whole s : Int) := fun L => by
  refine c69_fn rfl rfl ?_
  repeat' ((fail_if_success with_reducible refine nph ?_); first | (with_reducible first | (refine d_seq ?_; intro K hK) | (refine hK _ _ ?_; clear hK K) | refine d_blk ?_ | refine d_rt0 ?_ | refine d_sk0 ?_ | refine d_ex0 ?_ | (refine r_nwc ?_; intro b)) | (first | ((with_reducible refine d_cnd ?_); refine And.intro ?_ ?_) | with_reducible refine r_cnd ?_ ?_) <;> intro hc <;> try simp only [push_cast, Int.reduceEq, Int.reduceLT, Int.reduceLE, Int.reduceNe] at hc | with_reducible refine r_rq (by first | decide | omega) ?_ | ((with_reducible first | apply i_lds | apply i_ldsq | apply i_ld | apply i_ldq); exact rfl) | ((with_reducible first | apply i_ldn | apply i_ldnq); exact rfl; exact rfl; exact rfl) | (with_reducible first | refine r_ph0 ?_ | apply i_kp0) | ((with_reducible first | apply i_st | apply i_stl); (focus simp); exact rfl) | ((try with_reducible refine d_reg ?_); simp only [go_sem, Nat.reduceAdd, Nat.reduceEqDiff, Int.reduceToNat, Nat.reduceMul, Nat.reduceSub]) | clear hK K)
  refine d_lp [0, 3] (fun t : Nat × Nat => [(0, str s), (3, .int .i64 (t.2 : Int))]) (fun _ => L) (fun t => t.2 ≤ s.length ∧ whl s t.1 t.2 = whole s ∧ s.length + 1 ≤ t.1 + t.2) (fun t => t.1) (s.length + 1, 0) rfl SX.p ⟨by dsimp only; omega, rfl, by dsimp only; omega⟩ ?_
  rintro ⟨k, a⟩ ⟨h1, h2, h3⟩
  dsimp only at h1 h2 h3 ⊢
  obtain ⟨k', rfl⟩ : ∃ k', k = k' + 1 := ⟨k - 1, by omega⟩
  rw [show whl s (k' + 1) a = if (opn s (a : Int)).2.2 = 0 then whl s k' (a + (opn s (a : Int)).2.1.toNat) else a from rfl] at h2
  have O := g26 s (a : Int) (by omega)
  have S := opn_step h1
  generalize opn s (a : Int) = o at *
  obtain ⟨c, n, e⟩ := o
  dsimp only at h2 O S
  repeat' ((fail_if_success with_reducible refine nph ?_); first | (with_reducible first | (refine d_seq ?_; intro K hK) | (refine hK _ _ ?_; clear hK K) | refine d_blk ?_ | refine d_rt0 ?_ | refine d_sk0 ?_ | refine d_ex0 ?_ | (refine r_nwc ?_; intro b)) | (first | ((with_reducible refine d_cnd ?_); refine And.intro ?_ ?_) | with_reducible refine r_cnd ?_ ?_) <;> intro hc <;> try simp only [push_cast, Int.reduceEq, Int.reduceLT, Int.reduceLE, Int.reduceNe] at hc | with_reducible refine r_rq (by first | decide | omega) ?_ | ((with_reducible first | apply i_lds | apply i_ldsq | apply i_ld | apply i_ldq); exact rfl) | ((with_reducible first | apply i_ldn | apply i_ldnq); exact rfl; exact rfl; exact rfl) | (with_reducible first | refine r_ph0 ?_ | apply i_kp0) | ((with_reducible first | apply i_st | apply i_stl); (focus simp); exact rfl) | ((try with_reducible refine d_reg ?_); simp only [go_sem, Nat.reduceAdd, Nat.reduceEqDiff, Int.reduceToNat, Nat.reduceMul, Nat.reduceSub]) | clear hK K)
  refine i_cal O ?_
  rintro ⟨⟨k1, k2, k3, k4, k5, k6, k7, k8, k9, k10, k11, k12, k13⟩, y⟩ X ⟨A, rfl, hr, he⟩
  dsimp only at he
  subst he
  by_cases h0 : e = 0
  · subst h0
    obtain ⟨m, rfl, hm1, hm2⟩ := S rfl
    rw [if_pos rfl, Int.toNat_natCast] at h2
    repeat' ((fail_if_success with_reducible refine nph ?_); first | (with_reducible first | (refine d_seq ?_; intro K hK) | (refine hK _ _ ?_; clear hK K) | refine d_blk ?_ | refine d_rt0 ?_ | refine d_sk0 ?_ | refine d_ex0 ?_ | (refine r_nwc ?_; intro b)) | (first | ((with_reducible refine d_cnd ?_); refine And.intro ?_ ?_) | with_reducible refine r_cnd ?_ ?_) <;> intro hc <;> try simp only [push_cast, Int.reduceEq, Int.reduceLT, Int.reduceLE, Int.reduceNe] at hc | with_reducible refine r_rq (by first | decide | omega) ?_ | ((with_reducible first | apply i_lds | apply i_ldsq | apply i_ld | apply i_ldq); exact rfl) | ((with_reducible first | apply i_ldn | apply i_ldnq); exact rfl; exact rfl; exact rfl) | (with_reducible first | refine r_ph0 ?_ | apply i_kp0) | ((with_reducible first | apply i_st | apply i_stl); (focus simp); exact rfl) | ((try with_reducible refine d_reg ?_); simp only [go_sem, Nat.reduceAdd, Nat.reduceEqDiff, Int.reduceToNat, Nat.reduceMul, Nat.reduceSub]) | clear hK K)
    all_goals try (first | contradiction | (simp only [ reduceCtorEq] at *; done) | (exfalso; omega))
    rw [w64 (by omega) (by omega)]
    exact i_bk (k', a + m) rfl ⟨by dsimp only; omega, h2, by dsimp only; omega⟩ (by dsimp only; omega)
  · rw [if_neg h0] at h2
    repeat' ((fail_if_success with_reducible refine nph ?_); first | (with_reducible first | (refine d_seq ?_; intro K hK) | (refine hK _ _ ?_; clear hK K) | refine d_blk ?_ | refine d_rt0 ?_ | refine d_sk0 ?_ | refine d_ex0 ?_ | (refine r_nwc ?_; intro b)) | (first | ((with_reducible refine d_cnd ?_); refine And.intro ?_ ?_) | with_reducible refine r_cnd ?_ ?_) <;> intro hc <;> try simp only [push_cast, Int.reduceEq, Int.reduceLT, Int.reduceLE, Int.reduceNe] at hc | with_reducible refine r_rq (by first | decide | omega) ?_ | ((with_reducible first | apply i_lds | apply i_ldsq | apply i_ld | apply i_ldq); exact rfl) | ((with_reducible first | apply i_ldn | apply i_ldnq); exact rfl; exact rfl; exact rfl) | (with_reducible first | refine r_ph0 ?_ | apply i_kp0) | ((with_reducible first | apply i_st | apply i_stl); (focus simp); exact rfl) | ((try with_reducible refine d_reg ?_); simp only [go_sem, Nat.reduceAdd, Nat.reduceEqDiff, Int.reduceToNat, Nat.reduceMul, Nat.reduceSub]) | clear hK K)
    all_goals try (first | contradiction | (simp only [ reduceCtorEq] at *; done) | (exfalso; omega))
    (with_reducible first | apply i_ret0 | apply i_ret2 | apply i_ret3 | apply i_ret); exact rfl
    rw [h2]
end Go.Sp
/- A contract that keeps what lies below a block: the kit's strings.Builder over parts that lie below it. -/
namespace Go.Sp
open Go
/-- Just this. -/
def ex (h0 : PH) : HP := fun h => h = h0
def dm (b : Nat) (h : PH) : Prop := ∀ n, b < n → h n = none
def lo (b : Nat) (h : PH) : PH := fun n => if n ≤ b then h n else none
/-- What lies below a block tells the part. -/
def Low (b : Nat) (A : HP) : Prop := ∀ h, A h → A (lo b h)
theorem lo_mono {b : Nat} {a h : PH} (s : sub a h) : sub (lo b a) (lo b h) := fun n o e => by
  unfold lo at e ⊢
  split at e
  · rename_i hn
    rw [if_pos hn]
    exact s n o e
  · cases e
theorem Low.blk {b c : Nat} {o : Obj} (h : c < b) : Low b (blk c o) := fun x hx => by
  show lo b x (c + 1) = _
  unfold lo
  rw [if_pos (by omega)]
  exact hx
theorem Low.ex {b : Nat} {h0 : PH} (h : dm b h0) : Low b (ex h0) := fun x hx => by
  subst hx
  funext n
  unfold lo
  split
  · rfl
  · rename_i hn
    exact (h n (by omega)).symm
theorem Low.HS {b : Nat} : ∀ {L : List HP}, (∀ A ∈ L, Low b A) → ∀ h, HS L h → HS L (lo b h)
  | [], _, _, _ => trivial
  | A :: L, hl, h, ⟨x, y, d, sx, sy, px, py⟩ => by
    refine ⟨lo b x, lo b y, fun n => ?_, lo_mono sx, lo_mono sy, hl A (by simp) x px, Low.HS (fun B hB => hl B (by simp [hB])) y py⟩
    unfold lo
    split
    · exact d n
    · exact .inl rfl
theorem Low.fold {b : Nat} {L : List HP} (h : ∀ A ∈ L, Low b A) : Low b (Sp.HS L) := Low.HS h
/-- The frame may be taken as it is. -/
theorem HS.ex {L : List HP} : ∀ {A : List HP} {h : PH}, HS (A ++ L) h → ∃ h0, HS L h0 ∧ HS (A ++ [Sp.ex h0]) h
  | [], h, x => ⟨h, x, h, fun _ => none, fun _ => .inr rfl, sub.refl _, sub.none _, rfl, trivial⟩
  | B :: A, h, ⟨x, y, d, sx, sy, px, py⟩ => by
    obtain ⟨h0, h1, h2⟩ := HS.ex (A := A) py
    exact ⟨h0, h1, x, y, d, sx, sy, px, h2⟩
theorem HS.unex {L : List HP} {h0 : PH} (hL : HS L h0) : ∀ {A : List HP} {h : PH}, HS (A ++ [Sp.ex h0]) h → HS (A ++ L) h
  | [], h, ⟨x, y, d, sx, sy, px, py⟩ => by
    have e : x = h0 := px
    subst e
    exact HS.mono hL sx
  | B :: A, h, ⟨x, y, d, sx, sy, px, py⟩ => ⟨x, y, d, sx, sy, px, HS.unex hL py⟩
theorem Fn.ex {e : Enc} {P : Program} {f : FuncId} {args : Array Value} {A : List HP} {B : e.α → List HP → Prop} (h : ∀ h0, E (A ++ [Sp.ex h0]) (cal e P f args fun x w => ∃ X, B x X ∧ Holds w (X ++ [Sp.ex h0]))) : Fn e P f args A B := fun L w hw => by
  obtain ⟨h0, h1, h2⟩ := HS.ex hw
  refine (h h0 w h2).mono ?_
  rintro _ w' ⟨x, he, X, hB, hX⟩
  exact ⟨x, he, X, hB, HS.unex h1 hX⟩
/-- A new block lies behind all that is there. -/
theorem HS.dom {b : Nat} : ∀ {L : List HP} {h : PH}, HS L h → dm b h → ∀ X ∈ L, ∃ a, X a ∧ dm b a
  | A :: L, h, ⟨x, y, d, sx, sy, px, py⟩, hd, X, hX => by
    have dx : dm b x := fun n hn => by
      cases hx : x n with
      | none => rfl
      | some o => exact absurd (sx n o hx) (by simp [hd n hn])
    have dy : dm b y := fun n hn => by
      cases hy : y n with
      | none => rfl
      | some o => exact absurd (sy n o hy) (by simp [hd n hn])
    rcases List.mem_cons.1 hX with rfl | hX
    · exact ⟨x, px, dx⟩
    · exact HS.dom py dy X hX
theorem r_nwcD {L : List HP} {k : Addr → W} {l : List Value} {t : TypeId} (h : ∀ b, (∀ X ∈ L, ∃ a, X a ∧ dm b a) → E (ar b t l :: L) (k ⟨b, 0, none⟩)) : E L (nwc l.toArray t k) := fun w hw => by
  refine h w.heap.size (HS.dom hw fun n hn => ?_) _ (Holds.push hw (.cells ⟨l⟩ t (0, 0)) rfl)
  cases n with
  | zero => omega
  | succ n => rw [hp_s, Array.getElem?_eq_none (by omega)]; rfl
theorem dm_blk {b c : Nat} {o : Obj} {a : PH} (h : blk c o a) (hd : dm b a) : c < b := by
  rcases Nat.lt_or_ge b (c + 1) with h1 | h1
  · have := hd (c + 1) h1
    rw [show a (c + 1) = some (.inl o) from h] at this
    cases this
  · omega
/-! ### The builder -/
abbrev bld (b T e : TypeId) (p : Option Addr) (s : SlV) (bs : List Value) : List HP := [ar b T [.pointer p, .slice s.1 s.2.1 s.2.2], ow e 1 s bs]
section
variable {T e : TypeId} {b : Nat} {p : Option Addr} {s : SlV} {bs : List Value} {L : List HP} {w w' : World}
theorem bld_is (hp : p = none ∨ p = some ⟨b, 0, none⟩) (hs : ∀ g, s.1 = some g → b < g.block) (h : Holds w (bld b T e p s bs ++ L)) : Lib.IsBuilder T e b b bs w := by
  have h1 : Holds w (ar b T [.pointer p, .slice s.1 s.2.1 s.2.2] :: (ow e 1 s bs :: L)) := h
  have h2 : Holds w (ow e 1 s bs :: L) := HS.tl h1
  have hg := Holds.get h1
  have ho := ow_world h2 b (fun g hg => by have := hs g hg; omega)
  have hl : bs.length = s.2.1 := by have := ho.1; omega
  have hA : Lib.BuilderAt T e b b (.pointer p) bs w := by
    refine ⟨Nat.le_refl _, _, hg, ?_, ?_⟩
    · rw [hl]; exact ho
    · obtain ⟨q, n, c⟩ := s
      cases q with
      | none => simp [Value.ownBlock]
      | some g =>
        have := hs g rfl
        simp only [Value.ownBlock, ne_eq, Option.some.injEq]
        omega
  rcases hp with rfl | rfl
  · exact .inl hA
  · exact .inr hA
theorem bld_of (hL : ∀ A ∈ L, Low b A) (h : Holds w (bld b T e p s bs ++ L)) {bs' : List Value} (hb : Lib.BuilderAt T e b b (.pointer (some ⟨b, 0, none⟩)) bs' w') (hbe : RowKit.Below b w w') :
    ∃ s' : SlV, (∀ g, s'.1 = some g → b < g.block) ∧ Holds w' (bld b T e (some ⟨b, 0, none⟩) s' bs' ++ L) := by
  obtain ⟨x, y, d, sx, sy, px, x2, y2, d2, sx2, sy2, px2, hr⟩ := h
  have hrl := Low.HS hL y2 hr
  have srl : sub (lo b y2) (Sp.hp w') := fun n o hn => by
    unfold lo at hn
    split at hn
    · rename_i hnb
      have h1 := sy n o (sy2 n o hn)
      cases n with
      | zero => simpa [Sp.hp, hbe.os, hbe.output, hbe.tape] using h1
      | succ n =>
        rw [hp_s] at h1 ⊢
        rw [hbe.block n (by omega)]
        exact h1
    · cases hn
  obtain ⟨_, v, hv, hown, hne⟩ := hb
  obtain ⟨ho1, ho2⟩ := hown
  rcases ho2 with ⟨rfl, hn0⟩ | ⟨g, cap, cur, rfl, hbg, hgc, hn, hm, hcs, ht⟩
  · have : bs' = [] := List.eq_nil_of_length_eq_zero (by omega)
    subst this
    refine ⟨(none, 0, 0), ⟨fun g hg => (by cases hg), ?_⟩⟩
    refine ⟨fun n => if n = b + 1 then some (.inl (.cells ⟨[.pointer (some ⟨b, 0, none⟩), .slice none 0 0]⟩ T (0, 0))) else none, lo b y2, fun n => ?_, ?_, srl, by show (if b + 1 = b + 1 then _ else _) = _; rw [if_pos rfl], ?_⟩
    · by_cases hnb : n = b + 1
      · right; unfold lo; rw [if_neg (by omega)]
      · left; dsimp only; rw [if_neg hnb]
    · intro n o hn
      dsimp only at hn
      split at hn
      · rename_i hnb
        subst hnb
        simp only [Option.some.injEq] at hn
        subst hn
        exact hp_o.2 hv
      · cases hn
    · exact ⟨fun _ => none, lo b y2, fun _ => .inl rfl, sub.none _, sub.refl _, ow_nil _ _ _, hrl⟩
  · have hgb : g ≠ b := fun h => hne (by simp [Value.ownBlock, h])
    refine ⟨(some ⟨g, 0, none⟩, bs'.length, cap), fun g' hg' => by simp only [Option.some.injEq] at hg'; subst hg'; show b < g; omega, ?_⟩
    refine ⟨fun n => if n = b + 1 then some (.inl (.cells ⟨[.pointer (some ⟨b, 0, none⟩), .slice (some ⟨g, 0, none⟩) bs'.length cap]⟩ T (0, 0))) else none, fun n => if n = g + 1 then some (.inl (.cells cur e (0, 0))) else lo b y2 n, fun n => ?_, ?_, ?_, by show (if b + 1 = b + 1 then _ else _) = _; rw [if_pos rfl], ?_⟩
    · by_cases hnb : n = b + 1
      · right; dsimp only; rw [if_neg (by omega)]; unfold lo; rw [if_neg (by omega)]
      · left; dsimp only; rw [if_neg hnb]
    · intro n o hn
      dsimp only at hn
      split at hn
      · rename_i hnb
        subst hnb
        simp only [Option.some.injEq] at hn
        subst hn
        exact hp_o.2 hv
      · cases hn
    · intro n o hn
      dsimp only at hn
      split at hn
      · rename_i hnb
        subst hnb
        simp only [Option.some.injEq] at hn
        subst hn
        exact hp_o.2 hgc
      · exact srl n o hn
    · refine ⟨fun n => if n = g + 1 then some (.inl (.cells cur e (0, 0))) else none, lo b y2, fun n => ?_, ?_, ?_, ⟨by simp, .inr ⟨g, cap, cur, rfl, by simp, hn, hm, by simpa using hcs, by simpa using ht⟩⟩, hrl⟩
      · by_cases hng : n = g + 1
        · right; unfold lo; rw [if_neg (by omega)]
        · left; dsimp only; rw [if_neg hng]
      · intro n o hn
        dsimp only at hn ⊢
        split at hn
        · rename_i hng
          rw [if_pos hng]; exact hn
        · cases hn
      · intro n o hn
        dsimp only
        by_cases hng : n = g + 1
        · subst hng
          unfold lo at hn
          rw [if_neg (by omega)] at hn
          cases hn
        · rw [if_neg hng]; exact hn
end
end Go.Sp
/- What each region of the Go functions does. Written by my own generator. -/
namespace Go.Sp
open Go
set_option maxRecDepth 100000
set_option linter.unusedVariables false
open Go.Proofs
/-! (*gharry.store.Store).Is -/
/-! (*gharry.store.Store).Read -/
/-! gharry.store.New -/
/-! (*gharry.store.Store).Pages -/
/-! (*gharry.store.Store).check -/
noncomputable def c98 : Cfg := { P := Tryz.prog, n := 26, T := TT, body := (Tryz.f98.body).getD .skip, res := Tryz.f98.results.toList, li := lk [] [(0, [0, 1]), (1, [0, 1]), (2, []), (3, [0, 1]), (4, []), (5, [])], lo := lk [] [(0, [0, 1]), (1, [0, 1, 5]), (2, [4]), (3, [15]), (4, [4]), (5, [4]), (1000000, [4])], ord := lk (false, []) [] }
@[go_sem] theorem c98_i0 : c98.li 0 = [0, 1] := rfl
@[go_sem] theorem c98_i1 : c98.li 1 = [0, 1] := rfl
@[go_sem] theorem c98_i2 : c98.li 2 = [] := rfl
@[go_sem] theorem c98_i3 : c98.li 3 = [0, 1] := rfl
@[go_sem] theorem c98_i4 : c98.li 4 = [] := rfl
@[go_sem] theorem c98_i5 : c98.li 5 = [] := rfl
@[go_sem] theorem c98_r0 (s0 : Option Addr) (id1 : Int) (K : Env → W) : RP c98 0 [(0, .pointer s0), (1, .int .i64 id1)] K =
    (K [(0, .pointer s0), (1, .int .i64 id1)]) := by kernel_rfl
@[go_sem] theorem c98_r1 (s0 : Option Addr) (id1 : Int) (K : Env → W) : RP c98 1 [(0, .pointer s0), (1, .int .i64 id1)] K =
    (cnd ((s0).isNone) (K [(0, .pointer s0), (1, .int .i64 id1), (5, .bool true)]) (nn s0 fun y1_ => (ld eP y1_ fun (y2_ : Option Addr) => (K [(0, .pointer s0), (1, .int .i64 id1), (5, .bool ((y2_).isNone))])))) := by kernel_rfl
@[go_sem] theorem c98_r2 (K : Env → W) : RP c98 2 [] K =
    (K [(4, .int .i64 (11 : Int))]) := by kernel_rfl
@[go_sem] theorem c98_r3 (s0 : Option Addr) (id1 : Int) (K : Env → W) : RP c98 3 [(0, .pointer s0), (1, .int .i64 id1)] K =
    (cnd ((decide (id1 < (0 : Int)))) (K [(15, .bool true)]) (nn s0 fun y1_ => (ld eI ((y1_.add 2)) fun (y2_ : Int) => (K [(15, .bool ((decide (y2_ ≤ id1))))])))) := by kernel_rfl
@[go_sem] theorem c98_r4 (K : Env → W) : RP c98 4 [] K =
    (K [(4, .int .i64 (6 : Int))]) := by kernel_rfl
@[go_sem] theorem c98_r5 (K : Env → W) : RP c98 5 [] K =
    (K [(4, .int .i64 (0 : Int))]) := by kernel_rfl
@[go_sem] theorem c98_o : c98.lo 1000000 = [4] := rfl
@[go_sem] theorem c98_e (t4 : Int) (k : Value → W) : RTp c98 [(4, .int .i64 t4)] k = (k (.int .i64 t4)) := by kernel_rfl
theorem c98_ok : (c98.P.follows .mixedOrders && okc c98 c98.body) = true := by kernel_rfl
theorem c98_fn {e : Enc} {args : Array Value} {G : e.α → W} {L : List HP} {ρ : Env} (hρ : envA 0 args.toList = ρ) (hs : Nat.ble args.size 26 = true) (h : E L (D c98 (.seq (.reg 0) (.seq (.block 0 (.seq (.reg 1) (.cond (.tmp 5) (.seq (.reg 2) (.ret)) (.seq (.reg 3) (.cond (.tmp 15) (.seq (.reg 4) (.ret)) (.skip)))))) (.seq (.reg 5) (.ret)))) (fnQ c98 e G) ρ)) : E L (cal e Tryz.prog 98 args G) :=
  d_fn (c := c98) Tryz.func98 (by kernel_rfl) (by kernel_rfl) (by kernel_rfl) c98_ok (by kernel_rfl) (by kernel_rfl) hρ hs h
/-! (*gharry.store.Store).Write -/
/-! (*gharry.store.Store).Sync -/
/-! (*gharry.store.Store).mark -/
noncomputable def c135 : Cfg := { P := Tryz.prog, n := 21, T := TT, body := (Tryz.f135.body).getD .skip, res := Tryz.f135.results.toList, li := lk [] [(0, [0, 1]), (1, [0, 1]), (2, [1, 6])], lo := lk [] [(0, [0, 1]), (1, [1, 6]), (2, [4, 5]), (1000000, [4, 5])], ord := lk (false, []) [] }
@[go_sem] theorem c135_i0 : c135.li 0 = [0, 1] := rfl
@[go_sem] theorem c135_i1 : c135.li 1 = [0, 1] := rfl
@[go_sem] theorem c135_i2 : c135.li 2 = [1, 6] := rfl
@[go_sem] theorem c135_r0 (s0 : Option Addr) (lsn1 : Int) (K : Env → W) : RP c135 0 [(0, .pointer s0), (1, .int .i64 lsn1)] K =
    (K [(0, .pointer s0), (1, .int .i64 lsn1)]) := by kernel_rfl
@[go_sem] theorem c135_r1 (s0 : Option Addr) (lsn1 : Int) (K : Env → W) : RP c135 1 [(0, .pointer s0), (1, .int .i64 lsn1)] K =
    (nn s0 fun y1_ => (ld eI ((y1_.add 3)) fun (y2_ : Int) => (cal (eT2 eS eI) Tryz.prog 73 #[str (([] : List UInt8)), .int .i64 y2_, .int .i64 (2 : Int)] fun (y3_ : ((List UInt8) × Int)) => (K [(1, .int .i64 lsn1), (6, str y3_.1)])))) := by kernel_rfl
@[go_sem] theorem c135_r2 (lsn1 : Int) (out6 : List UInt8) (K : Env → W) : RP c135 2 [(1, .int .i64 lsn1), (6, str out6)] K =
    (cal (eT2 eS eI) Tryz.prog 73 #[str out6, .int .i64 lsn1, .int .i64 (6 : Int)] fun (y1_ : ((List UInt8) × Int)) => (K [(4, str y1_.1), (5, .int .i64 y1_.2)])) := by kernel_rfl
@[go_sem] theorem c135_o : c135.lo 1000000 = [4, 5] := rfl
@[go_sem] theorem c135_e (t4 : List UInt8) (t5 : Int) (k : Value → W) : RTp c135 [(4, str t4), (5, .int .i64 t5)] k = (k (.tuple #[str t4, .int .i64 t5])) := by kernel_rfl
theorem c135_ok : (c135.P.follows .mixedOrders && okc c135 c135.body) = true := by kernel_rfl
theorem c135_fn {e : Enc} {args : Array Value} {G : e.α → W} {L : List HP} {ρ : Env} (hρ : envA 0 args.toList = ρ) (hs : Nat.ble args.size 21 = true) (h : E L (D c135 (.seq (.reg 0) (.seq (.reg 1) (.seq (.reg 2) (.ret)))) (fnQ c135 e G) ρ)) : E L (cal e Tryz.prog 135 args G) :=
  d_fn (c := c135) Tryz.func135 (by kernel_rfl) (by kernel_rfl) (by kernel_rfl) c135_ok (by kernel_rfl) (by kernel_rfl) hρ hs h
end Go.Sp
/- What each region of the Go functions does. Written by my own generator. -/
namespace Go.Sp
open Go
set_option maxRecDepth 100000
set_option linter.unusedVariables false
open Go.Proofs
/-! gharry.gharrylaw10.made -/
/-! gharry.gharrylaw10.awake -/
/-! (*gharry.gharrylaw10.world).set -/
/-! gharry.gharrylaw10.fill -/
/-! (*gharry.gharrylaw10.world).pinned -/
/-! gharry.gharrylaw10.in -/
end Go.Sp
/- The store: what a page is in its sectors; its small functions. -/
namespace Go.Sp
open Go Go.Proofs
set_option linter.unusedSimpArgs false
set_option linter.unusedVariables false
set_option maxRecDepth 10000
structure St where
  q : Nat
  base : Nat
  pages : Nat
  gen : Nat
abbrev spt (S : St) (sb : Nat) : HP := ar S.q 141 [.pointer (some ⟨sb, 0, none⟩), .int .i64 (S.base : Int), .int .i64 (S.pages : Int), .int .i64 (S.gen : Int)]
abbrev St.p (S : St) : Value := .pointer (some ⟨S.q, 0, none⟩)
/-- The store lies in its disk. -/
structure St.ok (S : St) (n : Nat) : Prop where
  g1 : 1 ≤ S.gen
  g2 : S.gen < 65536
  p1 : 1 ≤ S.pages
  p2 : S.pages ≤ 200
  fit : S.base + 4 * S.pages ≤ n
  n1 : n ≤ 8192
def St.chk (S : St) (id : Int) : Int := if id < 0 ∨ (S.pages : Int) ≤ id then 6 else 0
theorem f82 (S : St) (sb : Nat) (id : Int) : Fp eI Tryz.prog 98 #[S.p, .int .i64 id] [spt S sb] (S.chk id) := fun L => by
  refine c98_fn rfl rfl ?_
  unfold St.chk
  repeat' ((fail_if_success with_reducible refine nph ?_); first | (with_reducible first | (refine d_seq ?_; intro K hK) | (refine hK _ _ ?_; clear hK K) | refine d_blk ?_ | refine d_rt0 ?_ | refine d_sk0 ?_ | refine d_ex0 ?_ | (refine r_nwc ?_; intro b)) | (first | ((with_reducible refine d_cnd ?_); refine And.intro ?_ ?_) | with_reducible refine r_cnd ?_ ?_) <;> intro hc <;> try simp only [push_cast, Int.reduceEq, Int.reduceLT, Int.reduceLE, Int.reduceNe] at hc | with_reducible refine r_rq (by first | decide | omega) ?_ | ((with_reducible first | apply i_lds | apply i_ldsq | apply i_ld | apply i_ldq); exact rfl) | ((with_reducible first | apply i_ldn | apply i_ldnq); exact rfl; exact rfl; exact rfl) | (with_reducible first | refine r_ph0 ?_ | apply i_kp0) | ((with_reducible first | apply i_st | apply i_stl); (focus simp); exact rfl) | ((try with_reducible refine d_reg ?_); simp only [go_sem, Nat.reduceAdd, Nat.reduceEqDiff, Int.reduceToNat, Nat.reduceMul, Nat.reduceSub]) | clear hK K)
  · (with_reducible first | apply i_ret0 | apply i_ret2 | apply i_ret3 | apply i_ret); exact rfl
    rw [if_pos (by omega)]
  · (with_reducible first | apply i_ret0 | apply i_ret2 | apply i_ret3 | apply i_ret); exact rfl
    rw [if_pos (by omega)]
  · (with_reducible first | apply i_ret0 | apply i_ret2 | apply i_ret3 | apply i_ret); exact rfl
    rw [if_neg (by omega)]
def mk8 (gen : Nat) (lsn : Int) : List UInt8 := lowb (gen : Int) 2 ++ lowb lsn 6
theorem p2566 : ((256 ^ 6 : Nat) : Int) = 281474976710656 := by decide
theorem p2562 : ((256 ^ 2 : Nat) : Int) = 65536 := by decide
theorem f83 (S : St) (sb : Nat) (hg : S.gen < 65536) (lsn : Int) : Fp (eT2 eS eI) Tryz.prog 135 #[S.p, .int .i64 lsn] [spt S sb] (if lsn < 0 ∨ 281474976710656 ≤ lsn then ([], 6) else (mk8 S.gen lsn, 0)) := fun L => by
  have F := f97 [] (S.gen : Int) 2 (by decide) (by decide) (by decide)
  have G := f97 (lowb (S.gen : Int) 2) lsn 6 (by decide) (by decide) (by rw [lowb_len]; decide)
  unfold putN at F G
  rw [p2562, if_neg (by omega)] at F
  rw [p2566] at G
  refine c135_fn rfl rfl ?_
  repeat' ((fail_if_success with_reducible refine nph ?_); first | (with_reducible first | (refine d_seq ?_; intro K hK) | (refine hK _ _ ?_; clear hK K) | refine d_blk ?_ | refine d_rt0 ?_ | refine d_sk0 ?_ | refine d_ex0 ?_ | (refine r_nwc ?_; intro b)) | (first | ((with_reducible refine d_cnd ?_); refine And.intro ?_ ?_) | with_reducible refine r_cnd ?_ ?_) <;> intro hc <;> try simp only [push_cast, Int.reduceEq, Int.reduceLT, Int.reduceLE, Int.reduceNe] at hc | with_reducible refine r_rq (by first | decide | omega) ?_ | ((with_reducible first | apply i_lds | apply i_ldsq | apply i_ld | apply i_ldq); exact rfl) | ((with_reducible first | apply i_ldn | apply i_ldnq); exact rfl; exact rfl; exact rfl) | (with_reducible first | refine r_ph0 ?_ | apply i_kp0) | ((with_reducible first | apply i_st | apply i_stl); (focus simp); exact rfl) | ((try with_reducible refine d_reg ?_); simp only [go_sem, Nat.reduceAdd, Nat.reduceEqDiff, Int.reduceToNat, Nat.reduceMul, Nat.reduceSub]) | clear hK K)
  refine i_clp F ?_
  repeat' ((fail_if_success with_reducible refine nph ?_); first | (with_reducible first | (refine d_seq ?_; intro K hK) | (refine hK _ _ ?_; clear hK K) | refine d_blk ?_ | refine d_rt0 ?_ | refine d_sk0 ?_ | refine d_ex0 ?_ | (refine r_nwc ?_; intro b)) | (first | ((with_reducible refine d_cnd ?_); refine And.intro ?_ ?_) | with_reducible refine r_cnd ?_ ?_) <;> intro hc <;> try simp only [push_cast, Int.reduceEq, Int.reduceLT, Int.reduceLE, Int.reduceNe] at hc | with_reducible refine r_rq (by first | decide | omega) ?_ | ((with_reducible first | apply i_lds | apply i_ldsq | apply i_ld | apply i_ldq); exact rfl) | ((with_reducible first | apply i_ldn | apply i_ldnq); exact rfl; exact rfl; exact rfl) | (with_reducible first | refine r_ph0 ?_ | apply i_kp0) | ((with_reducible first | apply i_st | apply i_stl); (focus simp); exact rfl) | ((try with_reducible refine d_reg ?_); simp only [go_sem, Nat.reduceAdd, Nat.reduceEqDiff, Int.reduceToNat, Nat.reduceMul, Nat.reduceSub]) | clear hK K)
  refine i_clp G ?_
  repeat' ((fail_if_success with_reducible refine nph ?_); first | (with_reducible first | (refine d_seq ?_; intro K hK) | (refine hK _ _ ?_; clear hK K) | refine d_blk ?_ | refine d_rt0 ?_ | refine d_sk0 ?_ | refine d_ex0 ?_ | (refine r_nwc ?_; intro b)) | (first | ((with_reducible refine d_cnd ?_); refine And.intro ?_ ?_) | with_reducible refine r_cnd ?_ ?_) <;> intro hc <;> try simp only [push_cast, Int.reduceEq, Int.reduceLT, Int.reduceLE, Int.reduceNe] at hc | with_reducible refine r_rq (by first | decide | omega) ?_ | ((with_reducible first | apply i_lds | apply i_ldsq | apply i_ld | apply i_ldq); exact rfl) | ((with_reducible first | apply i_ldn | apply i_ldnq); exact rfl; exact rfl; exact rfl) | (with_reducible first | refine r_ph0 ?_ | apply i_kp0) | ((with_reducible first | apply i_st | apply i_stl); (focus simp); exact rfl) | ((try with_reducible refine d_reg ?_); simp only [go_sem, Nat.reduceAdd, Nat.reduceEqDiff, Int.reduceToNat, Nat.reduceMul, Nat.reduceSub]) | clear hK K)
  (with_reducible first | apply i_ret0 | apply i_ret2 | apply i_ret3 | apply i_ret); exact rfl
  rfl
def fl (c : UInt8) : List UInt8 := List.replicate 224 c
end Go.Sp
/- The store: a page is written. -/
namespace Go.Sp
open Go Go.Proofs
set_option linter.unusedSimpArgs false
set_option linter.unusedVariables false
set_option maxRecDepth 10000
def pt (text : List UInt8) (i : Nat) : List UInt8 := (text.drop (56 * i)).take 56
theorem pt_len {text : List UInt8} (h : text.length = 224) {i : Nat} (hi : i < 4) : (pt text i).length = 56 := by
  simp [pt, h]; omega
def Dk.wp (Z : Dk) (a : Nat) (m text : List UInt8) : Nat → Int × Dk
  | 0 => (0, Z)
  | k + 1 => if (Z.wp a m text k).1 = 0 then (Z.wp a m text k).2.write ((a + k : Nat) : Int) (m ++ pt text k) else Z.wp a m text k
theorem Dk.wp_ok {Z : Dk} (h : Z.ok) (a : Nat) (m text : List UInt8) : ∀ k, (Z.wp a m text k).2.ok ∧ (Z.wp a m text k).2.sb = Z.sb
  | 0 => ⟨h, rfl⟩
  | k + 1 => by
    obtain ⟨h1, h2⟩ := Dk.wp_ok h a m text k
    unfold Dk.wp
    split
    · exact ⟨Dk.write_ok h1 _ _, (Dk.write_sb _ _ _).trans h2⟩
    · exact ⟨h1, h2⟩
end Go.Sp
/- The store: a page is read. -/
namespace Go.Sp
open Go Go.Proofs
set_option linter.unusedSimpArgs false
set_option linter.unusedVariables false
set_option maxRecDepth 10000
def Dk.sc (Z : Dk) (a i : Nat) : List UInt8 := Z.get ((a + i : Nat) : Int)
end Go.Sp
/- The store: its other functions; what every sector has. -/
namespace Go.Sp
open Go Go.Proofs
set_option linter.unusedSimpArgs false
set_option linter.unusedVariables false
set_option maxRecDepth 10000
end Go.Sp
/- The store: what every sector has, whatever is done; a page that is written is read. -/
namespace Go.Sp
open Go Go.Proofs
set_option linter.unusedSimpArgs false
set_option linter.unusedVariables false
set_option maxRecDepth 10000
/-- All that a sector may have, lasting or waiting. -/
def All (P : Nat → List UInt8 → Prop) (Z : Dk) : Prop := ∀ j, j < Z.sure.length → P j (wh (Z.sure.getD j [])) ∧ ∀ v, gk Z.es (j : Int) = some v → P j v
section
variable {P : Nat → List UInt8 → Prop} {Z : Dk}
theorem All.get (h : All P Z) {j : Nat} (hj : j < Z.sure.length) : P j (Z.get (j : Int)) := by
  obtain ⟨h1, h2⟩ := h j hj
  unfold Dk.get
  cases hg : gk Z.es (j : Int) with
  | none => simpa using h1
  | some v => simpa using h2 v hg
theorem All.of {Z' : Dk} (h : All P Z) (hs : Z'.sure = Z.sure) (he : Z'.es = Z.es) : All P Z' := by
  intro j hj
  rw [hs] at hj ⊢
  rw [he]
  exact h j hj
theorem All.off (hok : Z.ok) (h : All P Z) (keep : Int) : All P (Z.off keep) := by
  have hl := Dk.cutn_len Z keep Z.keys.length
  intro j hj
  have hj' : j < Z.sure.length := by rw [← hl]; exact hj
  refine ⟨?_, fun v hv => by cases hv⟩
  show P j (wh ((Z.cutn keep Z.keys.length).getD j []))
  rcases Dk.cut_or hok keep Z.keys.length (Nat.le_refl _) j with h1 | h1
  · rw [h1]; exact (h j hj').1
  · obtain ⟨x, hx, _, hv⟩ := gk_mem h1
    have h64 := hok.e64 x hx
    rw [hv] at h64
    rw [wh_full h64]
    exact (h j hj').2 _ h1
theorem All.act (hok : Z.ok) (h : All P Z) : All P Z.act.2 := by
  unfold Dk.act
  split
  · exact All.off hok h _
  · exact All.of h rfl rfl
theorem All.write (hok : Z.ok) (h : All P Z) {i : Nat} {s : List UInt8} (hp : s.length ≤ 64 → P i (wh s)) : All P (Z.write (i : Int) s).2 := by
  have ha := All.act hok h
  unfold Dk.write
  split
  · split
    · exact h
    · rename_i hs
      split
      · intro j hj
        refine ⟨(ha j hj).1, fun v hv => ?_⟩
        have e : gk (Z.act.2.put (i : Int) (wh s)).es (j : Int) = if (i : Int) = (j : Int) then some (wh s) else gk Z.act.2.es (j : Int) := gk_pk _ _ _ _ _
        rw [e] at hv
        by_cases hij : (i : Int) = (j : Int)
        · rw [if_pos hij] at hv
          have : i = j := by omega
          subst this
          simp only [Option.some.injEq] at hv
          rw [← hv]
          exact hp (by omega)
        · rw [if_neg hij] at hv
          exact (ha j hj).2 v hv
      · exact ha
  · exact h
theorem All.flush (hok : Z.ok) (h : All P Z) : All P Z.flush := by
  intro j hj
  have hj' : j < Z.sure.length := by rw [← sy_len Z.es Z.sure]; exact hj
  refine ⟨?_, fun v hv => by cases hv⟩
  have e := Dk.flush_get hok hj'
  have e2 : Z.flush.get (j : Int) = wh (Z.flush.sure.getD j []) := by
    unfold Dk.get
    simp [Dk.flush, gk]
  rw [← e2, e]
  exact h.get hj'
theorem All.sync (hok : Z.ok) (h : All P Z) : All P Z.sync.2 := by
  have ha := All.act hok h
  unfold Dk.sync
  split
  · split
    · exact All.flush (Dk.act_ok hok) ha
    · exact ha
  · exact h
theorem All.wp (hok : Z.ok) (h : All P Z) {a : Nat} {m text : List UInt8} (hm : m.length = 8) (ht : text.length = 224) (hp : ∀ i, i < 4 → P (a + i) (m ++ pt text i)) : ∀ k, k ≤ 4 → All P (Z.wp a m text k).2
  | 0, _ => h
  | k + 1, hk => by
    have ih := All.wp hok h hm ht hp k (by omega)
    have h1 := (Dk.wp_ok hok a m text k).1
    unfold Dk.wp
    split
    · refine All.write h1 ih fun _ => ?_
      rw [wh_full (by rw [List.length_append, pt_len ht (by omega)]; omega)]
      exact hp k (by omega)
    · exact ih
end
theorem Dk.write_n (Z : Dk) (i : Int) (s : List UInt8) : (Z.write i s).2.sure.length = Z.sure.length := by
  have := Dk.act_len Z
  unfold Dk.write
  split
  · split
    · rfl
    · split
      · exact this
      · exact this
  · rfl
theorem Dk.sync_n (Z : Dk) : Z.sync.2.sure.length = Z.sure.length := by
  have := Dk.act_len Z
  unfold Dk.sync
  split
  · split
    · exact (sy_len _ _).trans this
    · exact this
  · rfl
/-! ### Writes on a disk that nothing lets go -/
theorem Dk.calm.wp {Z : Dk} {sb n : Nat} (h : Z.calm sb n) {a : Nat} (ha : a + 4 ≤ n) {m text : List UInt8} (hm : m.length = 8) (ht : text.length = 224) : ∀ k, k ≤ 4 → (Z.wp a m text k).1 = 0 ∧ (Z.wp a m text k).2.calm sb n ∧ (Z.wp a m text k).2.sure = Z.sure ∧
    ∀ j : Nat, gk (Z.wp a m text k).2.es (j : Int) = if a ≤ j ∧ j < a + k then some (m ++ pt text (j - a)) else gk Z.es (j : Int)
  | 0, _ => ⟨rfl, h, rfl, fun j => by rw [if_neg (by omega)]; rfl⟩
  | k + 1, hk => by
    obtain ⟨h1, h2, h3, h4⟩ := Dk.calm.wp h ha hm ht k (by omega)
    have hpl := pt_len ht (i := k) (by omega)
    have hl : (m ++ pt text k).length = 64 := by rw [List.length_append]; omega
    obtain ⟨w1, w2, w3, w4, w5⟩ := h2.write (i := a + k) (by omega) (by omega : (m ++ pt text k).length ≤ 64)
    have e : Z.wp a m text (k + 1) = (Z.wp a m text k).2.write ((a + k : Nat) : Int) (m ++ pt text k) := by show ite _ _ _ = _; rw [if_pos h1]
    rw [e]
    refine ⟨w1, w2, w3.trans h3, fun j => ?_⟩
    rw [w5, h4, wh_full hl]
    by_cases hj : a + k = j
    · rw [if_pos (by omega), if_pos ⟨by omega, by omega⟩]
      have : j - a = k := by omega
      rw [this]
    · rw [if_neg (by omega)]
      by_cases hc : a ≤ j ∧ j < a + k
      · rw [if_pos hc, if_pos ⟨hc.1, by omega⟩]
      · rw [if_neg hc, if_neg (by omega)]
end Go.Sp
/- The log: a sector is written; scan. -/
namespace Go.Sp
open Go Go.Proofs
set_option linter.unusedSimpArgs false
set_option linter.unusedVariables false
set_option maxRecDepth 10000
def part (s : List UInt8) (i : Nat) : List UInt8 := (s.drop (58 * i)).take 58
theorem part_le (s : List UInt8) (i : Nat) : (part s i).length ≤ 58 := by unfold part; rw [List.length_take]; omega
def Lg.sec (G : Lg) (i : Nat) : List UInt8 := lowb (G.run : Int) 4 ++ lowb ((part G.all i).length : Int) 2 ++ part G.all i
def Dk.lw (Z : Dk) (G : Lg) (i : Nat) : Int × Dk := if G.sectors ≤ i then (0, Z) else Z.write ((G.base + i : Nat) : Int) (G.sec i)
theorem min_part (s : List UInt8) (i : Nat) (hs : s.length ≤ 1000000) (hi : i ≤ 8192) :
    (if (s.length : Int) < (i : Int) * 58 then (s.length : Int) else (i : Int) * 58) = ((min (58 * i) s.length : Nat) : Int) := by
  split <;> omega
theorem ss_part (s : List UInt8) (i : Nat) : ss s ((min (58 * i) s.length : Nat) : Int) ((min (58 * (i + 1)) s.length : Nat) : Int) = part s i := by
  unfold ss part
  simp only [Int.toNat_natCast]
  rcases Nat.lt_or_ge (58 * i) s.length with h | h
  · rw [show min (58 * i) s.length = 58 * i by omega]
    rcases Nat.lt_or_ge (58 * (i + 1)) s.length with h2 | h2
    · rw [show min (58 * (i + 1)) s.length = 58 * i + 58 by omega, List.drop_take]
      congr 1
      omega
    · rw [show min (58 * (i + 1)) s.length = s.length by omega, List.take_length, List.take_of_length_le (by rw [List.length_drop]; omega)]
  · rw [show min (58 * i) s.length = s.length by omega, show min (58 * (i + 1)) s.length = s.length by omega, List.take_length, List.drop_length, List.drop_eq_nil_of_le h]
    rfl
theorem layN_go {s : List UInt8} {n : Int} {w : Nat} (h : fitN n w) : layN (s, 0) n w = (s ++ lowb n w, 0) := by
  have h' : ¬ (n < 0 ∨ ((256 ^ w : Nat) : Int) ≤ n) := by
    have h1 := h.1
    have h2 := h.2
    omega
  have e : putN s n w = (s ++ lowb n w, 0) := if_neg h'
  unfold layN lay1
  rw [if_neg (by simp), e, if_neg (by simp)]
theorem fit4 {n : Nat} (h : n < 4294967296) : fitN (n : Int) 4 := ⟨by omega, by rw [show ((256 ^ 4 : Nat) : Int) = 4294967296 by decide]; omega⟩
theorem sec_w (G : Lg) (i : Nat) (h1 : G.run < 4294967296) : layN (layN ([], 0) (G.run : Int) 4) ((part G.all i).length : Int) 2 = (lowb (G.run : Int) 4 ++ lowb ((part G.all i).length : Int) 2, 0) := by
  have hp := part_le G.all i
  rw [layN_go (fit4 h1), layN_go (fit2 (by omega))]
  rfl
theorem g77 (G : Lg) (Z : Dk) (h : Z.ok) (hG : G.ok Z.sure.length) (i : Nat) (hi : i ≤ 8192) : Fq eI Tryz.prog 77 #[G.p, .int .i64 (i : Int)] [lgp G Z.sb, dk Z] [lgp G Z.sb, dk (Z.lw G i).2] (Z.lw G i).1 := fun L => by
  have hfit := hG.fit
  have hn1 := hG.n1
  have hle := hG.le
  have F := F27 Z h ((G.base + i : Nat) : Int) (G.sec i)
  have hp := part_le G.all i
  simp only [Dk.p] at F
  unfold Dk.lw Lg.sec
  refine c77_fn rfl rfl ?_
  by_cases h1 : G.sectors ≤ i
  · rw [if_pos h1]
    repeat' ((fail_if_success with_reducible refine nph ?_); first | (with_reducible first | (refine d_seq ?_; intro K hK) | (refine hK _ _ ?_; clear hK K) | refine d_blk ?_ | refine d_rt0 ?_ | refine d_sk0 ?_ | refine d_ex0 ?_ | (refine r_nwc ?_; intro b)) | (first | ((with_reducible refine d_cnd ?_); refine And.intro ?_ ?_) | with_reducible refine r_cnd ?_ ?_) <;> intro hc <;> try simp only [push_cast, Int.reduceEq, Int.reduceLT, Int.reduceLE, Int.reduceNe] at hc | with_reducible refine r_rq (by first | decide | omega) ?_ | ((with_reducible first | apply i_lds | apply i_ldsq | apply i_ld | apply i_ldq); exact rfl) | ((with_reducible first | apply i_ldn | apply i_ldnq); exact rfl; exact rfl; exact rfl) | (with_reducible first | refine r_ph0 ?_ | apply i_kp0) | ((with_reducible first | apply i_st | apply i_stl); (focus simp); exact rfl) | ((try with_reducible refine d_reg ?_); simp only [go_sem, Nat.reduceAdd, Nat.reduceEqDiff, Int.reduceToNat, Nat.reduceMul, Nat.reduceSub]) | clear hK K)
    all_goals try (exfalso; omega)
    (with_reducible first | apply i_ret0 | apply i_ret2 | apply i_ret3 | apply i_ret); exact rfl
    rfl
  · rw [if_neg h1]
    have W := sec_w G i hG.r2
    have m1 := min_part G.all i (by omega) hi
    have m2 := min_part G.all (i + 1) (by omega) (by omega)
    have e1 : IntKind.wrap .i64 ((i : Int) * 58) = (i : Int) * 58 := w64 (by omega) (by omega)
    have e2 : IntKind.wrap .i64 (IntKind.wrap .i64 ((i : Int) + 1) * 58) = ((i + 1 : Nat) : Int) * 58 := by rw [w64 (n := (i : Int) + 1) (by omega) (by omega), w64 (by omega) (by omega)]; omega
    have e3 : IntKind.wrap .i64 ((G.base : Int) + (i : Int)) = ((G.base + i : Nat) : Int) := by rw [w64 (by omega) (by omega)]; omega
    have l1 := layN_len ([], 0) (G.run : Int) 4
    unfold Lg.sec at F
    repeat' ((fail_if_success with_reducible refine nph ?_); first | (with_reducible first | (refine d_seq ?_; intro K hK) | (refine hK _ _ ?_; clear hK K) | refine d_blk ?_ | refine d_rt0 ?_ | refine d_sk0 ?_ | refine d_ex0 ?_ | (refine r_nwc ?_; intro b)) | (first | ((with_reducible refine d_cnd ?_); refine And.intro ?_ ?_) | with_reducible refine r_cnd ?_ ?_) <;> intro hc <;> try simp only [push_cast, Int.reduceEq, Int.reduceLT, Int.reduceLE, Int.reduceNe] at hc | with_reducible refine r_rq (by first | decide | omega) ?_ | ((with_reducible first | apply i_lds | apply i_ldsq | apply i_ld | apply i_ldq); exact rfl) | ((with_reducible first | apply i_ldn | apply i_ldnq); exact rfl; exact rfl; exact rfl) | (with_reducible first | refine r_ph0 ?_ | apply i_kp0) | ((with_reducible first | apply i_st | apply i_stl); (focus simp); exact rfl) | ((try with_reducible refine d_reg ?_); simp only [go_sem, Nat.reduceAdd, Nat.reduceEqDiff, Int.reduceToNat, Nat.reduceMul, Nat.reduceSub]) | clear hK K)
    all_goals try (exfalso; omega)
    refine r_ph0 ?_
    repeat' (first | rw [e1] | rw [e2] | rw [m1] | rw [m2] | rw [ss_part] | (fail_if_success with_reducible refine nph ?_); first | (with_reducible first | (refine d_seq ?_; intro K hK) | (refine hK _ _ ?_; clear hK K) | refine d_blk ?_ | refine d_rt0 ?_ | refine d_sk0 ?_ | refine d_ex0 ?_ | (refine r_nwc ?_; intro b)) | (first | ((with_reducible refine d_cnd ?_); refine And.intro ?_ ?_) | with_reducible refine r_cnd ?_ ?_) <;> intro hc <;> try simp only [push_cast, Int.reduceEq, Int.reduceLT, Int.reduceLE, Int.reduceNe] at hc | with_reducible refine r_rq (by first | decide | omega) ?_ | ((with_reducible first | apply i_lds | apply i_ldsq | apply i_ld | apply i_ldq); exact rfl) | ((with_reducible first | apply i_ldn | apply i_ldnq); exact rfl; exact rfl; exact rfl) | (with_reducible first | refine r_ph0 ?_ | apply i_kp0) | ((with_reducible first | apply i_st | apply i_stl); (focus simp); exact rfl) | ((try with_reducible refine d_reg ?_); simp only [go_sem, Nat.reduceAdd, Nat.reduceEqDiff, Int.reduceToNat, Nat.reduceMul, Nat.reduceSub]) | clear hK K)
    refine i_clq (gN b ([], 0) (G.run : Int) 4 (by decide) (by decide) (by decide)) ?_
    repeat' ((fail_if_success with_reducible refine nph ?_); first | (with_reducible first | (refine d_seq ?_; intro K hK) | (refine hK _ _ ?_; clear hK K) | refine d_blk ?_ | refine d_rt0 ?_ | refine d_sk0 ?_ | refine d_ex0 ?_ | (refine r_nwc ?_; intro b)) | (first | ((with_reducible refine d_cnd ?_); refine And.intro ?_ ?_) | with_reducible refine r_cnd ?_ ?_) <;> intro hc <;> try simp only [push_cast, Int.reduceEq, Int.reduceLT, Int.reduceLE, Int.reduceNe] at hc | with_reducible refine r_rq (by first | decide | omega) ?_ | ((with_reducible first | apply i_lds | apply i_ldsq | apply i_ld | apply i_ldq); exact rfl) | ((with_reducible first | apply i_ldn | apply i_ldnq); exact rfl; exact rfl; exact rfl) | (with_reducible first | refine r_ph0 ?_ | apply i_kp0) | ((with_reducible first | apply i_st | apply i_stl); (focus simp); exact rfl) | ((try with_reducible refine d_reg ?_); simp only [go_sem, Nat.reduceAdd, Nat.reduceEqDiff, Int.reduceToNat, Nat.reduceMul, Nat.reduceSub]) | clear hK K)
    refine i_clq (gN b (layN ([], 0) (G.run : Int) 4) ((part G.all i).length : Int) 2 (by decide) (by decide) (by dsimp only [List.length_nil] at l1; omega)) ?_
    rw [W]
    repeat' ((fail_if_success with_reducible refine nph ?_); first | (with_reducible first | (refine d_seq ?_; intro K hK) | (refine hK _ _ ?_; clear hK K) | refine d_blk ?_ | refine d_rt0 ?_ | refine d_sk0 ?_ | refine d_ex0 ?_ | (refine r_nwc ?_; intro b)) | (first | ((with_reducible refine d_cnd ?_); refine And.intro ?_ ?_) | with_reducible refine r_cnd ?_ ?_) <;> intro hc <;> try simp only [push_cast, Int.reduceEq, Int.reduceLT, Int.reduceLE, Int.reduceNe] at hc | with_reducible refine r_rq (by first | decide | omega) ?_ | ((with_reducible first | apply i_lds | apply i_ldsq | apply i_ld | apply i_ldq); exact rfl) | ((with_reducible first | apply i_ldn | apply i_ldnq); exact rfl; exact rfl; exact rfl) | (with_reducible first | refine r_ph0 ?_ | apply i_kp0) | ((with_reducible first | apply i_st | apply i_stl); (focus simp); exact rfl) | ((try with_reducible refine d_reg ?_); simp only [go_sem, Nat.reduceAdd, Nat.reduceEqDiff, Int.reduceToNat, Nat.reduceMul, Nat.reduceSub]) | clear hK K)
    refine i_clp (f96 b (lowb (G.run : Int) 4 ++ lowb ((part G.all i).length : Int) 2, 0)) ?_
    have q4 := lowb_len (G.run : Int) 4
    have q2 := lowb_len ((part G.all i).length : Int) 2
    repeat' ((fail_if_success with_reducible refine nph ?_); first | (with_reducible first | (refine d_seq ?_; intro K hK) | (refine hK _ _ ?_; clear hK K) | refine d_blk ?_ | refine d_rt0 ?_ | refine d_sk0 ?_ | refine d_ex0 ?_ | (refine r_nwc ?_; intro b)) | (first | ((with_reducible refine d_cnd ?_); refine And.intro ?_ ?_) | with_reducible refine r_cnd ?_ ?_) <;> intro hc <;> try simp only [push_cast, Int.reduceEq, Int.reduceLT, Int.reduceLE, Int.reduceNe] at hc | with_reducible refine r_rq (by first | decide | omega) ?_ | ((with_reducible first | apply i_lds | apply i_ldsq | apply i_ld | apply i_ldq); exact rfl) | ((with_reducible first | apply i_ldn | apply i_ldnq); exact rfl; exact rfl; exact rfl) | (with_reducible first | refine r_ph0 ?_ | apply i_kp0) | ((with_reducible first | apply i_st | apply i_stl); (focus simp); exact rfl) | ((try with_reducible refine d_reg ?_); simp only [go_sem, Nat.reduceAdd, Nat.reduceEqDiff, Int.reduceToNat, Nat.reduceMul, Nat.reduceSub]) | clear hK K)
    refine r_ph [lgp G Z.sb] SX.p ?_
    repeat' ((fail_if_success with_reducible refine nph ?_); first | (with_reducible first | (refine d_seq ?_; intro K hK) | (refine hK _ _ ?_; clear hK K) | refine d_blk ?_ | refine d_rt0 ?_ | refine d_sk0 ?_ | refine d_ex0 ?_ | (refine r_nwc ?_; intro b)) | (first | ((with_reducible refine d_cnd ?_); refine And.intro ?_ ?_) | with_reducible refine r_cnd ?_ ?_) <;> intro hc <;> try simp only [push_cast, Int.reduceEq, Int.reduceLT, Int.reduceLE, Int.reduceNe] at hc | with_reducible refine r_rq (by first | decide | omega) ?_ | ((with_reducible first | apply i_lds | apply i_ldsq | apply i_ld | apply i_ldq); exact rfl) | ((with_reducible first | apply i_ldn | apply i_ldnq); exact rfl; exact rfl; exact rfl) | (with_reducible first | refine r_ph0 ?_ | apply i_kp0) | ((with_reducible first | apply i_st | apply i_stl); (focus simp); exact rfl) | ((try with_reducible refine d_reg ?_); simp only [go_sem, Nat.reduceAdd, Nat.reduceEqDiff, Int.reduceToNat, Nat.reduceMul, Nat.reduceSub]) | clear hK K)
    refine r_rq (by rw [List.length_append]; omega) ?_
    rw [e3]
    refine i_clq F ?_
    repeat' ((fail_if_success with_reducible refine nph ?_); first | (with_reducible first | (refine d_seq ?_; intro K hK) | (refine hK _ _ ?_; clear hK K) | refine d_blk ?_ | refine d_rt0 ?_ | refine d_sk0 ?_ | refine d_ex0 ?_ | (refine r_nwc ?_; intro b)) | (first | ((with_reducible refine d_cnd ?_); refine And.intro ?_ ?_) | with_reducible refine r_cnd ?_ ?_) <;> intro hc <;> try simp only [push_cast, Int.reduceEq, Int.reduceLT, Int.reduceLE, Int.reduceNe] at hc | with_reducible refine r_rq (by first | decide | omega) ?_ | ((with_reducible first | apply i_lds | apply i_ldsq | apply i_ld | apply i_ldq); exact rfl) | ((with_reducible first | apply i_ldn | apply i_ldnq); exact rfl; exact rfl; exact rfl) | (with_reducible first | refine r_ph0 ?_ | apply i_kp0) | ((with_reducible first | apply i_st | apply i_stl); (focus simp); exact rfl) | ((try with_reducible refine d_reg ?_); simp only [go_sem, Nat.reduceAdd, Nat.reduceEqDiff, Int.reduceToNat, Nat.reduceMul, Nat.reduceSub]) | clear hK K)
    (with_reducible first | apply i_ret0 | apply i_ret2 | apply i_ret3 | apply i_ret); exact rfl
    rfl
theorem Dk.lw_ok {Z : Dk} (h : Z.ok) (G : Lg) (i : Nat) : (Z.lw G i).2.ok ∧ (Z.lw G i).2.sb = Z.sb ∧ (Z.lw G i).2.sure.length = Z.sure.length := by
  unfold Dk.lw Lg.sec
  split
  · exact ⟨h, rfl, rfl⟩
  · exact ⟨Dk.write_ok h _ _, Dk.write_sb _ _ _, Dk.write_n _ _ _⟩
end Go.Sp
/- The log: scan. -/
namespace Go.Sp
open Go Go.Proofs
set_option linter.unusedSimpArgs false
set_option linter.unusedVariables false
set_option maxRecDepth 10000
section
variable {L : List HP} {b : Nat} {p : Option Addr} {s : SlV} {l t : List UInt8}
theorem bld_size {w : World} {T e : TypeId} {bs : List Value} (h : Holds w (bld b T e p s bs ++ L)) : b ≤ w.heap.size := by
  have h1 : Holds w (ar b T [.pointer p, .slice s.1 s.2.1 s.2.2] :: (ow e 1 s bs :: L)) := h
  have hg := Holds.get h1
  rcases Nat.lt_or_ge b w.heap.size with h | h
  · omega
  · rw [Array.getElem?_eq_none h] at hg; cases hg
theorem r_ws {k : Int × Value → W} (hL : ∀ A ∈ L, Low b A) (hp : p = none ∨ p = some ⟨b, 0, none⟩) (hs : ∀ g, s.1 = some g → b < g.block) (hlen : l.length + t.length ≤ 140737488355328)
    (hk : ∀ s' : SlV, (∀ g, s'.1 = some g → b < g.block) → E (bld b 144 5 (some ⟨b, 0, none⟩) s' (cb (l ++ t)) ++ L) (k ((t.length : Int), .nilIface))) :
    E (bld b 144 5 p s (cb l) ++ L) (cal (eT2 eI eV) Tryz.prog 100 #[.pointer (some ⟨b, 0, none⟩), str t] k) := fun w hw => by
  have hi := bld_is hp hs hw
  have hc := Any.Builder_WriteString Tryz.lays166 Tryz.builderW b b (cb l) ⟨t.toArray⟩ w hi (by rw [cb_len]; exact hlen) (bld_size hw)
  refine hc.mono ?_
  rintro _ w' ⟨rfl, hb, hbe⟩
  obtain ⟨s', h1, h2⟩ := bld_of hL hw hb hbe
  refine ⟨((t.length : Int), .nilIface), rfl, hk s' h1 w' ?_⟩
  have e : cb (l ++ t) = cb l ++ Lib.strCells ⟨t.toArray⟩ := by simp [cb, Lib.strCells]
  rw [e]
  exact h2
theorem low_keeps {w w' : World} (hL : ∀ A ∈ L, Low b A) (h : Holds w L) (hbe : RowKit.Below b w w') : Holds w' L := by
  refine HS.mono (Low.HS hL _ h) fun n o hn => ?_
  unfold lo at hn
  split at hn
  · rename_i hnb
    cases n with
    | zero => simpa [Sp.hp, hbe.os, hbe.output, hbe.tape] using hn
    | succ n =>
      rw [hp_s] at hn ⊢
      rw [hbe.block n (by omega)]
      exact hn
  · cases hn
theorem r_bs' {k : List UInt8 → W} (hL : ∀ A ∈ L, Low b A) (hp : p = none ∨ p = some ⟨b, 0, none⟩) (hs : ∀ g, s.1 = some g → b < g.block) (hk : E L (k l)) :
    E (bld b 144 5 p s (cb l) ++ L) (cal eS Tryz.prog 102 #[.pointer (some ⟨b, 0, none⟩)] k) := fun w hw => by
  have hi := bld_is hp hs hw
  have hi' : Lib.IsBuilder 144 5 b b (Lib.byteCells l) w := by simpa [cb, Lib.byteCells] using hi
  have hc := Any.Builder_String_any Tryz.lays169 Tryz.builderS b b l w hi' (bld_size hw)
  refine hc.mono ?_
  rintro _ w' ⟨rfl, hbe⟩
  refine ⟨l, rfl, hk w' (low_keeps hL ?_ hbe)⟩
  have h1 : Holds w (ar b 144 [.pointer p, .slice s.1 s.2.1 s.2.2] :: (ow 5 1 s (cb l) :: L)) := hw
  exact HS.tl (HS.tl h1)
end
theorem low_dk {Z : Dk} {b : Nat} (h : ∃ a, dk Z a ∧ dm b a) : Low b (dk Z) := by
  obtain ⟨a, ha, hd⟩ := h
  have := HS.dom (L := dkl Z) ha hd
  refine Low.fold fun A hA => ?_
  obtain ⟨x, hx, hdx⟩ := this A hA
  simp only [dkl, List.mem_cons, List.not_mem_nil, or_false] at hA
  rcases hA with rfl | rfl | rfl
  · exact Low.blk (dm_blk hx hdx)
  · exact Low.blk (dm_blk hx hdx)
  · exact Low.blk (dm_blk hx hdx)
/-- The bytes of the sectors that go on. -/
def Dk.scn (Z : Dk) (base top : Nat) : Nat → Nat → Nat → List UInt8
  | 0, _, _ => []
  | k + 1, i, r =>
    if be ((Z.get ((base + i : Nat) : Int)).take 4) < r ∨ top < be ((Z.get ((base + i : Nat) : Int)).take 4) ∨ 58 < be (((Z.get ((base + i : Nat) : Int)).drop 4).take 2) then []
    else ((Z.get ((base + i : Nat) : Int)).drop 6).take (be (((Z.get ((base + i : Nat) : Int)).drop 4).take 2)) ++ (if be (((Z.get ((base + i : Nat) : Int)).drop 4).take 2) < 58 then [] else Z.scn base top k (i + 1) (be ((Z.get ((base + i : Nat) : Int)).take 4)))
set_option maxHeartbeats 2000000 in
theorem g68 (G : Lg) (Z : Dk) (h : Z.ok) (hG : G.ok Z.sure.length) : Fn (eT2 eS eI) Tryz.prog 68 #[G.p] [lgp G Z.sb, dk Z] fun y X => X = [lgp G Z.sb, dk Z] ∧ y = if Z.up then (Z.scn G.base G.run G.sectors 0 1, 0) else ([], 9) := by
  refine Fn.ex fun h0 => ?_
  have hfit := hG.fit
  have hn1 := hG.n1
  have hs1 := hG.s1
  have hr2 := hG.r2
  refine c68_fn rfl rfl ?_
  refine d_seq ?_
  intro K0 hK0
  refine d_reg ?_
  simp only [go_sem, Nat.reduceAdd, Nat.reduceEqDiff, Int.reduceToNat, Nat.reduceMul, Nat.reduceSub]
  refine hK0 _ _ ?_
  clear hK0 K0
  refine d_seq ?_
  intro K0 hK0
  refine d_reg ?_
  simp only [go_sem, Nat.reduceAdd, Nat.reduceEqDiff, Int.reduceToNat, Nat.reduceMul, Nat.reduceSub]
  refine r_nwcD fun b hd => ?_
  refine hK0 _ _ ?_
  clear hK0 K0
  have hL : ∀ A ∈ [lgp G Z.sb, dk Z, ex h0], Low b A := by
    intro A hA
    simp only [List.mem_cons, List.not_mem_nil, or_false] at hA
    rcases hA with rfl | rfl | rfl
    · obtain ⟨x, hx, hdx⟩ := hd (lgp G Z.sb) (by simp)
      exact Low.blk (dm_blk hx hdx)
    · exact low_dk (hd (dk Z) (by simp))
    · obtain ⟨x, hx, hdx⟩ := hd (ex h0) (by simp)
      have e : x = h0 := hx
      subst e
      exact Low.ex hdx
  clear hd
  refine r_nilow 5 1 ?_
  repeat' ((fail_if_success with_reducible refine nph ?_); first | (with_reducible first | (refine d_seq ?_; intro K hK) | (refine hK _ _ ?_; clear hK K) | refine d_blk ?_ | refine d_rt0 ?_ | refine d_sk0 ?_ | refine d_ex0 ?_ | (refine r_nwc ?_; intro b)) | (first | ((with_reducible refine d_cnd ?_); refine And.intro ?_ ?_) | with_reducible refine r_cnd ?_ ?_) <;> intro hc <;> try simp only [push_cast, Int.reduceEq, Int.reduceLT, Int.reduceLE, Int.reduceNe] at hc | with_reducible refine r_rq (by first | decide | omega) ?_ | ((with_reducible first | apply i_lds | apply i_ldsq | apply i_ld | apply i_ldq); exact rfl) | ((with_reducible first | apply i_ldn | apply i_ldnq); exact rfl; exact rfl; exact rfl) | (with_reducible first | refine r_ph0 ?_ | apply i_kp0) | ((with_reducible first | apply i_st | apply i_stl); (focus simp); exact rfl) | ((try with_reducible refine d_reg ?_); simp only [go_sem, Nat.reduceAdd, Nat.reduceEqDiff, Int.reduceToNat, Nat.reduceMul, Nat.reduceSub]) | clear hK K)
  cases hu : Z.up
  · have F : Fp (eT2 eS eI) Tryz.prog 22 #[.pointer (some ⟨Z.sb, 0, none⟩), .int .i64 (G.base : Int)] [dk Z] ([], 9) := by
      have := F31 Z h (G.base : Int)
      have e : Z.chk (G.base : Int) = 9 := by unfold Dk.chk; rw [hu, if_pos rfl]
      rw [e, if_neg (by decide : ¬ (9 : Int) = 0)] at this
      exact this
    refine d_lp [0, 4, 5, 15, 16] (fun _ : Unit => [(0, .pointer (some ⟨G.q, 0, none⟩)), (4, .pointer (some ⟨b, 0, none⟩)), (5, .int .i64 1), (15, .int .i64 (G.sectors : Int)), (16, .int .i64 0)])
      (fun _ => [ow 5 1 (none, 0, 0) [], ar b 144 [.pointer none, .slice none 0 0], lgp G Z.sb, dk Z, ex h0]) (fun _ => True) (fun _ => 0) () rfl SX.p trivial ?_
    intro _ _
    repeat' ((fail_if_success with_reducible refine nph ?_); first | (with_reducible first | (refine d_seq ?_; intro K hK) | (refine hK _ _ ?_; clear hK K) | refine d_blk ?_ | refine d_rt0 ?_ | refine d_sk0 ?_ | refine d_ex0 ?_ | (refine r_nwc ?_; intro b)) | (first | ((with_reducible refine d_cnd ?_); refine And.intro ?_ ?_) | with_reducible refine r_cnd ?_ ?_) <;> intro hc <;> try simp only [push_cast, Int.reduceEq, Int.reduceLT, Int.reduceLE, Int.reduceNe] at hc | with_reducible refine r_rq (by first | decide | omega) ?_ | ((with_reducible first | apply i_lds | apply i_ldsq | apply i_ld | apply i_ldq); exact rfl) | ((with_reducible first | apply i_ldn | apply i_ldnq); exact rfl; exact rfl; exact rfl) | (with_reducible first | refine r_ph0 ?_ | apply i_kp0) | ((with_reducible first | apply i_st | apply i_stl); (focus simp); exact rfl) | ((try with_reducible refine d_reg ?_); simp only [go_sem, Nat.reduceAdd, Nat.reduceEqDiff, Int.reduceToNat, Nat.reduceMul, Nat.reduceSub]) | clear hK K)
    all_goals try (exfalso; omega)
    refine r_ph [lgp G Z.sb] SX.p ?_
    have e3 : IntKind.wrap .i64 ((G.base : Int) + 0) = (G.base : Int) := by rw [w64 (by omega) (by omega)]; omega
    repeat' ((fail_if_success with_reducible refine nph ?_); first | (with_reducible first | (refine d_seq ?_; intro K hK) | (refine hK _ _ ?_; clear hK K) | refine d_blk ?_ | refine d_rt0 ?_ | refine d_sk0 ?_ | refine d_ex0 ?_ | (refine r_nwc ?_; intro b)) | (first | ((with_reducible refine d_cnd ?_); refine And.intro ?_ ?_) | with_reducible refine r_cnd ?_ ?_) <;> intro hc <;> try simp only [push_cast, Int.reduceEq, Int.reduceLT, Int.reduceLE, Int.reduceNe] at hc | with_reducible refine r_rq (by first | decide | omega) ?_ | ((with_reducible first | apply i_lds | apply i_ldsq | apply i_ld | apply i_ldq); exact rfl) | ((with_reducible first | apply i_ldn | apply i_ldnq); exact rfl; exact rfl; exact rfl) | (with_reducible first | refine r_ph0 ?_ | apply i_kp0) | ((with_reducible first | apply i_st | apply i_stl); (focus simp); exact rfl) | ((try with_reducible refine d_reg ?_); simp only [go_sem, Nat.reduceAdd, Nat.reduceEqDiff, Int.reduceToNat, Nat.reduceMul, Nat.reduceSub]) | clear hK K)
    rw [e3]
    refine i_clp F ?_
    repeat' ((fail_if_success with_reducible refine nph ?_); first | (with_reducible first | (refine d_seq ?_; intro K hK) | (refine hK _ _ ?_; clear hK K) | refine d_blk ?_ | refine d_rt0 ?_ | refine d_sk0 ?_ | refine d_ex0 ?_ | (refine r_nwc ?_; intro b)) | (first | ((with_reducible refine d_cnd ?_); refine And.intro ?_ ?_) | with_reducible refine r_cnd ?_ ?_) <;> intro hc <;> try simp only [push_cast, Int.reduceEq, Int.reduceLT, Int.reduceLE, Int.reduceNe] at hc | with_reducible refine r_rq (by first | decide | omega) ?_ | ((with_reducible first | apply i_lds | apply i_ldsq | apply i_ld | apply i_ldq); exact rfl) | ((with_reducible first | apply i_ldn | apply i_ldnq); exact rfl; exact rfl; exact rfl) | (with_reducible first | refine r_ph0 ?_ | apply i_kp0) | ((with_reducible first | apply i_st | apply i_stl); (focus simp); exact rfl) | ((try with_reducible refine d_reg ?_); simp only [go_sem, Nat.reduceAdd, Nat.reduceEqDiff, Int.reduceToNat, Nat.reduceMul, Nat.reduceSub]) | clear hK K)
    all_goals try (first | contradiction | (simp only [ reduceCtorEq] at *; done) | (exfalso; omega))
    (with_reducible first | apply i_ret0 | apply i_ret2 | apply i_ret3 | apply i_ret); exact rfl
    simp [hu]
  · generalize hB : Z.scn G.base G.run G.sectors 0 1 = B
    refine d_lp [0, 4, 5, 15, 16] (fun t : Nat × Nat × List UInt8 × Option Addr × SlV => [(0, .pointer (some ⟨G.q, 0, none⟩)), (4, .pointer (some ⟨b, 0, none⟩)), (5, .int .i64 (t.2.1 : Int)), (15, .int .i64 (G.sectors : Int)), (16, .int .i64 (t.1 : Int))])
      (fun t => bld b 144 5 t.2.2.2.1 t.2.2.2.2 (cb t.2.2.1) ++ [lgp G Z.sb, dk Z, ex h0])
      (fun t => t.1 ≤ G.sectors ∧ t.2.2.1 ++ Z.scn G.base G.run (G.sectors - t.1) t.1 t.2.1 = B ∧ (t.2.2.2.1 = none ∨ t.2.2.2.1 = some ⟨b, 0, none⟩) ∧ (∀ g, t.2.2.2.2.1 = some g → b < g.block) ∧ t.2.2.1.length ≤ 58 * t.1) (fun t => G.sectors - t.1)
      (0, 1, [], none, (none, 0, 0)) rfl ?_ ⟨by dsimp only; omega, by dsimp only; rw [List.nil_append]; exact hB, .inl rfl, ⟨fun g hg => (by cases hg), (by simp)⟩⟩ ?_
    · show Sub ([ar b 144 [.pointer none, .slice none 0 0], ow 5 1 (none, 0, 0) []] ++ [lgp G Z.sb, dk Z, ex h0]) _
      exact SX.p
    rintro ⟨i, r, t, p, ⟨sp, sn, sc⟩⟩ ⟨hi, hb, hp, hs, ht⟩
    dsimp only at hi hb hp hs ht ⊢
    repeat' ((fail_if_success with_reducible refine nph ?_); first | (with_reducible first | (refine d_seq ?_; intro K hK) | (refine hK _ _ ?_; clear hK K) | refine d_blk ?_ | refine d_rt0 ?_ | refine d_sk0 ?_ | refine d_ex0 ?_ | (refine r_nwc ?_; intro b)) | (first | ((with_reducible refine d_cnd ?_); refine And.intro ?_ ?_) | with_reducible refine r_cnd ?_ ?_) <;> intro hc <;> try simp only [push_cast, Int.reduceEq, Int.reduceLT, Int.reduceLE, Int.reduceNe] at hc | with_reducible refine r_rq (by first | decide | omega) ?_ | ((with_reducible first | apply i_lds | apply i_ldsq | apply i_ld | apply i_ldq); exact rfl) | ((with_reducible first | apply i_ldn | apply i_ldnq); exact rfl; exact rfl; exact rfl) | (with_reducible first | refine r_ph0 ?_ | apply i_kp0) | ((with_reducible first | apply i_st | apply i_stl); (focus simp); exact rfl) | ((try with_reducible refine d_reg ?_); simp only [go_sem, Nat.reduceAdd, Nat.reduceEqDiff, Int.reduceToNat, Nat.reduceMul, Nat.reduceSub]) | clear hK K)
    · have hch : Z.chk ((G.base + i : Nat) : Int) = 0 := by unfold Dk.chk; rw [hu, if_neg (by simp), if_neg (by omega)]
      have F := F31 Z h ((G.base + i : Nat) : Int)
      rw [hch, if_pos rfl] at F
      simp only [Dk.p] at F
      have hl := Dk.get_len h hch
      have e3 : IntKind.wrap .i64 ((G.base : Int) + (i : Int)) = ((G.base + i : Nat) : Int) := by rw [w64 (by omega) (by omega)]; omega
      obtain ⟨k, hk⟩ : ∃ k, G.sectors - i = k + 1 := ⟨G.sectors - i - 1, by omega⟩
      rw [hk] at hb
      unfold Dk.scn at hb
      generalize Z.get ((G.base + i : Nat) : Int) = v at *
      refine r_ph [lgp G Z.sb] SX.p ?_
      repeat' ((fail_if_success with_reducible refine nph ?_); first | (with_reducible first | (refine d_seq ?_; intro K hK) | (refine hK _ _ ?_; clear hK K) | refine d_blk ?_ | refine d_rt0 ?_ | refine d_sk0 ?_ | refine d_ex0 ?_ | (refine r_nwc ?_; intro b)) | (first | ((with_reducible refine d_cnd ?_); refine And.intro ?_ ?_) | with_reducible refine r_cnd ?_ ?_) <;> intro hc <;> try simp only [push_cast, Int.reduceEq, Int.reduceLT, Int.reduceLE, Int.reduceNe] at hc | with_reducible refine r_rq (by first | decide | omega) ?_ | ((with_reducible first | apply i_lds | apply i_ldsq | apply i_ld | apply i_ldq); exact rfl) | ((with_reducible first | apply i_ldn | apply i_ldnq); exact rfl; exact rfl; exact rfl) | (with_reducible first | refine r_ph0 ?_ | apply i_kp0) | ((with_reducible first | apply i_st | apply i_stl); (focus simp); exact rfl) | ((try with_reducible refine d_reg ?_); simp only [go_sem, Nat.reduceAdd, Nat.reduceEqDiff, Int.reduceToNat, Nat.reduceMul, Nat.reduceSub]) | clear hK K)
      rw [e3]
      refine i_clp F ?_
      repeat' ((fail_if_success with_reducible refine nph ?_); first | (with_reducible first | (refine d_seq ?_; intro K hK) | (refine hK _ _ ?_; clear hK K) | refine d_blk ?_ | refine d_rt0 ?_ | refine d_sk0 ?_ | refine d_ex0 ?_ | (refine r_nwc ?_; intro b)) | (first | ((with_reducible refine d_cnd ?_); refine And.intro ?_ ?_) | with_reducible refine r_cnd ?_ ?_) <;> intro hc <;> try simp only [push_cast, Int.reduceEq, Int.reduceLT, Int.reduceLE, Int.reduceNe] at hc | with_reducible refine r_rq (by first | decide | omega) ?_ | ((with_reducible first | apply i_lds | apply i_ldsq | apply i_ld | apply i_ldq); exact rfl) | ((with_reducible first | apply i_ldn | apply i_ldnq); exact rfl; exact rfl; exact rfl) | (with_reducible first | refine r_ph0 ?_ | apply i_kp0) | ((with_reducible first | apply i_st | apply i_stl); (focus simp); exact rfl) | ((try with_reducible refine d_reg ?_); simp only [go_sem, Nat.reduceAdd, Nat.reduceEqDiff, Int.reduceToNat, Nat.reduceMul, Nat.reduceSub]) | clear hK K)
      all_goals try (first | contradiction | (simp only [ reduceCtorEq] at *; done) | (exfalso; omega))
      refine i_cal (f72 v) ?_
      rintro y X ⟨rb, rfl, rfl⟩
      repeat' ((fail_if_success with_reducible refine nph ?_); first | (with_reducible first | (refine d_seq ?_; intro K hK) | (refine hK _ _ ?_; clear hK K) | refine d_blk ?_ | refine d_rt0 ?_ | refine d_sk0 ?_ | refine d_ex0 ?_ | (refine r_nwc ?_; intro b)) | (first | ((with_reducible refine d_cnd ?_); refine And.intro ?_ ?_) | with_reducible refine r_cnd ?_ ?_) <;> intro hc <;> try simp only [push_cast, Int.reduceEq, Int.reduceLT, Int.reduceLE, Int.reduceNe] at hc | with_reducible refine r_rq (by first | decide | omega) ?_ | ((with_reducible first | apply i_lds | apply i_ldsq | apply i_ld | apply i_ldq); exact rfl) | ((with_reducible first | apply i_ldn | apply i_ldnq); exact rfl; exact rfl; exact rfl) | (with_reducible first | refine r_ph0 ?_ | apply i_kp0) | ((with_reducible first | apply i_st | apply i_stl); (focus simp); exact rfl) | ((try with_reducible refine d_reg ?_); simp only [go_sem, Nat.reduceAdd, Nat.reduceEqDiff, Int.reduceToNat, Nat.reduceMul, Nat.reduceSub]) | clear hK K)
      refine i_clq (num_go rb v 0 4 (by omega) (by decide) (by decide) (by omega)) ?_
      rw [List.drop_zero]
      refine i_clq (num_go rb v 4 2 (by omega) (by decide) (by decide) (by omega)) ?_
      generalize be (v.take 4) = at' at *
      generalize be ((v.drop 4).take 2) = n at *
      by_cases hbad : at' < r ∨ G.run < at' ∨ 58 < n
      · rw [if_pos hbad, List.append_nil] at hb
        subst hb
        repeat' ((fail_if_success with_reducible refine nph ?_); first | (with_reducible first | (refine d_seq ?_; intro K hK) | (refine hK _ _ ?_; clear hK K) | refine d_blk ?_ | refine d_rt0 ?_ | refine d_sk0 ?_ | refine d_ex0 ?_ | (refine r_nwc ?_; intro b)) | (first | ((with_reducible refine d_cnd ?_); refine And.intro ?_ ?_) | with_reducible refine r_cnd ?_ ?_) <;> intro hc <;> try simp only [push_cast, Int.reduceEq, Int.reduceLT, Int.reduceLE, Int.reduceNe] at hc | with_reducible refine r_rq (by first | decide | omega) ?_ | ((with_reducible first | apply i_lds | apply i_ldsq | apply i_ld | apply i_ldq); exact rfl) | ((with_reducible first | apply i_ldn | apply i_ldnq); exact rfl; exact rfl; exact rfl) | (with_reducible first | refine r_ph0 ?_ | apply i_kp0) | ((with_reducible first | apply i_st | apply i_stl); (focus simp); exact rfl) | ((try with_reducible refine d_reg ?_); simp only [go_sem, Nat.reduceAdd, Nat.reduceEqDiff, Int.reduceToNat, Nat.reduceMul, Nat.reduceSub]) | clear hK K)
        all_goals try (exfalso; omega)
        all_goals
          refine E.sub (L' := bld b 144 5 p (sp, sn, sc) (cb t) ++ [lgp G Z.sb, dk Z, ex h0]) SX.p ?_
          refine r_bs' hL hp hs ?_
          repeat' ((fail_if_success with_reducible refine nph ?_); first | (with_reducible first | (refine d_seq ?_; intro K hK) | (refine hK _ _ ?_; clear hK K) | refine d_blk ?_ | refine d_rt0 ?_ | refine d_sk0 ?_ | refine d_ex0 ?_ | (refine r_nwc ?_; intro b)) | (first | ((with_reducible refine d_cnd ?_); refine And.intro ?_ ?_) | with_reducible refine r_cnd ?_ ?_) <;> intro hc <;> try simp only [push_cast, Int.reduceEq, Int.reduceLT, Int.reduceLE, Int.reduceNe] at hc | with_reducible refine r_rq (by first | decide | omega) ?_ | ((with_reducible first | apply i_lds | apply i_ldsq | apply i_ld | apply i_ldq); exact rfl) | ((with_reducible first | apply i_ldn | apply i_ldnq); exact rfl; exact rfl; exact rfl) | (with_reducible first | refine r_ph0 ?_ | apply i_kp0) | ((with_reducible first | apply i_st | apply i_stl); (focus simp); exact rfl) | ((try with_reducible refine d_reg ?_); simp only [go_sem, Nat.reduceAdd, Nat.reduceEqDiff, Int.reduceToNat, Nat.reduceMul, Nat.reduceSub]) | clear hK K)
          (with_reducible first | apply i_ret0 | apply i_ret2 | apply i_ret3 | apply i_ret); exact rfl
          rw [if_pos hu, hB]
      · rw [if_neg hbad] at hb
        have R := f90 ⟨rb, v, 6, 0⟩ (n : Int) (by dsimp only; omega) (by dsimp only; omega)
        rw [raw_go rb v 6 n (by omega)] at R
        have hul : ((v.drop 6).take n).length = n := by rw [List.length_take, List.length_drop]; omega
        generalize (v.drop 6).take n = u at *
        repeat' ((fail_if_success with_reducible refine nph ?_); first | (with_reducible first | (refine d_seq ?_; intro K hK) | (refine hK _ _ ?_; clear hK K) | refine d_blk ?_ | refine d_rt0 ?_ | refine d_sk0 ?_ | refine d_ex0 ?_ | (refine r_nwc ?_; intro b)) | (first | ((with_reducible refine d_cnd ?_); refine And.intro ?_ ?_) | with_reducible refine r_cnd ?_ ?_) <;> intro hc <;> try simp only [push_cast, Int.reduceEq, Int.reduceLT, Int.reduceLE, Int.reduceNe] at hc | with_reducible refine r_rq (by first | decide | omega) ?_ | ((with_reducible first | apply i_lds | apply i_ldsq | apply i_ld | apply i_ldq); exact rfl) | ((with_reducible first | apply i_ldn | apply i_ldnq); exact rfl; exact rfl; exact rfl) | (with_reducible first | refine r_ph0 ?_ | apply i_kp0) | ((with_reducible first | apply i_st | apply i_stl); (focus simp); exact rfl) | ((try with_reducible refine d_reg ?_); simp only [go_sem, Nat.reduceAdd, Nat.reduceEqDiff, Int.reduceToNat, Nat.reduceMul, Nat.reduceSub]) | clear hK K)
        all_goals try (exfalso; omega)
        refine i_clq R ?_
        refine E.sub (L' := bld b 144 5 p (sp, sn, sc) (cb t) ++ [lgp G Z.sb, dk Z, ex h0]) SX.p ?_
        refine r_ws (t := u) hL hp hs (by omega) fun s' hs' => ?_
        by_cases h58 : n < 58
        · rw [if_pos h58, List.append_nil] at hb
          subst hb
          repeat' ((fail_if_success with_reducible refine nph ?_); first | (with_reducible first | (refine d_seq ?_; intro K hK) | (refine hK _ _ ?_; clear hK K) | refine d_blk ?_ | refine d_rt0 ?_ | refine d_sk0 ?_ | refine d_ex0 ?_ | (refine r_nwc ?_; intro b)) | (first | ((with_reducible refine d_cnd ?_); refine And.intro ?_ ?_) | with_reducible refine r_cnd ?_ ?_) <;> intro hc <;> try simp only [push_cast, Int.reduceEq, Int.reduceLT, Int.reduceLE, Int.reduceNe] at hc | with_reducible refine r_rq (by first | decide | omega) ?_ | ((with_reducible first | apply i_lds | apply i_ldsq | apply i_ld | apply i_ldq); exact rfl) | ((with_reducible first | apply i_ldn | apply i_ldnq); exact rfl; exact rfl; exact rfl) | (with_reducible first | refine r_ph0 ?_ | apply i_kp0) | ((with_reducible first | apply i_st | apply i_stl); (focus simp); exact rfl) | ((try with_reducible refine d_reg ?_); simp only [go_sem, Nat.reduceAdd, Nat.reduceEqDiff, Int.reduceToNat, Nat.reduceMul, Nat.reduceSub]) | clear hK K)
          all_goals try (exfalso; omega)
          refine E.sub (L' := bld b 144 5 (some ⟨b, 0, none⟩) s' (cb (t ++ u)) ++ [lgp G Z.sb, dk Z, ex h0]) SX.p ?_
          refine r_bs' hL (.inr rfl) hs' ?_
          repeat' ((fail_if_success with_reducible refine nph ?_); first | (with_reducible first | (refine d_seq ?_; intro K hK) | (refine hK _ _ ?_; clear hK K) | refine d_blk ?_ | refine d_rt0 ?_ | refine d_sk0 ?_ | refine d_ex0 ?_ | (refine r_nwc ?_; intro b)) | (first | ((with_reducible refine d_cnd ?_); refine And.intro ?_ ?_) | with_reducible refine r_cnd ?_ ?_) <;> intro hc <;> try simp only [push_cast, Int.reduceEq, Int.reduceLT, Int.reduceLE, Int.reduceNe] at hc | with_reducible refine r_rq (by first | decide | omega) ?_ | ((with_reducible first | apply i_lds | apply i_ldsq | apply i_ld | apply i_ldq); exact rfl) | ((with_reducible first | apply i_ldn | apply i_ldnq); exact rfl; exact rfl; exact rfl) | (with_reducible first | refine r_ph0 ?_ | apply i_kp0) | ((with_reducible first | apply i_st | apply i_stl); (focus simp); exact rfl) | ((try with_reducible refine d_reg ?_); simp only [go_sem, Nat.reduceAdd, Nat.reduceEqDiff, Int.reduceToNat, Nat.reduceMul, Nat.reduceSub]) | clear hK K)
          (with_reducible first | apply i_ret0 | apply i_ret2 | apply i_ret3 | apply i_ret); exact rfl
          rw [if_pos hu, hB]
        · rw [if_neg h58] at hb
          repeat' ((fail_if_success with_reducible refine nph ?_); first | (with_reducible first | (refine d_seq ?_; intro K hK) | (refine hK _ _ ?_; clear hK K) | refine d_blk ?_ | refine d_rt0 ?_ | refine d_sk0 ?_ | refine d_ex0 ?_ | (refine r_nwc ?_; intro b)) | (first | ((with_reducible refine d_cnd ?_); refine And.intro ?_ ?_) | with_reducible refine r_cnd ?_ ?_) <;> intro hc <;> try simp only [push_cast, Int.reduceEq, Int.reduceLT, Int.reduceLE, Int.reduceNe] at hc | with_reducible refine r_rq (by first | decide | omega) ?_ | ((with_reducible first | apply i_lds | apply i_ldsq | apply i_ld | apply i_ldq); exact rfl) | ((with_reducible first | apply i_ldn | apply i_ldnq); exact rfl; exact rfl; exact rfl) | (with_reducible first | refine r_ph0 ?_ | apply i_kp0) | ((with_reducible first | apply i_st | apply i_stl); (focus simp); exact rfl) | ((try with_reducible refine d_reg ?_); simp only [go_sem, Nat.reduceAdd, Nat.reduceEqDiff, Int.reduceToNat, Nat.reduceMul, Nat.reduceSub]) | clear hK K)
          all_goals try (exfalso; omega)
          rw [w64 (by omega) (by omega)]
          exact i_bk (i + 1, at', t ++ u, some ⟨b, 0, none⟩, s') rfl ⟨by dsimp only; omega, by dsimp only; rw [show G.sectors - (i + 1) = k by omega, List.append_assoc]; exact hb, .inr rfl, hs', by dsimp only; rw [List.length_append]; omega⟩ (by dsimp only; omega)
    · obtain rfl : i = G.sectors := by omega
      rw [Nat.sub_self, show Z.scn G.base G.run 0 G.sectors r = [] from rfl, List.append_nil] at hb
      subst hb
      refine E.sub (L' := bld b 144 5 p (sp, sn, sc) (cb t) ++ [lgp G Z.sb, dk Z, ex h0]) SX.p ?_
      refine r_bs' hL hp hs ?_
      repeat' ((fail_if_success with_reducible refine nph ?_); first | (with_reducible first | (refine d_seq ?_; intro K hK) | (refine hK _ _ ?_; clear hK K) | refine d_blk ?_ | refine d_rt0 ?_ | refine d_sk0 ?_ | refine d_ex0 ?_ | (refine r_nwc ?_; intro b)) | (first | ((with_reducible refine d_cnd ?_); refine And.intro ?_ ?_) | with_reducible refine r_cnd ?_ ?_) <;> intro hc <;> try simp only [push_cast, Int.reduceEq, Int.reduceLT, Int.reduceLE, Int.reduceNe] at hc | with_reducible refine r_rq (by first | decide | omega) ?_ | ((with_reducible first | apply i_lds | apply i_ldsq | apply i_ld | apply i_ldq); exact rfl) | ((with_reducible first | apply i_ldn | apply i_ldnq); exact rfl; exact rfl; exact rfl) | (with_reducible first | refine r_ph0 ?_ | apply i_kp0) | ((with_reducible first | apply i_st | apply i_stl); (focus simp); exact rfl) | ((try with_reducible refine d_reg ?_); simp only [go_sem, Nat.reduceAdd, Nat.reduceEqDiff, Int.reduceToNat, Nat.reduceMul, Nat.reduceSub]) | clear hK K)
      (with_reducible first | apply i_ret0 | apply i_ret2 | apply i_ret3 | apply i_ret); exact rfl
      rw [if_pos hu, hB]
end Go.Sp
/- The log: mend, Flush, Need. -/
namespace Go.Sp
open Go Go.Proofs
set_option linter.unusedSimpArgs false
set_option linter.unusedVariables false
set_option maxRecDepth 10000
abbrev Lr := Int × Dk × Lg
def Dk.lmend (Z : Dk) (G : Lg) : Lr :=
  if (Z.lw G (G.durable / 58)).1 = 0 then ((Z.lw G (G.durable / 58)).2.sync.1, (Z.lw G (G.durable / 58)).2.sync.2, G.down (Z.lw G (G.durable / 58)).2.sync.1)
  else ((Z.lw G (G.durable / 58)).1, (Z.lw G (G.durable / 58)).2, G.down (Z.lw G (G.durable / 58)).1)
theorem down_0 (G : Lg) : G.down 0 = G := if_pos rfl
theorem g70 (G : Lg) (Z : Dk) (h : Z.ok) (hG : G.ok Z.sure.length) : Fq eI Tryz.prog 70 #[G.p] [lgp G Z.sb, dk Z] [lgp (Z.lmend G).2.2 Z.sb, dk (Z.lmend G).2.1] (Z.lmend G).1 := fun L => by
  have hdu := hG.du
  have hle := hG.le
  have hfit := hG.fit
  have hn1 := hG.n1
  have F := g77 G Z h hG (G.durable / 58) (by omega)
  obtain ⟨o1, o2, o3⟩ := Dk.lw_ok h G (G.durable / 58)
  have S := F28 _ o1
  simp only [Dk.p, o2] at S
  have e1 : IntKind.wrap .i64 ((G.durable : Int).tdiv 58) = ((G.durable / 58 : Nat) : Int) := by rw [td (by omega), w64 (by omega) (by omega)]; omega
  unfold Dk.lmend
  generalize Z.lw G (G.durable / 58) = T at *
  obtain ⟨e, Y⟩ := T
  dsimp only at F S ⊢
  refine c70_fn rfl rfl ?_
  by_cases he : e = 0
  · subst he
    rw [if_pos rfl]
    repeat' ((fail_if_success with_reducible refine nph ?_); first | (with_reducible first | (refine d_seq ?_; intro K hK) | (refine hK _ _ ?_; clear hK K) | refine d_blk ?_ | refine d_rt0 ?_ | refine d_sk0 ?_ | refine d_ex0 ?_ | (refine r_nwc ?_; intro b)) | (first | ((with_reducible refine d_cnd ?_); refine And.intro ?_ ?_) | with_reducible refine r_cnd ?_ ?_) <;> intro hc <;> try simp only [push_cast, Int.reduceEq, Int.reduceLT, Int.reduceLE, Int.reduceNe] at hc | with_reducible refine r_rq (by first | decide | omega) ?_ | ((with_reducible first | apply i_lds | apply i_ldsq | apply i_ld | apply i_ldq); exact rfl) | ((with_reducible first | apply i_ldn | apply i_ldnq); exact rfl; exact rfl; exact rfl) | (with_reducible first | refine r_ph0 ?_ | apply i_kp0) | ((with_reducible first | apply i_st | apply i_stl); (focus simp); exact rfl) | ((try with_reducible refine d_reg ?_); simp only [go_sem, Nat.reduceAdd, Nat.reduceEqDiff, Int.reduceToNat, Nat.reduceMul, Nat.reduceSub]) | clear hK K)
    rw [e1]
    refine i_clq F ?_
    repeat' ((fail_if_success with_reducible refine nph ?_); first | (with_reducible first | (refine d_seq ?_; intro K hK) | (refine hK _ _ ?_; clear hK K) | refine d_blk ?_ | refine d_rt0 ?_ | refine d_sk0 ?_ | refine d_ex0 ?_ | (refine r_nwc ?_; intro b)) | (first | ((with_reducible refine d_cnd ?_); refine And.intro ?_ ?_) | with_reducible refine r_cnd ?_ ?_) <;> intro hc <;> try simp only [push_cast, Int.reduceEq, Int.reduceLT, Int.reduceLE, Int.reduceNe] at hc | with_reducible refine r_rq (by first | decide | omega) ?_ | ((with_reducible first | apply i_lds | apply i_ldsq | apply i_ld | apply i_ldq); exact rfl) | ((with_reducible first | apply i_ldn | apply i_ldnq); exact rfl; exact rfl; exact rfl) | (with_reducible first | refine r_ph0 ?_ | apply i_kp0) | ((with_reducible first | apply i_st | apply i_stl); (focus simp); exact rfl) | ((try with_reducible refine d_reg ?_); simp only [go_sem, Nat.reduceAdd, Nat.reduceEqDiff, Int.reduceToNat, Nat.reduceMul, Nat.reduceSub]) | clear hK K)
    all_goals try (first | contradiction | (simp only [ reduceCtorEq] at *; done) | (exfalso; omega))
    refine i_clq S ?_
    refine i_clq (g78 G Z.sb _) ?_
    repeat' ((fail_if_success with_reducible refine nph ?_); first | (with_reducible first | (refine d_seq ?_; intro K hK) | (refine hK _ _ ?_; clear hK K) | refine d_blk ?_ | refine d_rt0 ?_ | refine d_sk0 ?_ | refine d_ex0 ?_ | (refine r_nwc ?_; intro b)) | (first | ((with_reducible refine d_cnd ?_); refine And.intro ?_ ?_) | with_reducible refine r_cnd ?_ ?_) <;> intro hc <;> try simp only [push_cast, Int.reduceEq, Int.reduceLT, Int.reduceLE, Int.reduceNe] at hc | with_reducible refine r_rq (by first | decide | omega) ?_ | ((with_reducible first | apply i_lds | apply i_ldsq | apply i_ld | apply i_ldq); exact rfl) | ((with_reducible first | apply i_ldn | apply i_ldnq); exact rfl; exact rfl; exact rfl) | (with_reducible first | refine r_ph0 ?_ | apply i_kp0) | ((with_reducible first | apply i_st | apply i_stl); (focus simp); exact rfl) | ((try with_reducible refine d_reg ?_); simp only [go_sem, Nat.reduceAdd, Nat.reduceEqDiff, Int.reduceToNat, Nat.reduceMul, Nat.reduceSub]) | clear hK K)
    (with_reducible first | apply i_ret0 | apply i_ret2 | apply i_ret3 | apply i_ret); exact rfl
    rfl
  · rw [if_neg he]
    repeat' ((fail_if_success with_reducible refine nph ?_); first | (with_reducible first | (refine d_seq ?_; intro K hK) | (refine hK _ _ ?_; clear hK K) | refine d_blk ?_ | refine d_rt0 ?_ | refine d_sk0 ?_ | refine d_ex0 ?_ | (refine r_nwc ?_; intro b)) | (first | ((with_reducible refine d_cnd ?_); refine And.intro ?_ ?_) | with_reducible refine r_cnd ?_ ?_) <;> intro hc <;> try simp only [push_cast, Int.reduceEq, Int.reduceLT, Int.reduceLE, Int.reduceNe] at hc | with_reducible refine r_rq (by first | decide | omega) ?_ | ((with_reducible first | apply i_lds | apply i_ldsq | apply i_ld | apply i_ldq); exact rfl) | ((with_reducible first | apply i_ldn | apply i_ldnq); exact rfl; exact rfl; exact rfl) | (with_reducible first | refine r_ph0 ?_ | apply i_kp0) | ((with_reducible first | apply i_st | apply i_stl); (focus simp); exact rfl) | ((try with_reducible refine d_reg ?_); simp only [go_sem, Nat.reduceAdd, Nat.reduceEqDiff, Int.reduceToNat, Nat.reduceMul, Nat.reduceSub]) | clear hK K)
    rw [e1]
    refine i_clq F ?_
    repeat' ((fail_if_success with_reducible refine nph ?_); first | (with_reducible first | (refine d_seq ?_; intro K hK) | (refine hK _ _ ?_; clear hK K) | refine d_blk ?_ | refine d_rt0 ?_ | refine d_sk0 ?_ | refine d_ex0 ?_ | (refine r_nwc ?_; intro b)) | (first | ((with_reducible refine d_cnd ?_); refine And.intro ?_ ?_) | with_reducible refine r_cnd ?_ ?_) <;> intro hc <;> try simp only [push_cast, Int.reduceEq, Int.reduceLT, Int.reduceLE, Int.reduceNe] at hc | with_reducible refine r_rq (by first | decide | omega) ?_ | ((with_reducible first | apply i_lds | apply i_ldsq | apply i_ld | apply i_ldq); exact rfl) | ((with_reducible first | apply i_ldn | apply i_ldnq); exact rfl; exact rfl; exact rfl) | (with_reducible first | refine r_ph0 ?_ | apply i_kp0) | ((with_reducible first | apply i_st | apply i_stl); (focus simp); exact rfl) | ((try with_reducible refine d_reg ?_); simp only [go_sem, Nat.reduceAdd, Nat.reduceEqDiff, Int.reduceToNat, Nat.reduceMul, Nat.reduceSub]) | clear hK K)
    all_goals try (first | contradiction | (simp only [ reduceCtorEq] at *; done) | (exfalso; omega))
    refine i_clq (g78 G Z.sb _) ?_
    repeat' ((fail_if_success with_reducible refine nph ?_); first | (with_reducible first | (refine d_seq ?_; intro K hK) | (refine hK _ _ ?_; clear hK K) | refine d_blk ?_ | refine d_rt0 ?_ | refine d_sk0 ?_ | refine d_ex0 ?_ | (refine r_nwc ?_; intro b)) | (first | ((with_reducible refine d_cnd ?_); refine And.intro ?_ ?_) | with_reducible refine r_cnd ?_ ?_) <;> intro hc <;> try simp only [push_cast, Int.reduceEq, Int.reduceLT, Int.reduceLE, Int.reduceNe] at hc | with_reducible refine r_rq (by first | decide | omega) ?_ | ((with_reducible first | apply i_lds | apply i_ldsq | apply i_ld | apply i_ldq); exact rfl) | ((with_reducible first | apply i_ldn | apply i_ldnq); exact rfl; exact rfl; exact rfl) | (with_reducible first | refine r_ph0 ?_ | apply i_kp0) | ((with_reducible first | apply i_st | apply i_stl); (focus simp); exact rfl) | ((try with_reducible refine d_reg ?_); simp only [go_sem, Nat.reduceAdd, Nat.reduceEqDiff, Int.reduceToNat, Nat.reduceMul, Nat.reduceSub]) | clear hK K)
    (with_reducible first | apply i_ret0 | apply i_ret2 | apply i_ret3 | apply i_ret); exact rfl
    rfl
/-- Sectors from one on are written, as far as there is something. -/
def lws (G : Lg) : Nat → Nat → Dk → Int × Dk
  | 0, _, Z => (0, Z)
  | k + 1, i, Z => if 58 * i < G.all.length then (if (Z.lw G i).1 = 0 then lws G k (i + 1) (Z.lw G i).2 else Z.lw G i) else (0, Z)
theorem lws_ok (G : Lg) : ∀ (k i : Nat) {Z : Dk}, Z.ok → (lws G k i Z).2.ok ∧ (lws G k i Z).2.sb = Z.sb ∧ (lws G k i Z).2.sure.length = Z.sure.length
  | 0, _, Z, h => ⟨h, rfl, rfl⟩
  | k + 1, i, Z, h => by
    obtain ⟨a1, a2, a3⟩ := Dk.lw_ok h G i
    unfold lws
    split
    · split
      · obtain ⟨b1, b2, b3⟩ := lws_ok G k (i + 1) a1
        exact ⟨b1, b2.trans a2, b3.trans a3⟩
      · exact ⟨a1, a2, a3⟩
    · exact ⟨h, rfl, rfl⟩
def Dk.lflush (Z : Dk) (G : Lg) : Lr :=
  if G.dead then (9, Z, G) else if G.durable = G.all.length then (0, Z, G) else
  (fun a : Int × Dk => if a.1 = 0 then (if a.2.sync.1 = 0 then (0, a.2.sync.2, { G with durable := G.all.length }) else (a.2.sync.1, a.2.sync.2, G.down a.2.sync.1)) else (a.1, a.2, G.down a.1)) (lws G (G.sectors + 1) (G.durable / 58) Z)
set_option maxHeartbeats 1000000 in
theorem g21 (G : Lg) (Z : Dk) (h : Z.ok) (hG : G.ok Z.sure.length) : Fq eI Tryz.prog 21 #[G.p] [lgp G Z.sb, dk Z] [lgp (Z.lflush G).2.2 Z.sb, dk (Z.lflush G).2.1] (Z.lflush G).1 := fun L => by
  have hdu := hG.du
  have hle := hG.le
  have hfit := hG.fit
  have hn1 := hG.n1
  have O := g75 G Z.sb
  unfold Lg.off at O
  unfold Dk.lflush
  refine c21_fn rfl rfl ?_
  by_cases hd : G.dead = true
  · rw [if_pos hd] at O
    rw [if_pos hd]
    repeat' ((fail_if_success with_reducible refine nph ?_); first | (with_reducible first | (refine d_seq ?_; intro K hK) | (refine hK _ _ ?_; clear hK K) | refine d_blk ?_ | refine d_rt0 ?_ | refine d_sk0 ?_ | refine d_ex0 ?_ | (refine r_nwc ?_; intro b)) | (first | ((with_reducible refine d_cnd ?_); refine And.intro ?_ ?_) | with_reducible refine r_cnd ?_ ?_) <;> intro hc <;> try simp only [push_cast, Int.reduceEq, Int.reduceLT, Int.reduceLE, Int.reduceNe] at hc | with_reducible refine r_rq (by first | decide | omega) ?_ | ((with_reducible first | apply i_lds | apply i_ldsq | apply i_ld | apply i_ldq); exact rfl) | ((with_reducible first | apply i_ldn | apply i_ldnq); exact rfl; exact rfl; exact rfl) | (with_reducible first | refine r_ph0 ?_ | apply i_kp0) | ((with_reducible first | apply i_st | apply i_stl); (focus simp); exact rfl) | ((try with_reducible refine d_reg ?_); simp only [go_sem, Nat.reduceAdd, Nat.reduceEqDiff, Int.reduceToNat, Nat.reduceMul, Nat.reduceSub]) | clear hK K)
    refine i_clp O ?_
    repeat' ((fail_if_success with_reducible refine nph ?_); first | (with_reducible first | (refine d_seq ?_; intro K hK) | (refine hK _ _ ?_; clear hK K) | refine d_blk ?_ | refine d_rt0 ?_ | refine d_sk0 ?_ | refine d_ex0 ?_ | (refine r_nwc ?_; intro b)) | (first | ((with_reducible refine d_cnd ?_); refine And.intro ?_ ?_) | with_reducible refine r_cnd ?_ ?_) <;> intro hc <;> try simp only [push_cast, Int.reduceEq, Int.reduceLT, Int.reduceLE, Int.reduceNe] at hc | with_reducible refine r_rq (by first | decide | omega) ?_ | ((with_reducible first | apply i_lds | apply i_ldsq | apply i_ld | apply i_ldq); exact rfl) | ((with_reducible first | apply i_ldn | apply i_ldnq); exact rfl; exact rfl; exact rfl) | (with_reducible first | refine r_ph0 ?_ | apply i_kp0) | ((with_reducible first | apply i_st | apply i_stl); (focus simp); exact rfl) | ((try with_reducible refine d_reg ?_); simp only [go_sem, Nat.reduceAdd, Nat.reduceEqDiff, Int.reduceToNat, Nat.reduceMul, Nat.reduceSub]) | clear hK K)
    all_goals try (first | contradiction | (simp only [ reduceCtorEq] at *; done) | (exfalso; omega))
    (with_reducible first | apply i_ret0 | apply i_ret2 | apply i_ret3 | apply i_ret); exact rfl
    rfl
  · rw [if_neg hd] at O
    rw [if_neg hd]
    by_cases hq : G.durable = G.all.length
    · rw [if_pos hq]
      repeat' ((fail_if_success with_reducible refine nph ?_); first | (with_reducible first | (refine d_seq ?_; intro K hK) | (refine hK _ _ ?_; clear hK K) | refine d_blk ?_ | refine d_rt0 ?_ | refine d_sk0 ?_ | refine d_ex0 ?_ | (refine r_nwc ?_; intro b)) | (first | ((with_reducible refine d_cnd ?_); refine And.intro ?_ ?_) | with_reducible refine r_cnd ?_ ?_) <;> intro hc <;> try simp only [push_cast, Int.reduceEq, Int.reduceLT, Int.reduceLE, Int.reduceNe] at hc | with_reducible refine r_rq (by first | decide | omega) ?_ | ((with_reducible first | apply i_lds | apply i_ldsq | apply i_ld | apply i_ldq); exact rfl) | ((with_reducible first | apply i_ldn | apply i_ldnq); exact rfl; exact rfl; exact rfl) | (with_reducible first | refine r_ph0 ?_ | apply i_kp0) | ((with_reducible first | apply i_st | apply i_stl); (focus simp); exact rfl) | ((try with_reducible refine d_reg ?_); simp only [go_sem, Nat.reduceAdd, Nat.reduceEqDiff, Int.reduceToNat, Nat.reduceMul, Nat.reduceSub]) | clear hK K)
      refine i_clp O ?_
      repeat' ((fail_if_success with_reducible refine nph ?_); first | (with_reducible first | (refine d_seq ?_; intro K hK) | (refine hK _ _ ?_; clear hK K) | refine d_blk ?_ | refine d_rt0 ?_ | refine d_sk0 ?_ | refine d_ex0 ?_ | (refine r_nwc ?_; intro b)) | (first | ((with_reducible refine d_cnd ?_); refine And.intro ?_ ?_) | with_reducible refine r_cnd ?_ ?_) <;> intro hc <;> try simp only [push_cast, Int.reduceEq, Int.reduceLT, Int.reduceLE, Int.reduceNe] at hc | with_reducible refine r_rq (by first | decide | omega) ?_ | ((with_reducible first | apply i_lds | apply i_ldsq | apply i_ld | apply i_ldq); exact rfl) | ((with_reducible first | apply i_ldn | apply i_ldnq); exact rfl; exact rfl; exact rfl) | (with_reducible first | refine r_ph0 ?_ | apply i_kp0) | ((with_reducible first | apply i_st | apply i_stl); (focus simp); exact rfl) | ((try with_reducible refine d_reg ?_); simp only [go_sem, Nat.reduceAdd, Nat.reduceEqDiff, Int.reduceToNat, Nat.reduceMul, Nat.reduceSub]) | clear hK K)
      all_goals try (first | contradiction | (simp only [ reduceCtorEq] at *; done) | (exfalso; omega))
      refine r_ph0 ?_
      repeat' ((fail_if_success with_reducible refine nph ?_); first | (with_reducible first | (refine d_seq ?_; intro K hK) | (refine hK _ _ ?_; clear hK K) | refine d_blk ?_ | refine d_rt0 ?_ | refine d_sk0 ?_ | refine d_ex0 ?_ | (refine r_nwc ?_; intro b)) | (first | ((with_reducible refine d_cnd ?_); refine And.intro ?_ ?_) | with_reducible refine r_cnd ?_ ?_) <;> intro hc <;> try simp only [push_cast, Int.reduceEq, Int.reduceLT, Int.reduceLE, Int.reduceNe] at hc | with_reducible refine r_rq (by first | decide | omega) ?_ | ((with_reducible first | apply i_lds | apply i_ldsq | apply i_ld | apply i_ldq); exact rfl) | ((with_reducible first | apply i_ldn | apply i_ldnq); exact rfl; exact rfl; exact rfl) | (with_reducible first | refine r_ph0 ?_ | apply i_kp0) | ((with_reducible first | apply i_st | apply i_stl); (focus simp); exact rfl) | ((try with_reducible refine d_reg ?_); simp only [go_sem, Nat.reduceAdd, Nat.reduceEqDiff, Int.reduceToNat, Nat.reduceMul, Nat.reduceSub]) | clear hK K)
      all_goals try (exfalso; omega)
      (with_reducible first | apply i_ret0 | apply i_ret2 | apply i_ret3 | apply i_ret); exact rfl
      rfl
    · rw [if_neg hq]
      generalize hA : lws G (G.sectors + 1) (G.durable / 58) Z = A
      dsimp only
      generalize hRes : (if A.1 = 0 then (if A.2.sync.1 = 0 then ((0 : Int), A.2.sync.2, ({ G with durable := G.all.length } : Lg)) else (A.2.sync.1, A.2.sync.2, G.down A.2.sync.1)) else (A.1, A.2, G.down A.1)) = Res
      have e1 : IntKind.wrap .i64 ((G.durable : Int).tdiv 58) = ((G.durable / 58 : Nat) : Int) := by rw [td (by omega), w64 (by omega) (by omega)]; omega
      repeat' ((fail_if_success with_reducible refine nph ?_); first | (with_reducible first | (refine d_seq ?_; intro K hK) | (refine hK _ _ ?_; clear hK K) | refine d_blk ?_ | refine d_rt0 ?_ | refine d_sk0 ?_ | refine d_ex0 ?_ | (refine r_nwc ?_; intro b)) | (first | ((with_reducible refine d_cnd ?_); refine And.intro ?_ ?_) | with_reducible refine r_cnd ?_ ?_) <;> intro hc <;> try simp only [push_cast, Int.reduceEq, Int.reduceLT, Int.reduceLE, Int.reduceNe] at hc | with_reducible refine r_rq (by first | decide | omega) ?_ | ((with_reducible first | apply i_lds | apply i_ldsq | apply i_ld | apply i_ldq); exact rfl) | ((with_reducible first | apply i_ldn | apply i_ldnq); exact rfl; exact rfl; exact rfl) | (with_reducible first | refine r_ph0 ?_ | apply i_kp0) | ((with_reducible first | apply i_st | apply i_stl); (focus simp); exact rfl) | ((try with_reducible refine d_reg ?_); simp only [go_sem, Nat.reduceAdd, Nat.reduceEqDiff, Int.reduceToNat, Nat.reduceMul, Nat.reduceSub]) | clear hK K)
      refine i_clp O ?_
      repeat' ((fail_if_success with_reducible refine nph ?_); first | (with_reducible first | (refine d_seq ?_; intro K hK) | (refine hK _ _ ?_; clear hK K) | refine d_blk ?_ | refine d_rt0 ?_ | refine d_sk0 ?_ | refine d_ex0 ?_ | (refine r_nwc ?_; intro b)) | (first | ((with_reducible refine d_cnd ?_); refine And.intro ?_ ?_) | with_reducible refine r_cnd ?_ ?_) <;> intro hc <;> try simp only [push_cast, Int.reduceEq, Int.reduceLT, Int.reduceLE, Int.reduceNe] at hc | with_reducible refine r_rq (by first | decide | omega) ?_ | ((with_reducible first | apply i_lds | apply i_ldsq | apply i_ld | apply i_ldq); exact rfl) | ((with_reducible first | apply i_ldn | apply i_ldnq); exact rfl; exact rfl; exact rfl) | (with_reducible first | refine r_ph0 ?_ | apply i_kp0) | ((with_reducible first | apply i_st | apply i_stl); (focus simp); exact rfl) | ((try with_reducible refine d_reg ?_); simp only [go_sem, Nat.reduceAdd, Nat.reduceEqDiff, Int.reduceToNat, Nat.reduceMul, Nat.reduceSub]) | clear hK K)
      all_goals try (first | contradiction | (simp only [ reduceCtorEq] at *; done) | (exfalso; omega))
      refine r_ph0 ?_
      repeat' ((fail_if_success with_reducible refine nph ?_); first | (with_reducible first | (refine d_seq ?_; intro K hK) | (refine hK _ _ ?_; clear hK K) | refine d_blk ?_ | refine d_rt0 ?_ | refine d_sk0 ?_ | refine d_ex0 ?_ | (refine r_nwc ?_; intro b)) | (first | ((with_reducible refine d_cnd ?_); refine And.intro ?_ ?_) | with_reducible refine r_cnd ?_ ?_) <;> intro hc <;> try simp only [push_cast, Int.reduceEq, Int.reduceLT, Int.reduceLE, Int.reduceNe] at hc | with_reducible refine r_rq (by first | decide | omega) ?_ | ((with_reducible first | apply i_lds | apply i_ldsq | apply i_ld | apply i_ldq); exact rfl) | ((with_reducible first | apply i_ldn | apply i_ldnq); exact rfl; exact rfl; exact rfl) | (with_reducible first | refine r_ph0 ?_ | apply i_kp0) | ((with_reducible first | apply i_st | apply i_stl); (focus simp); exact rfl) | ((try with_reducible refine d_reg ?_); simp only [go_sem, Nat.reduceAdd, Nat.reduceEqDiff, Int.reduceToNat, Nat.reduceMul, Nat.reduceSub]) | clear hK K)
      all_goals try (exfalso; omega)
      rw [e1]
      repeat' ((fail_if_success with_reducible refine nph ?_); first | (with_reducible first | (refine d_seq ?_; intro K hK) | (refine hK _ _ ?_; clear hK K) | refine d_blk ?_ | refine d_rt0 ?_ | refine d_sk0 ?_ | refine d_ex0 ?_ | (refine r_nwc ?_; intro b)) | (first | ((with_reducible refine d_cnd ?_); refine And.intro ?_ ?_) | with_reducible refine r_cnd ?_ ?_) <;> intro hc <;> try simp only [push_cast, Int.reduceEq, Int.reduceLT, Int.reduceLE, Int.reduceNe] at hc | with_reducible refine r_rq (by first | decide | omega) ?_ | ((with_reducible first | apply i_lds | apply i_ldsq | apply i_ld | apply i_ldq); exact rfl) | ((with_reducible first | apply i_ldn | apply i_ldnq); exact rfl; exact rfl; exact rfl) | (with_reducible first | refine r_ph0 ?_ | apply i_kp0) | ((with_reducible first | apply i_st | apply i_stl); (focus simp); exact rfl) | ((try with_reducible refine d_reg ?_); simp only [go_sem, Nat.reduceAdd, Nat.reduceEqDiff, Int.reduceToNat, Nat.reduceMul, Nat.reduceSub]) | clear hK K)
      refine d_lp [0, 4] (fun t : Nat × Nat × Dk => [(0, .pointer (some ⟨G.q, 0, none⟩)), (4, .int .i64 (t.2.1 : Int))])
        (fun t => lgp G Z.sb :: dk t.2.2 :: L) (fun t => t.2.2.ok ∧ t.2.2.sb = Z.sb ∧ t.2.2.sure.length = Z.sure.length ∧ lws G t.1 t.2.1 t.2.2 = A ∧ G.sectors + 1 ≤ t.1 + t.2.1 ∧ t.2.1 ≤ 8192) (fun t => t.1)
        (G.sectors + 1, G.durable / 58, Z) rfl SX.p ⟨h, rfl, rfl, hA, by dsimp only; omega, by dsimp only; omega⟩ ?_
      rintro ⟨k, i, Y⟩ ⟨y1, y2, y3, y4, y5, y6⟩
      dsimp only at y1 y2 y3 y4 y5 y6 ⊢
      have e2 : IntKind.wrap .i64 ((i : Int) * 58) = (i : Int) * 58 := w64 (by omega) (by omega)
      repeat' (first | rw [e2] | (fail_if_success with_reducible refine nph ?_); first | (with_reducible first | (refine d_seq ?_; intro K hK) | (refine hK _ _ ?_; clear hK K) | refine d_blk ?_ | refine d_rt0 ?_ | refine d_sk0 ?_ | refine d_ex0 ?_ | (refine r_nwc ?_; intro b)) | (first | ((with_reducible refine d_cnd ?_); refine And.intro ?_ ?_) | with_reducible refine r_cnd ?_ ?_) <;> intro hc <;> try simp only [push_cast, Int.reduceEq, Int.reduceLT, Int.reduceLE, Int.reduceNe] at hc | with_reducible refine r_rq (by first | decide | omega) ?_ | ((with_reducible first | apply i_lds | apply i_ldsq | apply i_ld | apply i_ldq); exact rfl) | ((with_reducible first | apply i_ldn | apply i_ldnq); exact rfl; exact rfl; exact rfl) | (with_reducible first | refine r_ph0 ?_ | apply i_kp0) | ((with_reducible first | apply i_st | apply i_stl); (focus simp); exact rfl) | ((try with_reducible refine d_reg ?_); simp only [go_sem, Nat.reduceAdd, Nat.reduceEqDiff, Int.reduceToNat, Nat.reduceMul, Nat.reduceSub]) | clear hK K)
      · obtain ⟨k', rfl⟩ : ∃ k', k = k' + 1 := ⟨k - 1, by omega⟩
        have W := g77 G Y y1 (by rw [y3]; exact hG) i y6
        rw [y2] at W
        obtain ⟨z1, z2, z3⟩ := Dk.lw_ok y1 G i
        rw [show lws G (k' + 1) i Y = if 58 * i < G.all.length then (if (Y.lw G i).1 = 0 then lws G k' (i + 1) (Y.lw G i).2 else Y.lw G i) else (0, Y) from rfl, if_pos (by omega)] at y4
        generalize Y.lw G i = T at *
        obtain ⟨e, V⟩ := T
        dsimp only at W y4 z1 z2 z3
        by_cases he : e = 0
        · subst he
          rw [if_pos rfl] at y4
          refine i_clq W ?_
          repeat' ((fail_if_success with_reducible refine nph ?_); first | (with_reducible first | (refine d_seq ?_; intro K hK) | (refine hK _ _ ?_; clear hK K) | refine d_blk ?_ | refine d_rt0 ?_ | refine d_sk0 ?_ | refine d_ex0 ?_ | (refine r_nwc ?_; intro b)) | (first | ((with_reducible refine d_cnd ?_); refine And.intro ?_ ?_) | with_reducible refine r_cnd ?_ ?_) <;> intro hc <;> try simp only [push_cast, Int.reduceEq, Int.reduceLT, Int.reduceLE, Int.reduceNe] at hc | with_reducible refine r_rq (by first | decide | omega) ?_ | ((with_reducible first | apply i_lds | apply i_ldsq | apply i_ld | apply i_ldq); exact rfl) | ((with_reducible first | apply i_ldn | apply i_ldnq); exact rfl; exact rfl; exact rfl) | (with_reducible first | refine r_ph0 ?_ | apply i_kp0) | ((with_reducible first | apply i_st | apply i_stl); (focus simp); exact rfl) | ((try with_reducible refine d_reg ?_); simp only [go_sem, Nat.reduceAdd, Nat.reduceEqDiff, Int.reduceToNat, Nat.reduceMul, Nat.reduceSub]) | clear hK K)
          all_goals try (first | contradiction | (simp only [ reduceCtorEq] at *; done) | (exfalso; omega))
          rw [w64 (by omega) (by omega)]
          exact i_bk (k', i + 1, V) rfl ⟨z1, z2.trans y2, z3.trans y3, y4, by dsimp only; omega, by dsimp only; omega⟩ (by dsimp only; omega)
        · rw [if_neg he] at y4
          subst y4
          dsimp only at hRes
          rw [if_neg he] at hRes
          subst hRes
          refine i_clq W ?_
          repeat' ((fail_if_success with_reducible refine nph ?_); first | (with_reducible first | (refine d_seq ?_; intro K hK) | (refine hK _ _ ?_; clear hK K) | refine d_blk ?_ | refine d_rt0 ?_ | refine d_sk0 ?_ | refine d_ex0 ?_ | (refine r_nwc ?_; intro b)) | (first | ((with_reducible refine d_cnd ?_); refine And.intro ?_ ?_) | with_reducible refine r_cnd ?_ ?_) <;> intro hc <;> try simp only [push_cast, Int.reduceEq, Int.reduceLT, Int.reduceLE, Int.reduceNe] at hc | with_reducible refine r_rq (by first | decide | omega) ?_ | ((with_reducible first | apply i_lds | apply i_ldsq | apply i_ld | apply i_ldq); exact rfl) | ((with_reducible first | apply i_ldn | apply i_ldnq); exact rfl; exact rfl; exact rfl) | (with_reducible first | refine r_ph0 ?_ | apply i_kp0) | ((with_reducible first | apply i_st | apply i_stl); (focus simp); exact rfl) | ((try with_reducible refine d_reg ?_); simp only [go_sem, Nat.reduceAdd, Nat.reduceEqDiff, Int.reduceToNat, Nat.reduceMul, Nat.reduceSub]) | clear hK K)
          all_goals try (first | contradiction | (simp only [ reduceCtorEq] at *; done) | (exfalso; omega))
          refine i_clq (g78 G Z.sb e) ?_
          repeat' ((fail_if_success with_reducible refine nph ?_); first | (with_reducible first | (refine d_seq ?_; intro K hK) | (refine hK _ _ ?_; clear hK K) | refine d_blk ?_ | refine d_rt0 ?_ | refine d_sk0 ?_ | refine d_ex0 ?_ | (refine r_nwc ?_; intro b)) | (first | ((with_reducible refine d_cnd ?_); refine And.intro ?_ ?_) | with_reducible refine r_cnd ?_ ?_) <;> intro hc <;> try simp only [push_cast, Int.reduceEq, Int.reduceLT, Int.reduceLE, Int.reduceNe] at hc | with_reducible refine r_rq (by first | decide | omega) ?_ | ((with_reducible first | apply i_lds | apply i_ldsq | apply i_ld | apply i_ldq); exact rfl) | ((with_reducible first | apply i_ldn | apply i_ldnq); exact rfl; exact rfl; exact rfl) | (with_reducible first | refine r_ph0 ?_ | apply i_kp0) | ((with_reducible first | apply i_st | apply i_stl); (focus simp); exact rfl) | ((try with_reducible refine d_reg ?_); simp only [go_sem, Nat.reduceAdd, Nat.reduceEqDiff, Int.reduceToNat, Nat.reduceMul, Nat.reduceSub]) | clear hK K)
          (with_reducible first | apply i_ret0 | apply i_ret2 | apply i_ret3 | apply i_ret); exact rfl
          rfl
      · have hA2 : A = (0, Y) := by
          rw [← y4]
          cases k with
          | zero => rfl
          | succ k => unfold lws; rw [if_neg (by omega)]
        subst hA2
        have S := F28 Y y1
        simp only [Dk.p, y2] at S
        dsimp only at hRes
        rw [if_pos rfl] at hRes
        generalize Y.sync = T at *
        obtain ⟨e, V⟩ := T
        dsimp only at S hRes
        by_cases he : e = 0
        · subst he
          rw [if_pos rfl] at hRes
          subst hRes
          repeat' ((fail_if_success with_reducible refine nph ?_); first | (with_reducible first | (refine d_seq ?_; intro K hK) | (refine hK _ _ ?_; clear hK K) | refine d_blk ?_ | refine d_rt0 ?_ | refine d_sk0 ?_ | refine d_ex0 ?_ | (refine r_nwc ?_; intro b)) | (first | ((with_reducible refine d_cnd ?_); refine And.intro ?_ ?_) | with_reducible refine r_cnd ?_ ?_) <;> intro hc <;> try simp only [push_cast, Int.reduceEq, Int.reduceLT, Int.reduceLE, Int.reduceNe] at hc | with_reducible refine r_rq (by first | decide | omega) ?_ | ((with_reducible first | apply i_lds | apply i_ldsq | apply i_ld | apply i_ldq); exact rfl) | ((with_reducible first | apply i_ldn | apply i_ldnq); exact rfl; exact rfl; exact rfl) | (with_reducible first | refine r_ph0 ?_ | apply i_kp0) | ((with_reducible first | apply i_st | apply i_stl); (focus simp); exact rfl) | ((try with_reducible refine d_reg ?_); simp only [go_sem, Nat.reduceAdd, Nat.reduceEqDiff, Int.reduceToNat, Nat.reduceMul, Nat.reduceSub]) | clear hK K)
          refine i_clq S ?_
          repeat' ((fail_if_success with_reducible refine nph ?_); first | (with_reducible first | (refine d_seq ?_; intro K hK) | (refine hK _ _ ?_; clear hK K) | refine d_blk ?_ | refine d_rt0 ?_ | refine d_sk0 ?_ | refine d_ex0 ?_ | (refine r_nwc ?_; intro b)) | (first | ((with_reducible refine d_cnd ?_); refine And.intro ?_ ?_) | with_reducible refine r_cnd ?_ ?_) <;> intro hc <;> try simp only [push_cast, Int.reduceEq, Int.reduceLT, Int.reduceLE, Int.reduceNe] at hc | with_reducible refine r_rq (by first | decide | omega) ?_ | ((with_reducible first | apply i_lds | apply i_ldsq | apply i_ld | apply i_ldq); exact rfl) | ((with_reducible first | apply i_ldn | apply i_ldnq); exact rfl; exact rfl; exact rfl) | (with_reducible first | refine r_ph0 ?_ | apply i_kp0) | ((with_reducible first | apply i_st | apply i_stl); (focus simp); exact rfl) | ((try with_reducible refine d_reg ?_); simp only [go_sem, Nat.reduceAdd, Nat.reduceEqDiff, Int.reduceToNat, Nat.reduceMul, Nat.reduceSub]) | clear hK K)
          all_goals try (first | contradiction | (simp only [ reduceCtorEq] at *; done) | (exfalso; omega))
          (with_reducible first | apply i_ret0 | apply i_ret2 | apply i_ret3 | apply i_ret); exact rfl
          rfl
        · rw [if_neg he] at hRes
          subst hRes
          repeat' ((fail_if_success with_reducible refine nph ?_); first | (with_reducible first | (refine d_seq ?_; intro K hK) | (refine hK _ _ ?_; clear hK K) | refine d_blk ?_ | refine d_rt0 ?_ | refine d_sk0 ?_ | refine d_ex0 ?_ | (refine r_nwc ?_; intro b)) | (first | ((with_reducible refine d_cnd ?_); refine And.intro ?_ ?_) | with_reducible refine r_cnd ?_ ?_) <;> intro hc <;> try simp only [push_cast, Int.reduceEq, Int.reduceLT, Int.reduceLE, Int.reduceNe] at hc | with_reducible refine r_rq (by first | decide | omega) ?_ | ((with_reducible first | apply i_lds | apply i_ldsq | apply i_ld | apply i_ldq); exact rfl) | ((with_reducible first | apply i_ldn | apply i_ldnq); exact rfl; exact rfl; exact rfl) | (with_reducible first | refine r_ph0 ?_ | apply i_kp0) | ((with_reducible first | apply i_st | apply i_stl); (focus simp); exact rfl) | ((try with_reducible refine d_reg ?_); simp only [go_sem, Nat.reduceAdd, Nat.reduceEqDiff, Int.reduceToNat, Nat.reduceMul, Nat.reduceSub]) | clear hK K)
          refine i_clq S ?_
          repeat' ((fail_if_success with_reducible refine nph ?_); first | (with_reducible first | (refine d_seq ?_; intro K hK) | (refine hK _ _ ?_; clear hK K) | refine d_blk ?_ | refine d_rt0 ?_ | refine d_sk0 ?_ | refine d_ex0 ?_ | (refine r_nwc ?_; intro b)) | (first | ((with_reducible refine d_cnd ?_); refine And.intro ?_ ?_) | with_reducible refine r_cnd ?_ ?_) <;> intro hc <;> try simp only [push_cast, Int.reduceEq, Int.reduceLT, Int.reduceLE, Int.reduceNe] at hc | with_reducible refine r_rq (by first | decide | omega) ?_ | ((with_reducible first | apply i_lds | apply i_ldsq | apply i_ld | apply i_ldq); exact rfl) | ((with_reducible first | apply i_ldn | apply i_ldnq); exact rfl; exact rfl; exact rfl) | (with_reducible first | refine r_ph0 ?_ | apply i_kp0) | ((with_reducible first | apply i_st | apply i_stl); (focus simp); exact rfl) | ((try with_reducible refine d_reg ?_); simp only [go_sem, Nat.reduceAdd, Nat.reduceEqDiff, Int.reduceToNat, Nat.reduceMul, Nat.reduceSub]) | clear hK K)
          all_goals try (first | contradiction | (simp only [ reduceCtorEq] at *; done) | (exfalso; omega))
          refine i_clq (g78 G Z.sb e) ?_
          repeat' ((fail_if_success with_reducible refine nph ?_); first | (with_reducible first | (refine d_seq ?_; intro K hK) | (refine hK _ _ ?_; clear hK K) | refine d_blk ?_ | refine d_rt0 ?_ | refine d_sk0 ?_ | refine d_ex0 ?_ | (refine r_nwc ?_; intro b)) | (first | ((with_reducible refine d_cnd ?_); refine And.intro ?_ ?_) | with_reducible refine r_cnd ?_ ?_) <;> intro hc <;> try simp only [push_cast, Int.reduceEq, Int.reduceLT, Int.reduceLE, Int.reduceNe] at hc | with_reducible refine r_rq (by first | decide | omega) ?_ | ((with_reducible first | apply i_lds | apply i_ldsq | apply i_ld | apply i_ldq); exact rfl) | ((with_reducible first | apply i_ldn | apply i_ldnq); exact rfl; exact rfl; exact rfl) | (with_reducible first | refine r_ph0 ?_ | apply i_kp0) | ((with_reducible first | apply i_st | apply i_stl); (focus simp); exact rfl) | ((try with_reducible refine d_reg ?_); simp only [go_sem, Nat.reduceAdd, Nat.reduceEqDiff, Int.reduceToNat, Nat.reduceMul, Nat.reduceSub]) | clear hK K)
          (with_reducible first | apply i_ret0 | apply i_ret2 | apply i_ret3 | apply i_ret); exact rfl
          rfl
end Go.Sp
/- The log: Append, Need, Open. -/
namespace Go.Sp
open Go Go.Proofs
set_option linter.unusedSimpArgs false
set_option linter.unusedVariables false
set_option maxRecDepth 10000
def Lg.add (G : Lg) (s : List UInt8) : (Int × Int) × Lg := if 58 * G.sectors < G.all.length + s.length then ((0, 7), G) else ((((G.all.length + 1 : Nat) : Int), 0), { G with all := G.all ++ s })
theorem g76 (G : Lg) (sb : Nat) (h : G.all.length ≤ 58 * G.sectors) (h2 : G.sectors ≤ 8192) (s : List UInt8) (hs : s.length ≤ 4611686018427387904) : Fq (eT2 eI eI) Tryz.prog 76 #[G.p, str s] [lgp G sb] [lgp (G.add s).2 sb] (G.add s).1 := fun L => by
  unfold Lg.add
  refine c76_fn rfl rfl ?_
  by_cases hq : 58 * G.sectors < G.all.length + s.length
  · rw [if_pos hq]
    repeat' ((fail_if_success with_reducible refine nph ?_); first | (with_reducible first | (refine d_seq ?_; intro K hK) | (refine hK _ _ ?_; clear hK K) | refine d_blk ?_ | refine d_rt0 ?_ | refine d_sk0 ?_ | refine d_ex0 ?_ | (refine r_nwc ?_; intro b)) | (first | ((with_reducible refine d_cnd ?_); refine And.intro ?_ ?_) | with_reducible refine r_cnd ?_ ?_) <;> intro hc <;> try simp only [push_cast, Int.reduceEq, Int.reduceLT, Int.reduceLE, Int.reduceNe] at hc | with_reducible refine r_rq (by first | decide | omega) ?_ | ((with_reducible first | apply i_lds | apply i_ldsq | apply i_ld | apply i_ldq); exact rfl) | ((with_reducible first | apply i_ldn | apply i_ldnq); exact rfl; exact rfl; exact rfl) | (with_reducible first | refine r_ph0 ?_ | apply i_kp0) | ((with_reducible first | apply i_st | apply i_stl); (focus simp); exact rfl) | ((try with_reducible refine d_reg ?_); simp only [go_sem, Nat.reduceAdd, Nat.reduceEqDiff, Int.reduceToNat, Nat.reduceMul, Nat.reduceSub]) | clear hK K)
    refine i_clp (g30 G sb h h2) ?_
    repeat' ((fail_if_success with_reducible refine nph ?_); first | (with_reducible first | (refine d_seq ?_; intro K hK) | (refine hK _ _ ?_; clear hK K) | refine d_blk ?_ | refine d_rt0 ?_ | refine d_sk0 ?_ | refine d_ex0 ?_ | (refine r_nwc ?_; intro b)) | (first | ((with_reducible refine d_cnd ?_); refine And.intro ?_ ?_) | with_reducible refine r_cnd ?_ ?_) <;> intro hc <;> try simp only [push_cast, Int.reduceEq, Int.reduceLT, Int.reduceLE, Int.reduceNe] at hc | with_reducible refine r_rq (by first | decide | omega) ?_ | ((with_reducible first | apply i_lds | apply i_ldsq | apply i_ld | apply i_ldq); exact rfl) | ((with_reducible first | apply i_ldn | apply i_ldnq); exact rfl; exact rfl; exact rfl) | (with_reducible first | refine r_ph0 ?_ | apply i_kp0) | ((with_reducible first | apply i_st | apply i_stl); (focus simp); exact rfl) | ((try with_reducible refine d_reg ?_); simp only [go_sem, Nat.reduceAdd, Nat.reduceEqDiff, Int.reduceToNat, Nat.reduceMul, Nat.reduceSub]) | clear hK K)
    all_goals try (exfalso; omega)
    (with_reducible first | apply i_ret0 | apply i_ret2 | apply i_ret3 | apply i_ret); exact rfl
    rfl
  · rw [if_neg hq]
    repeat' ((fail_if_success with_reducible refine nph ?_); first | (with_reducible first | (refine d_seq ?_; intro K hK) | (refine hK _ _ ?_; clear hK K) | refine d_blk ?_ | refine d_rt0 ?_ | refine d_sk0 ?_ | refine d_ex0 ?_ | (refine r_nwc ?_; intro b)) | (first | ((with_reducible refine d_cnd ?_); refine And.intro ?_ ?_) | with_reducible refine r_cnd ?_ ?_) <;> intro hc <;> try simp only [push_cast, Int.reduceEq, Int.reduceLT, Int.reduceLE, Int.reduceNe] at hc | with_reducible refine r_rq (by first | decide | omega) ?_ | ((with_reducible first | apply i_lds | apply i_ldsq | apply i_ld | apply i_ldq); exact rfl) | ((with_reducible first | apply i_ldn | apply i_ldnq); exact rfl; exact rfl; exact rfl) | (with_reducible first | refine r_ph0 ?_ | apply i_kp0) | ((with_reducible first | apply i_st | apply i_stl); (focus simp); exact rfl) | ((try with_reducible refine d_reg ?_); simp only [go_sem, Nat.reduceAdd, Nat.reduceEqDiff, Int.reduceToNat, Nat.reduceMul, Nat.reduceSub]) | clear hK K)
    refine i_clp (g30 G sb h h2) ?_
    repeat' ((fail_if_success with_reducible refine nph ?_); first | (with_reducible first | (refine d_seq ?_; intro K hK) | (refine hK _ _ ?_; clear hK K) | refine d_blk ?_ | refine d_rt0 ?_ | refine d_sk0 ?_ | refine d_ex0 ?_ | (refine r_nwc ?_; intro b)) | (first | ((with_reducible refine d_cnd ?_); refine And.intro ?_ ?_) | with_reducible refine r_cnd ?_ ?_) <;> intro hc <;> try simp only [push_cast, Int.reduceEq, Int.reduceLT, Int.reduceLE, Int.reduceNe] at hc | with_reducible refine r_rq (by first | decide | omega) ?_ | ((with_reducible first | apply i_lds | apply i_ldsq | apply i_ld | apply i_ldq); exact rfl) | ((with_reducible first | apply i_ldn | apply i_ldnq); exact rfl; exact rfl; exact rfl) | (with_reducible first | refine r_ph0 ?_ | apply i_kp0) | ((with_reducible first | apply i_st | apply i_stl); (focus simp); exact rfl) | ((try with_reducible refine d_reg ?_); simp only [go_sem, Nat.reduceAdd, Nat.reduceEqDiff, Int.reduceToNat, Nat.reduceMul, Nat.reduceSub]) | clear hK K)
    all_goals try (exfalso; omega)
    refine i_clp (g28 G sb (by omega)) ?_
    repeat' ((fail_if_success with_reducible refine nph ?_); first | (with_reducible first | (refine d_seq ?_; intro K hK) | (refine hK _ _ ?_; clear hK K) | refine d_blk ?_ | refine d_rt0 ?_ | refine d_sk0 ?_ | refine d_ex0 ?_ | (refine r_nwc ?_; intro b)) | (first | ((with_reducible refine d_cnd ?_); refine And.intro ?_ ?_) | with_reducible refine r_cnd ?_ ?_) <;> intro hc <;> try simp only [push_cast, Int.reduceEq, Int.reduceLT, Int.reduceLE, Int.reduceNe] at hc | with_reducible refine r_rq (by first | decide | omega) ?_ | ((with_reducible first | apply i_lds | apply i_ldsq | apply i_ld | apply i_ldq); exact rfl) | ((with_reducible first | apply i_ldn | apply i_ldnq); exact rfl; exact rfl; exact rfl) | (with_reducible first | refine r_ph0 ?_ | apply i_kp0) | ((with_reducible first | apply i_st | apply i_stl); (focus simp); exact rfl) | ((try with_reducible refine d_reg ?_); simp only [go_sem, Nat.reduceAdd, Nat.reduceEqDiff, Int.reduceToNat, Nat.reduceMul, Nat.reduceSub]) | clear hK K)
    (with_reducible first | apply i_ret0 | apply i_ret2 | apply i_ret3 | apply i_ret); exact rfl
    rfl
def Lg.append (G : Lg) (c : Rc) : (Int × Int) × Lg := if G.dead then ((0, 9), G) else if c.frame.2 = 0 then G.add c.frame.1 else ((0, c.frame.2), G)
theorem frame_le (c : Rc) : c.frame.1.length ≤ 4102 := by
  unfold Rc.frame
  have := c.clean.body_le
  split
  · simp only [List.length_append, lowb_len]; omega
  · simp
theorem g20 (G : Lg) (sb : Nat) (h : G.all.length ≤ 58 * G.sectors) (h2 : G.sectors ≤ 8192) (A : HP) (r : api_Rec) (c : Rc) (hr : RcAt A r c) : Fq (eT2 eI eI) Tryz.prog 20 #[G.p, v_api_Rec r] [lgp G sb, A] [lgp (G.append c).2 sb, A] (G.append c).1 := fun L => by
  have O := g75 G sb
  have F := g18 A r c hr
  have hl := frame_le c
  have D := g76 G sb h h2 c.frame.1 (by omega)
  unfold Lg.off at O
  unfold Lg.append
  obtain ⟨k1, k2, k3, k4, k5, k6, k7, k8, k9, k10, k11, k12, k13⟩ := r
  refine c20_fn rfl rfl ?_
  by_cases hd : G.dead = true
  · rw [if_pos hd] at O
    rw [if_pos hd]
    repeat' ((fail_if_success with_reducible refine nph ?_); first | (with_reducible first | (refine d_seq ?_; intro K hK) | (refine hK _ _ ?_; clear hK K) | refine d_blk ?_ | refine d_rt0 ?_ | refine d_sk0 ?_ | refine d_ex0 ?_ | (refine r_nwc ?_; intro b)) | (first | ((with_reducible refine d_cnd ?_); refine And.intro ?_ ?_) | with_reducible refine r_cnd ?_ ?_) <;> intro hc <;> try simp only [push_cast, Int.reduceEq, Int.reduceLT, Int.reduceLE, Int.reduceNe] at hc | with_reducible refine r_rq (by first | decide | omega) ?_ | ((with_reducible first | apply i_lds | apply i_ldsq | apply i_ld | apply i_ldq); exact rfl) | ((with_reducible first | apply i_ldn | apply i_ldnq); exact rfl; exact rfl; exact rfl) | (with_reducible first | refine r_ph0 ?_ | apply i_kp0) | ((with_reducible first | apply i_st | apply i_stl); (focus simp); exact rfl) | ((try with_reducible refine d_reg ?_); simp only [go_sem, Nat.reduceAdd, Nat.reduceEqDiff, Int.reduceToNat, Nat.reduceMul, Nat.reduceSub]) | clear hK K)
    refine i_clp O ?_
    repeat' ((fail_if_success with_reducible refine nph ?_); first | (with_reducible first | (refine d_seq ?_; intro K hK) | (refine hK _ _ ?_; clear hK K) | refine d_blk ?_ | refine d_rt0 ?_ | refine d_sk0 ?_ | refine d_ex0 ?_ | (refine r_nwc ?_; intro b)) | (first | ((with_reducible refine d_cnd ?_); refine And.intro ?_ ?_) | with_reducible refine r_cnd ?_ ?_) <;> intro hc <;> try simp only [push_cast, Int.reduceEq, Int.reduceLT, Int.reduceLE, Int.reduceNe] at hc | with_reducible refine r_rq (by first | decide | omega) ?_ | ((with_reducible first | apply i_lds | apply i_ldsq | apply i_ld | apply i_ldq); exact rfl) | ((with_reducible first | apply i_ldn | apply i_ldnq); exact rfl; exact rfl; exact rfl) | (with_reducible first | refine r_ph0 ?_ | apply i_kp0) | ((with_reducible first | apply i_st | apply i_stl); (focus simp); exact rfl) | ((try with_reducible refine d_reg ?_); simp only [go_sem, Nat.reduceAdd, Nat.reduceEqDiff, Int.reduceToNat, Nat.reduceMul, Nat.reduceSub]) | clear hK K)
    all_goals try (first | contradiction | (simp only [ reduceCtorEq] at *; done) | (exfalso; omega))
    (with_reducible first | apply i_ret0 | apply i_ret2 | apply i_ret3 | apply i_ret); exact rfl
    rfl
  · rw [if_neg hd] at O
    rw [if_neg hd]
    generalize c.frame = f at *
    obtain ⟨t, e⟩ := f
    dsimp only at D ⊢
    by_cases he : e = 0
    · subst he
      rw [if_pos rfl]
      generalize G.add t = T at *
      obtain ⟨⟨y1, y2⟩, V⟩ := T
      repeat' ((fail_if_success with_reducible refine nph ?_); first | (with_reducible first | (refine d_seq ?_; intro K hK) | (refine hK _ _ ?_; clear hK K) | refine d_blk ?_ | refine d_rt0 ?_ | refine d_sk0 ?_ | refine d_ex0 ?_ | (refine r_nwc ?_; intro b)) | (first | ((with_reducible refine d_cnd ?_); refine And.intro ?_ ?_) | with_reducible refine r_cnd ?_ ?_) <;> intro hc <;> try simp only [push_cast, Int.reduceEq, Int.reduceLT, Int.reduceLE, Int.reduceNe] at hc | with_reducible refine r_rq (by first | decide | omega) ?_ | ((with_reducible first | apply i_lds | apply i_ldsq | apply i_ld | apply i_ldq); exact rfl) | ((with_reducible first | apply i_ldn | apply i_ldnq); exact rfl; exact rfl; exact rfl) | (with_reducible first | refine r_ph0 ?_ | apply i_kp0) | ((with_reducible first | apply i_st | apply i_stl); (focus simp); exact rfl) | ((try with_reducible refine d_reg ?_); simp only [go_sem, Nat.reduceAdd, Nat.reduceEqDiff, Int.reduceToNat, Nat.reduceMul, Nat.reduceSub]) | clear hK K)
      refine i_clp O ?_
      repeat' ((fail_if_success with_reducible refine nph ?_); first | (with_reducible first | (refine d_seq ?_; intro K hK) | (refine hK _ _ ?_; clear hK K) | refine d_blk ?_ | refine d_rt0 ?_ | refine d_sk0 ?_ | refine d_ex0 ?_ | (refine r_nwc ?_; intro b)) | (first | ((with_reducible refine d_cnd ?_); refine And.intro ?_ ?_) | with_reducible refine r_cnd ?_ ?_) <;> intro hc <;> try simp only [push_cast, Int.reduceEq, Int.reduceLT, Int.reduceLE, Int.reduceNe] at hc | with_reducible refine r_rq (by first | decide | omega) ?_ | ((with_reducible first | apply i_lds | apply i_ldsq | apply i_ld | apply i_ldq); exact rfl) | ((with_reducible first | apply i_ldn | apply i_ldnq); exact rfl; exact rfl; exact rfl) | (with_reducible first | refine r_ph0 ?_ | apply i_kp0) | ((with_reducible first | apply i_st | apply i_stl); (focus simp); exact rfl) | ((try with_reducible refine d_reg ?_); simp only [go_sem, Nat.reduceAdd, Nat.reduceEqDiff, Int.reduceToNat, Nat.reduceMul, Nat.reduceSub]) | clear hK K)
      all_goals try (first | contradiction | (simp only [ reduceCtorEq] at *; done) | (exfalso; omega))
      refine i_ldn (e := e_api_Rec) (x := ⟨k1, k2, k3, k4, k5, k6, k7, k8, k9, k10, k11, k12, k13⟩) rfl rfl rfl ?_
      refine i_clp F ?_
      repeat' ((fail_if_success with_reducible refine nph ?_); first | (with_reducible first | (refine d_seq ?_; intro K hK) | (refine hK _ _ ?_; clear hK K) | refine d_blk ?_ | refine d_rt0 ?_ | refine d_sk0 ?_ | refine d_ex0 ?_ | (refine r_nwc ?_; intro b)) | (first | ((with_reducible refine d_cnd ?_); refine And.intro ?_ ?_) | with_reducible refine r_cnd ?_ ?_) <;> intro hc <;> try simp only [push_cast, Int.reduceEq, Int.reduceLT, Int.reduceLE, Int.reduceNe] at hc | with_reducible refine r_rq (by first | decide | omega) ?_ | ((with_reducible first | apply i_lds | apply i_ldsq | apply i_ld | apply i_ldq); exact rfl) | ((with_reducible first | apply i_ldn | apply i_ldnq); exact rfl; exact rfl; exact rfl) | (with_reducible first | refine r_ph0 ?_ | apply i_kp0) | ((with_reducible first | apply i_st | apply i_stl); (focus simp); exact rfl) | ((try with_reducible refine d_reg ?_); simp only [go_sem, Nat.reduceAdd, Nat.reduceEqDiff, Int.reduceToNat, Nat.reduceMul, Nat.reduceSub]) | clear hK K)
      all_goals try (first | contradiction | (simp only [ reduceCtorEq] at *; done) | (exfalso; omega))
      refine i_clq D ?_
      repeat' ((fail_if_success with_reducible refine nph ?_); first | (with_reducible first | (refine d_seq ?_; intro K hK) | (refine hK _ _ ?_; clear hK K) | refine d_blk ?_ | refine d_rt0 ?_ | refine d_sk0 ?_ | refine d_ex0 ?_ | (refine r_nwc ?_; intro b)) | (first | ((with_reducible refine d_cnd ?_); refine And.intro ?_ ?_) | with_reducible refine r_cnd ?_ ?_) <;> intro hc <;> try simp only [push_cast, Int.reduceEq, Int.reduceLT, Int.reduceLE, Int.reduceNe] at hc | with_reducible refine r_rq (by first | decide | omega) ?_ | ((with_reducible first | apply i_lds | apply i_ldsq | apply i_ld | apply i_ldq); exact rfl) | ((with_reducible first | apply i_ldn | apply i_ldnq); exact rfl; exact rfl; exact rfl) | (with_reducible first | refine r_ph0 ?_ | apply i_kp0) | ((with_reducible first | apply i_st | apply i_stl); (focus simp); exact rfl) | ((try with_reducible refine d_reg ?_); simp only [go_sem, Nat.reduceAdd, Nat.reduceEqDiff, Int.reduceToNat, Nat.reduceMul, Nat.reduceSub]) | clear hK K)
      (with_reducible first | apply i_ret0 | apply i_ret2 | apply i_ret3 | apply i_ret); exact rfl
      rfl
    · rw [if_neg he]
      repeat' ((fail_if_success with_reducible refine nph ?_); first | (with_reducible first | (refine d_seq ?_; intro K hK) | (refine hK _ _ ?_; clear hK K) | refine d_blk ?_ | refine d_rt0 ?_ | refine d_sk0 ?_ | refine d_ex0 ?_ | (refine r_nwc ?_; intro b)) | (first | ((with_reducible refine d_cnd ?_); refine And.intro ?_ ?_) | with_reducible refine r_cnd ?_ ?_) <;> intro hc <;> try simp only [push_cast, Int.reduceEq, Int.reduceLT, Int.reduceLE, Int.reduceNe] at hc | with_reducible refine r_rq (by first | decide | omega) ?_ | ((with_reducible first | apply i_lds | apply i_ldsq | apply i_ld | apply i_ldq); exact rfl) | ((with_reducible first | apply i_ldn | apply i_ldnq); exact rfl; exact rfl; exact rfl) | (with_reducible first | refine r_ph0 ?_ | apply i_kp0) | ((with_reducible first | apply i_st | apply i_stl); (focus simp); exact rfl) | ((try with_reducible refine d_reg ?_); simp only [go_sem, Nat.reduceAdd, Nat.reduceEqDiff, Int.reduceToNat, Nat.reduceMul, Nat.reduceSub]) | clear hK K)
      refine i_clp O ?_
      repeat' ((fail_if_success with_reducible refine nph ?_); first | (with_reducible first | (refine d_seq ?_; intro K hK) | (refine hK _ _ ?_; clear hK K) | refine d_blk ?_ | refine d_rt0 ?_ | refine d_sk0 ?_ | refine d_ex0 ?_ | (refine r_nwc ?_; intro b)) | (first | ((with_reducible refine d_cnd ?_); refine And.intro ?_ ?_) | with_reducible refine r_cnd ?_ ?_) <;> intro hc <;> try simp only [push_cast, Int.reduceEq, Int.reduceLT, Int.reduceLE, Int.reduceNe] at hc | with_reducible refine r_rq (by first | decide | omega) ?_ | ((with_reducible first | apply i_lds | apply i_ldsq | apply i_ld | apply i_ldq); exact rfl) | ((with_reducible first | apply i_ldn | apply i_ldnq); exact rfl; exact rfl; exact rfl) | (with_reducible first | refine r_ph0 ?_ | apply i_kp0) | ((with_reducible first | apply i_st | apply i_stl); (focus simp); exact rfl) | ((try with_reducible refine d_reg ?_); simp only [go_sem, Nat.reduceAdd, Nat.reduceEqDiff, Int.reduceToNat, Nat.reduceMul, Nat.reduceSub]) | clear hK K)
      all_goals try (first | contradiction | (simp only [ reduceCtorEq] at *; done) | (exfalso; omega))
      refine i_ldn (e := e_api_Rec) (x := ⟨k1, k2, k3, k4, k5, k6, k7, k8, k9, k10, k11, k12, k13⟩) rfl rfl rfl ?_
      refine i_clp F ?_
      repeat' ((fail_if_success with_reducible refine nph ?_); first | (with_reducible first | (refine d_seq ?_; intro K hK) | (refine hK _ _ ?_; clear hK K) | refine d_blk ?_ | refine d_rt0 ?_ | refine d_sk0 ?_ | refine d_ex0 ?_ | (refine r_nwc ?_; intro b)) | (first | ((with_reducible refine d_cnd ?_); refine And.intro ?_ ?_) | with_reducible refine r_cnd ?_ ?_) <;> intro hc <;> try simp only [push_cast, Int.reduceEq, Int.reduceLT, Int.reduceLE, Int.reduceNe] at hc | with_reducible refine r_rq (by first | decide | omega) ?_ | ((with_reducible first | apply i_lds | apply i_ldsq | apply i_ld | apply i_ldq); exact rfl) | ((with_reducible first | apply i_ldn | apply i_ldnq); exact rfl; exact rfl; exact rfl) | (with_reducible first | refine r_ph0 ?_ | apply i_kp0) | ((with_reducible first | apply i_st | apply i_stl); (focus simp); exact rfl) | ((try with_reducible refine d_reg ?_); simp only [go_sem, Nat.reduceAdd, Nat.reduceEqDiff, Int.reduceToNat, Nat.reduceMul, Nat.reduceSub]) | clear hK K)
      all_goals try (first | contradiction | (simp only [ reduceCtorEq] at *; done) | (exfalso; omega))
      (with_reducible first | apply i_ret0 | apply i_ret2 | apply i_ret3 | apply i_ret); exact rfl
      rfl
theorem whl_le (s : List UInt8) : ∀ k a, a ≤ s.length → whl s k a ≤ s.length
  | 0, a, h => h
  | k + 1, a, h => by
    unfold whl
    split
    · rename_i h0
      obtain ⟨m, hm, _, hm2⟩ := opn_step h h0
      rw [hm, Int.toNat_natCast]
      exact whl_le s k _ hm2
    · exact h
theorem whole_le (s : List UInt8) : whole s ≤ s.length := whl_le s _ 0 (by omega)
theorem scn_len (Z : Dk) (base top : Nat) : ∀ k i r, (Z.scn base top k i r).length ≤ 58 * k
  | 0, i, r => by simp [Dk.scn]
  | k + 1, i, r => by
    unfold Dk.scn
    split
    · simp
    · have ih := scn_len Z base top k (i + 1) (be ((Z.get ((base + i : Nat) : Int)).take 4))
      rw [List.length_append, List.length_take]
      split
      · simp only [List.length_nil]; omega
      · omega
/-- The log that is found. -/
def Dk.found (Z : Dk) (q base sectors run : Nat) : Lg := ⟨q, base, sectors, run, (Z.scn base run sectors 0 1).take (whole (Z.scn base run sectors 0 1)), whole (Z.scn base run sectors 0 1), false⟩
theorem found_ok {Z : Dk} {q base sectors run : Nat} (h1 : 1 ≤ sectors) (h2 : base + sectors ≤ Z.sure.length) (h3 : Z.sure.length ≤ 8192) (h4 : 1 ≤ run) (h5 : run < 4294967296) : (Z.found q base sectors run).ok Z.sure.length := by
  have a := whole_le (Z.scn base run sectors 0 1)
  have b := scn_len Z base run sectors 0 1
  refine ⟨h1, h2, h3, h4, h5, ?_, ?_⟩
  · unfold Dk.found
    dsimp only
    rw [List.length_take]
    omega
  · unfold Dk.found
    dsimp only
    rw [List.length_take]
    omega
set_option maxHeartbeats 1000000 in
theorem g17 (Z : Dk) (h : Z.ok) (base sectors run : Int) (w1 : wf64 base) (w2 : wf64 sectors) :
    Fn (eT2 eP eI) Tryz.prog 17 #[.pointer (some ⟨Z.sb, 0, none⟩), .int .i64 base, .int .i64 sectors, .int .i64 run] [dk Z] fun y X =>
      if lchk Z.sure.length base sectors run = 0 then
        (if Z.up then ∃ q b n r : Nat, base = (b : Int) ∧ sectors = (n : Int) ∧ run = (r : Int) ∧ (Z.found q b n r).ok Z.sure.length ∧
          (if (Z.lmend (Z.found q b n r)).1 = 0 then y = (some ⟨q, 0, none⟩, 0) ∧ X = [lgp (Z.lmend (Z.found q b n r)).2.2 Z.sb, dk (Z.lmend (Z.found q b n r)).2.1] else y = (none, (Z.lmend (Z.found q b n r)).1) ∧ X = [dk (Z.lmend (Z.found q b n r)).2.1])
        else y = (none, 9) ∧ X = [dk Z])
      else y = (none, lchk Z.sure.length base sectors run) ∧ X = [dk Z] := fun L => by
  have C := g67 Z h base sectors run w1
  have hn1 := h.n1
  refine c17_fn rfl rfl ?_
  by_cases hc0 : lchk Z.sure.length base sectors run = 0
  · rw [hc0] at C ⊢
    simp only [if_true]
    have hin : 0 ≤ base ∧ 1 ≤ sectors ∧ 1 ≤ run ∧ run < 4294967296 ∧ base + sectors ≤ (Z.sure.length : Int) := by
      unfold lchk at hc0
      split at hc0
      · cases hc0
      · split at hc0
        · cases hc0
        · omega
    obtain ⟨m0, rfl⟩ : ∃ m : Nat, base = (m : Int) := ⟨base.toNat, by omega⟩
    obtain ⟨n, rfl⟩ : ∃ m : Nat, sectors = (m : Int) := ⟨sectors.toNat, by omega⟩
    obtain ⟨r, rfl⟩ : ∃ m : Nat, run = (m : Int) := ⟨run.toNat, by omega⟩
    repeat' ((fail_if_success with_reducible refine nph ?_); first | (with_reducible first | (refine d_seq ?_; intro K hK) | (refine hK _ _ ?_; clear hK K) | refine d_blk ?_ | refine d_rt0 ?_ | refine d_sk0 ?_ | refine d_ex0 ?_ | (refine r_nwc ?_; intro b)) | (first | ((with_reducible refine d_cnd ?_); refine And.intro ?_ ?_) | with_reducible refine r_cnd ?_ ?_) <;> intro hc <;> try simp only [push_cast, Int.reduceEq, Int.reduceLT, Int.reduceLE, Int.reduceNe] at hc | with_reducible refine r_rq (by first | decide | omega) ?_ | ((with_reducible first | apply i_lds | apply i_ldsq | apply i_ld | apply i_ldq); exact rfl) | ((with_reducible first | apply i_ldn | apply i_ldnq); exact rfl; exact rfl; exact rfl) | (with_reducible first | refine r_ph0 ?_ | apply i_kp0) | ((with_reducible first | apply i_st | apply i_stl); (focus simp); exact rfl) | ((try with_reducible refine d_reg ?_); simp only [go_sem, Nat.reduceAdd, Nat.reduceEqDiff, Int.reduceToNat, Nat.reduceMul, Nat.reduceSub]) | clear hK K)
    refine i_clp C ?_
    repeat' ((fail_if_success with_reducible refine nph ?_); first | (with_reducible first | (refine d_seq ?_; intro K hK) | (refine hK _ _ ?_; clear hK K) | refine d_blk ?_ | refine d_rt0 ?_ | refine d_sk0 ?_ | refine d_ex0 ?_ | (refine r_nwc ?_; intro b)) | (first | ((with_reducible refine d_cnd ?_); refine And.intro ?_ ?_) | with_reducible refine r_cnd ?_ ?_) <;> intro hc <;> try simp only [push_cast, Int.reduceEq, Int.reduceLT, Int.reduceLE, Int.reduceNe] at hc | with_reducible refine r_rq (by first | decide | omega) ?_ | ((with_reducible first | apply i_lds | apply i_ldsq | apply i_ld | apply i_ldq); exact rfl) | ((with_reducible first | apply i_ldn | apply i_ldnq); exact rfl; exact rfl; exact rfl) | (with_reducible first | refine r_ph0 ?_ | apply i_kp0) | ((with_reducible first | apply i_st | apply i_stl); (focus simp); exact rfl) | ((try with_reducible refine d_reg ?_); simp only [go_sem, Nat.reduceAdd, Nat.reduceEqDiff, Int.reduceToNat, Nat.reduceMul, Nat.reduceSub]) | clear hK K)
    all_goals try (first | contradiction | (simp only [ reduceCtorEq] at *; done) | (exfalso; omega))
    have hok0 : (⟨b, m0, n, r, [], 0, false⟩ : Lg).ok Z.sure.length := ⟨by dsimp only; omega, by dsimp only; omega, hn1, by dsimp only; omega, by dsimp only; omega, by simp, by simp⟩
    have hok : (Z.found b m0 n r).ok Z.sure.length := found_ok (by omega) (by omega) hn1 (by omega) (by omega)
    have S := g68 ⟨b, m0, n, r, [], 0, false⟩ Z h hok0
    cases hu : Z.up
    · rw [hu] at S
      simp only [Bool.false_eq_true, if_false] at S
      refine i_cal S ?_
      rintro y X ⟨rfl, rfl⟩
      repeat' ((fail_if_success with_reducible refine nph ?_); first | (with_reducible first | (refine d_seq ?_; intro K hK) | (refine hK _ _ ?_; clear hK K) | refine d_blk ?_ | refine d_rt0 ?_ | refine d_sk0 ?_ | refine d_ex0 ?_ | (refine r_nwc ?_; intro b)) | (first | ((with_reducible refine d_cnd ?_); refine And.intro ?_ ?_) | with_reducible refine r_cnd ?_ ?_) <;> intro hc <;> try simp only [push_cast, Int.reduceEq, Int.reduceLT, Int.reduceLE, Int.reduceNe] at hc | with_reducible refine r_rq (by first | decide | omega) ?_ | ((with_reducible first | apply i_lds | apply i_ldsq | apply i_ld | apply i_ldq); exact rfl) | ((with_reducible first | apply i_ldn | apply i_ldnq); exact rfl; exact rfl; exact rfl) | (with_reducible first | refine r_ph0 ?_ | apply i_kp0) | ((with_reducible first | apply i_st | apply i_stl); (focus simp); exact rfl) | ((try with_reducible refine d_reg ?_); simp only [go_sem, Nat.reduceAdd, Nat.reduceEqDiff, Int.reduceToNat, Nat.reduceMul, Nat.reduceSub]) | clear hK K)
      all_goals try (first | contradiction | (simp only [ reduceCtorEq] at *; done) | (exfalso; omega))
      exact i_done (e := eT2 eP eI) (none, 9) [dk Z] rfl (by rw [if_neg (by simp [hu])]; exact ⟨rfl, rfl⟩)
    · rw [hu] at S
      simp only [if_true] at S
      have M := g70 _ Z h hok
      have hlen := scn_len Z m0 r n 0 1
      have hw := whole_le (Z.scn m0 r n 0 1)
      have W := g69 (Z.scn m0 r n 0 1) (by omega)
      have hA : (Z.found b m0 n r).all = (Z.scn m0 r n 0 1).take (whole (Z.scn m0 r n 0 1)) := rfl
      refine i_cal S ?_
      rintro y X ⟨rfl, rfl⟩
      generalize hsc : Z.scn m0 r n 0 1 = sc at *
      repeat' ((fail_if_success with_reducible refine nph ?_); first | (with_reducible first | (refine d_seq ?_; intro K hK) | (refine hK _ _ ?_; clear hK K) | refine d_blk ?_ | refine d_rt0 ?_ | refine d_sk0 ?_ | refine d_ex0 ?_ | (refine r_nwc ?_; intro b)) | (first | ((with_reducible refine d_cnd ?_); refine And.intro ?_ ?_) | with_reducible refine r_cnd ?_ ?_) <;> intro hc <;> try simp only [push_cast, Int.reduceEq, Int.reduceLT, Int.reduceLE, Int.reduceNe] at hc | with_reducible refine r_rq (by first | decide | omega) ?_ | ((with_reducible first | apply i_lds | apply i_ldsq | apply i_ld | apply i_ldq); exact rfl) | ((with_reducible first | apply i_ldn | apply i_ldnq); exact rfl; exact rfl; exact rfl) | (with_reducible first | refine r_ph0 ?_ | apply i_kp0) | ((with_reducible first | apply i_st | apply i_stl); (focus simp); exact rfl) | ((try with_reducible refine d_reg ?_); simp only [go_sem, Nat.reduceAdd, Nat.reduceEqDiff, Int.reduceToNat, Nat.reduceMul, Nat.reduceSub]) | clear hK K)
      all_goals try (first | contradiction | (simp only [ reduceCtorEq] at *; done) | (exfalso; omega))
      refine i_clp W ?_
      have ess : ss sc 0 (whole sc : Int) = sc.take (whole sc) := by
        unfold ss
        simp
      have hlt : (sc.take (whole sc)).length = whole sc := by rw [List.length_take]; omega
      repeat' (first | rw [ess] | rw [hlt] | (fail_if_success with_reducible refine nph ?_); first | (with_reducible first | (refine d_seq ?_; intro K hK) | (refine hK _ _ ?_; clear hK K) | refine d_blk ?_ | refine d_rt0 ?_ | refine d_sk0 ?_ | refine d_ex0 ?_ | (refine r_nwc ?_; intro b)) | (first | ((with_reducible refine d_cnd ?_); refine And.intro ?_ ?_) | with_reducible refine r_cnd ?_ ?_) <;> intro hc <;> try simp only [push_cast, Int.reduceEq, Int.reduceLT, Int.reduceLE, Int.reduceNe] at hc | with_reducible refine r_rq (by first | decide | omega) ?_ | ((with_reducible first | apply i_lds | apply i_ldsq | apply i_ld | apply i_ldq); exact rfl) | ((with_reducible first | apply i_ldn | apply i_ldnq); exact rfl; exact rfl; exact rfl) | (with_reducible first | refine r_ph0 ?_ | apply i_kp0) | ((with_reducible first | apply i_st | apply i_stl); (focus simp); exact rfl) | ((try with_reducible refine d_reg ?_); simp only [go_sem, Nat.reduceAdd, Nat.reduceEqDiff, Int.reduceToNat, Nat.reduceMul, Nat.reduceSub]) | clear hK K)
      have hfd : Z.found b m0 n r = ⟨b, m0, n, r, sc.take (whole sc), whole sc, false⟩ := by unfold Dk.found; rw [hsc]
      have M' := M
      rw [hfd] at M'
      generalize hR : Z.lmend ⟨b, m0, n, r, sc.take (whole sc), whole sc, false⟩ = R at *
      obtain ⟨e, Y, G'⟩ := R
      dsimp only at M'
      refine i_clq M' ?_
      repeat' ((fail_if_success with_reducible refine nph ?_); first | (with_reducible first | (refine d_seq ?_; intro K hK) | (refine hK _ _ ?_; clear hK K) | refine d_blk ?_ | refine d_rt0 ?_ | refine d_sk0 ?_ | refine d_ex0 ?_ | (refine r_nwc ?_; intro b)) | (first | ((with_reducible refine d_cnd ?_); refine And.intro ?_ ?_) | with_reducible refine r_cnd ?_ ?_) <;> intro hc <;> try simp only [push_cast, Int.reduceEq, Int.reduceLT, Int.reduceLE, Int.reduceNe] at hc | with_reducible refine r_rq (by first | decide | omega) ?_ | ((with_reducible first | apply i_lds | apply i_ldsq | apply i_ld | apply i_ldq); exact rfl) | ((with_reducible first | apply i_ldn | apply i_ldnq); exact rfl; exact rfl; exact rfl) | (with_reducible first | refine r_ph0 ?_ | apply i_kp0) | ((with_reducible first | apply i_st | apply i_stl); (focus simp); exact rfl) | ((try with_reducible refine d_reg ?_); simp only [go_sem, Nat.reduceAdd, Nat.reduceEqDiff, Int.reduceToNat, Nat.reduceMul, Nat.reduceSub]) | clear hK K)
      · have he : ¬ e = 0 := by simpa using hc
        exact i_done (e := eT2 eP eI) (none, e) [dk Y] rfl (by rw [if_pos hu]; exact ⟨b, m0, n, r, rfl, rfl, rfl, hok, by rw [hfd, hR]; dsimp only; rw [if_neg he]; exact ⟨rfl, rfl⟩⟩)
      · have he : e = 0 := by simpa using hc
        exact i_done (e := eT2 eP eI) (some ⟨b, 0, none⟩, 0) [lgp G' Z.sb, dk Y] rfl (by rw [if_pos hu]; exact ⟨b, m0, n, r, rfl, rfl, rfl, hok, by rw [hfd, hR]; dsimp only; rw [if_pos he]; exact ⟨rfl, rfl⟩⟩)
  · simp only [hc0, if_false]
    repeat' ((fail_if_success with_reducible refine nph ?_); first | (with_reducible first | (refine d_seq ?_; intro K hK) | (refine hK _ _ ?_; clear hK K) | refine d_blk ?_ | refine d_rt0 ?_ | refine d_sk0 ?_ | refine d_ex0 ?_ | (refine r_nwc ?_; intro b)) | (first | ((with_reducible refine d_cnd ?_); refine And.intro ?_ ?_) | with_reducible refine r_cnd ?_ ?_) <;> intro hc <;> try simp only [push_cast, Int.reduceEq, Int.reduceLT, Int.reduceLE, Int.reduceNe] at hc | with_reducible refine r_rq (by first | decide | omega) ?_ | ((with_reducible first | apply i_lds | apply i_ldsq | apply i_ld | apply i_ldq); exact rfl) | ((with_reducible first | apply i_ldn | apply i_ldnq); exact rfl; exact rfl; exact rfl) | (with_reducible first | refine r_ph0 ?_ | apply i_kp0) | ((with_reducible first | apply i_st | apply i_stl); (focus simp); exact rfl) | ((try with_reducible refine d_reg ?_); simp only [go_sem, Nat.reduceAdd, Nat.reduceEqDiff, Int.reduceToNat, Nat.reduceMul, Nat.reduceSub]) | clear hK K)
    refine i_clp C ?_
    repeat' ((fail_if_success with_reducible refine nph ?_); first | (with_reducible first | (refine d_seq ?_; intro K hK) | (refine hK _ _ ?_; clear hK K) | refine d_blk ?_ | refine d_rt0 ?_ | refine d_sk0 ?_ | refine d_ex0 ?_ | (refine r_nwc ?_; intro b)) | (first | ((with_reducible refine d_cnd ?_); refine And.intro ?_ ?_) | with_reducible refine r_cnd ?_ ?_) <;> intro hc <;> try simp only [push_cast, Int.reduceEq, Int.reduceLT, Int.reduceLE, Int.reduceNe] at hc | with_reducible refine r_rq (by first | decide | omega) ?_ | ((with_reducible first | apply i_lds | apply i_ldsq | apply i_ld | apply i_ldq); exact rfl) | ((with_reducible first | apply i_ldn | apply i_ldnq); exact rfl; exact rfl; exact rfl) | (with_reducible first | refine r_ph0 ?_ | apply i_kp0) | ((with_reducible first | apply i_st | apply i_stl); (focus simp); exact rfl) | ((try with_reducible refine d_reg ?_); simp only [go_sem, Nat.reduceAdd, Nat.reduceEqDiff, Int.reduceToNat, Nat.reduceMul, Nat.reduceSub]) | clear hK K)
    all_goals try (exfalso; simp at hc; exact hc0 hc)
    all_goals try contradiction
    exact i_done (e := eT2 eP eI) (none, lchk Z.sure.length base sectors run) [dk Z] rfl ⟨rfl, rfl⟩
end Go.Sp
/- The log: Need, Read, Bound. -/
namespace Go.Sp
open Go Go.Proofs
set_option linter.unusedSimpArgs false
set_option linter.unusedVariables false
set_option maxRecDepth 10000
def Lg.read (G : Lg) (lsn : Int) : Rc × Int × Int := if lsn < 1 ∨ (G.all.length : Int) < lsn then (Rc.z 0, 0, 8) else if (opn G.all (lsn - 1)).2.2 = 0 then ((opn G.all (lsn - 1)).1, lsn + (opn G.all (lsn - 1)).2.1, 0) else (Rc.z 0, 0, (opn G.all (lsn - 1)).2.2)
set_option maxHeartbeats 1000000 in
theorem g35 (G : Lg) (sb : Nat) (hl : G.all.length ≤ 1000000) (lsn : Int) : Fn (eT3 e_api_Rec eI eI) Tryz.prog 35 #[G.p, .int .i64 lsn] [lgp G sb] fun y X => ∃ A : HP, X = [A, lgp G sb] ∧ RcAt A y.1 (G.read lsn).1 ∧ y.2 = (G.read lsn).2 := fun L => by
  refine c35_fn rfl rfl ?_
  generalize hB' : G.read lsn = B
  have hB := hB'
  unfold Lg.read at hB
  by_cases h1 : lsn < 1 ∨ (G.all.length : Int) < lsn
  · rw [if_pos h1] at hB
    refine r_nilow 123 2 ?_
    obtain ⟨A, hA⟩ : ∃ A, A = ow 123 2 (none, 0, 0) [] := ⟨_, rfl⟩
    rw [← hA]
    repeat' ((fail_if_success with_reducible refine nph ?_); first | (with_reducible first | (refine d_seq ?_; intro K hK) | (refine hK _ _ ?_; clear hK K) | refine d_blk ?_ | refine d_rt0 ?_ | refine d_sk0 ?_ | refine d_ex0 ?_ | (refine r_nwc ?_; intro b)) | (first | ((with_reducible refine d_cnd ?_); refine And.intro ?_ ?_) | with_reducible refine r_cnd ?_ ?_) <;> intro hc <;> try simp only [push_cast, Int.reduceEq, Int.reduceLT, Int.reduceLE, Int.reduceNe] at hc | with_reducible refine r_rq (by first | decide | omega) ?_ | ((with_reducible first | apply i_lds | apply i_ldsq | apply i_ld | apply i_ldq); exact rfl) | ((with_reducible first | apply i_ldn | apply i_ldnq); exact rfl; exact rfl; exact rfl) | (with_reducible first | refine r_ph0 ?_ | apply i_kp0) | ((with_reducible first | apply i_st | apply i_stl); (focus simp); exact rfl) | ((try with_reducible refine d_reg ?_); simp only [go_sem, Nat.reduceAdd, Nat.reduceEqDiff, Int.reduceToNat, Nat.reduceMul, Nat.reduceSub]) | clear hK K)
    refine i_clp (g83 G sb) ?_
    repeat' ((fail_if_success with_reducible refine nph ?_); first | (with_reducible first | (refine d_seq ?_; intro K hK) | (refine hK _ _ ?_; clear hK K) | refine d_blk ?_ | refine d_rt0 ?_ | refine d_sk0 ?_ | refine d_ex0 ?_ | (refine r_nwc ?_; intro b)) | (first | ((with_reducible refine d_cnd ?_); refine And.intro ?_ ?_) | with_reducible refine r_cnd ?_ ?_) <;> intro hc <;> try simp only [push_cast, Int.reduceEq, Int.reduceLT, Int.reduceLE, Int.reduceNe] at hc | with_reducible refine r_rq (by first | decide | omega) ?_ | ((with_reducible first | apply i_lds | apply i_ldsq | apply i_ld | apply i_ldq); exact rfl) | ((with_reducible first | apply i_ldn | apply i_ldnq); exact rfl; exact rfl; exact rfl) | (with_reducible first | refine r_ph0 ?_ | apply i_kp0) | ((with_reducible first | apply i_st | apply i_stl); (focus simp); exact rfl) | ((try with_reducible refine d_reg ?_); simp only [go_sem, Nat.reduceAdd, Nat.reduceEqDiff, Int.reduceToNat, Nat.reduceMul, Nat.reduceSub]) | clear hK K)
    all_goals try (exfalso; omega)
    all_goals try contradiction
    all_goals (refine i_ldn (e := e_api_Rec) (x := ⟨0, 0, 0, 0, 0, [], [], [], 0, (none, 0, 0), (none, 0, 0), 0, 0⟩) rfl rfl rfl ?_); exact i_done (e := eT3 e_api_Rec eI eI) (⟨0, 0, 0, 0, 0, [], [], [], 0, (none, 0, 0), (none, 0, 0), 0, 0⟩, 0, 8) [A, lgp G sb] rfl ⟨A, rfl, (by rw [← hB]; exact RcAt_z A 0), (by rw [← hB])⟩
  · rw [if_neg h1] at hB
    have O := g26 G.all (lsn - 1) (by omega)
    have hst : (opn G.all (lsn - 1)).2.2 = 0 → ∃ m : Nat, (opn G.all (lsn - 1)).2.1 = (m : Int) ∧ 7 ≤ m ∧ m ≤ G.all.length := fun h0 => by
      obtain ⟨a, ha⟩ : ∃ a : Nat, lsn - 1 = (a : Int) := ⟨(lsn - 1).toNat, by omega⟩
      rw [ha] at h0 ⊢
      obtain ⟨m, m1, m2, m3⟩ := opn_step (by omega) h0
      exact ⟨m, m1, m2, by omega⟩
    generalize opn G.all (lsn - 1) = o at *
    obtain ⟨c, n, e⟩ := o
    dsimp only at O hB hst
    have ew : IntKind.wrap .i64 (lsn - 1) = lsn - 1 := w64 (by omega) (by omega)
    repeat' ((fail_if_success with_reducible refine nph ?_); first | (with_reducible first | (refine d_seq ?_; intro K hK) | (refine hK _ _ ?_; clear hK K) | refine d_blk ?_ | refine d_rt0 ?_ | refine d_sk0 ?_ | refine d_ex0 ?_ | (refine r_nwc ?_; intro b)) | (first | ((with_reducible refine d_cnd ?_); refine And.intro ?_ ?_) | with_reducible refine r_cnd ?_ ?_) <;> intro hc <;> try simp only [push_cast, Int.reduceEq, Int.reduceLT, Int.reduceLE, Int.reduceNe] at hc | with_reducible refine r_rq (by first | decide | omega) ?_ | ((with_reducible first | apply i_lds | apply i_ldsq | apply i_ld | apply i_ldq); exact rfl) | ((with_reducible first | apply i_ldn | apply i_ldnq); exact rfl; exact rfl; exact rfl) | (with_reducible first | refine r_ph0 ?_ | apply i_kp0) | ((with_reducible first | apply i_st | apply i_stl); (focus simp); exact rfl) | ((try with_reducible refine d_reg ?_); simp only [go_sem, Nat.reduceAdd, Nat.reduceEqDiff, Int.reduceToNat, Nat.reduceMul, Nat.reduceSub]) | clear hK K)
    refine i_clp (g83 G sb) ?_
    repeat' (first | rw [ew] | (fail_if_success with_reducible refine nph ?_); first | (with_reducible first | (refine d_seq ?_; intro K hK) | (refine hK _ _ ?_; clear hK K) | refine d_blk ?_ | refine d_rt0 ?_ | refine d_sk0 ?_ | refine d_ex0 ?_ | (refine r_nwc ?_; intro b)) | (first | ((with_reducible refine d_cnd ?_); refine And.intro ?_ ?_) | with_reducible refine r_cnd ?_ ?_) <;> intro hc <;> try simp only [push_cast, Int.reduceEq, Int.reduceLT, Int.reduceLE, Int.reduceNe] at hc | with_reducible refine r_rq (by first | decide | omega) ?_ | ((with_reducible first | apply i_lds | apply i_ldsq | apply i_ld | apply i_ldq); exact rfl) | ((with_reducible first | apply i_ldn | apply i_ldnq); exact rfl; exact rfl; exact rfl) | (with_reducible first | refine r_ph0 ?_ | apply i_kp0) | ((with_reducible first | apply i_st | apply i_stl); (focus simp); exact rfl) | ((try with_reducible refine d_reg ?_); simp only [go_sem, Nat.reduceAdd, Nat.reduceEqDiff, Int.reduceToNat, Nat.reduceMul, Nat.reduceSub]) | clear hK K)
    all_goals try (exfalso; omega)
    all_goals try contradiction
    refine i_cal O ?_
    rintro ⟨⟨k1, k2, k3, k4, k5, k6, k7, k8, k9, k10, k11, k12, k13⟩, y⟩ X ⟨A, rfl, hr, he⟩
    dsimp only at hr he
    subst he
    by_cases e2 : e = 0
    · subst e2
      rw [if_pos rfl] at hB
      obtain ⟨m, rfl, m1, m2⟩ := hst rfl
      have ew2 : IntKind.wrap .i64 (lsn + (m : Int)) = lsn + (m : Int) := w64 (by omega) (by omega)
      repeat' ((fail_if_success with_reducible refine nph ?_); first | (with_reducible first | (refine d_seq ?_; intro K hK) | (refine hK _ _ ?_; clear hK K) | refine d_blk ?_ | refine d_rt0 ?_ | refine d_sk0 ?_ | refine d_ex0 ?_ | (refine r_nwc ?_; intro b)) | (first | ((with_reducible refine d_cnd ?_); refine And.intro ?_ ?_) | with_reducible refine r_cnd ?_ ?_) <;> intro hc <;> try simp only [push_cast, Int.reduceEq, Int.reduceLT, Int.reduceLE, Int.reduceNe] at hc | with_reducible refine r_rq (by first | decide | omega) ?_ | ((with_reducible first | apply i_lds | apply i_ldsq | apply i_ld | apply i_ldq); exact rfl) | ((with_reducible first | apply i_ldn | apply i_ldnq); exact rfl; exact rfl; exact rfl) | (with_reducible first | refine r_ph0 ?_ | apply i_kp0) | ((with_reducible first | apply i_st | apply i_stl); (focus simp); exact rfl) | ((try with_reducible refine d_reg ?_); simp only [go_sem, Nat.reduceAdd, Nat.reduceEqDiff, Int.reduceToNat, Nat.reduceMul, Nat.reduceSub]) | clear hK K)
      all_goals try (first | contradiction | (simp only [ reduceCtorEq] at *; done) | (exfalso; omega))
      rw [ew2]
      refine i_ldn (e := e_api_Rec) (x := ⟨k1, k2, k3, k4, k5, k6, k7, k8, k9, k10, k11, k12, k13⟩) rfl rfl rfl ?_
      repeat' ((fail_if_success with_reducible refine nph ?_); first | (with_reducible first | (refine d_seq ?_; intro K hK) | (refine hK _ _ ?_; clear hK K) | refine d_blk ?_ | refine d_rt0 ?_ | refine d_sk0 ?_ | refine d_ex0 ?_ | (refine r_nwc ?_; intro b)) | (first | ((with_reducible refine d_cnd ?_); refine And.intro ?_ ?_) | with_reducible refine r_cnd ?_ ?_) <;> intro hc <;> try simp only [push_cast, Int.reduceEq, Int.reduceLT, Int.reduceLE, Int.reduceNe] at hc | with_reducible refine r_rq (by first | decide | omega) ?_ | ((with_reducible first | apply i_lds | apply i_ldsq | apply i_ld | apply i_ldq); exact rfl) | ((with_reducible first | apply i_ldn | apply i_ldnq); exact rfl; exact rfl; exact rfl) | (with_reducible first | refine r_ph0 ?_ | apply i_kp0) | ((with_reducible first | apply i_st | apply i_stl); (focus simp); exact rfl) | ((try with_reducible refine d_reg ?_); simp only [go_sem, Nat.reduceAdd, Nat.reduceEqDiff, Int.reduceToNat, Nat.reduceMul, Nat.reduceSub]) | clear hK K)
      refine i_ldn (e := e_api_Rec) (x := ⟨k1, k2, k3, k4, k5, k6, k7, k8, k9, k10, k11, k12, k13⟩) rfl rfl rfl ?_
      exact i_done (e := eT3 e_api_Rec eI eI) (⟨k1, k2, k3, k4, k5, k6, k7, k8, k9, k10, k11, k12, k13⟩, lsn + (m : Int), 0) [A, lgp G sb] rfl ⟨A, rfl, (by rw [← hB]; exact hr), (by rw [← hB])⟩
    · rw [if_neg e2] at hB
      repeat' ((fail_if_success with_reducible refine nph ?_); first | (with_reducible first | (refine d_seq ?_; intro K hK) | (refine hK _ _ ?_; clear hK K) | refine d_blk ?_ | refine d_rt0 ?_ | refine d_sk0 ?_ | refine d_ex0 ?_ | (refine r_nwc ?_; intro b)) | (first | ((with_reducible refine d_cnd ?_); refine And.intro ?_ ?_) | with_reducible refine r_cnd ?_ ?_) <;> intro hc <;> try simp only [push_cast, Int.reduceEq, Int.reduceLT, Int.reduceLE, Int.reduceNe] at hc | with_reducible refine r_rq (by first | decide | omega) ?_ | ((with_reducible first | apply i_lds | apply i_ldsq | apply i_ld | apply i_ldq); exact rfl) | ((with_reducible first | apply i_ldn | apply i_ldnq); exact rfl; exact rfl; exact rfl) | (with_reducible first | refine r_ph0 ?_ | apply i_kp0) | ((with_reducible first | apply i_st | apply i_stl); (focus simp); exact rfl) | ((try with_reducible refine d_reg ?_); simp only [go_sem, Nat.reduceAdd, Nat.reduceEqDiff, Int.reduceToNat, Nat.reduceMul, Nat.reduceSub]) | clear hK K)
      all_goals try (first | contradiction | (simp only [ reduceCtorEq] at *; done) | (exfalso; omega))
      (refine i_ldn (e := e_api_Rec) (x := ⟨0, 0, 0, 0, 0, [], [], [], 0, (none, 0, 0), (none, 0, 0), 0, 0⟩) rfl rfl rfl ?_); exact i_done (e := eT3 e_api_Rec eI eI) (⟨0, 0, 0, 0, 0, [], [], [], 0, (none, 0, 0), (none, 0, 0), 0, 0⟩, 0, e) [A, lgp G sb] rfl ⟨A, rfl, (by rw [← hB]; exact RcAt_z A 0), (by rw [← hB])⟩
def Lg.bound (G : Lg) (lsn : Int) : Bool := decide (1 ≤ lsn ∧ lsn ≤ (G.all.length : Int) + 1) && whole (G.all.take (lsn - 1).toNat) == (lsn - 1).toNat
theorem g32 (G : Lg) (sb : Nat) (hl : G.all.length ≤ 1000000) (lsn : Int) : Fp eB Tryz.prog 32 #[G.p, .int .i64 lsn] [lgp G sb] (G.bound lsn) := fun L => by
  unfold Lg.bound
  refine c32_fn rfl rfl ?_
  by_cases h1 : 1 ≤ lsn
  · by_cases h2 : lsn ≤ (G.all.length : Int) + 1
    · have hlt : (G.all.take (lsn - 1).toNat).length ≤ 1000000 := by rw [List.length_take]; omega
      have W := g69 (G.all.take (lsn - 1).toNat) (by omega)
      have ew : IntKind.wrap .i64 (lsn - 1) = lsn - 1 := w64 (by omega) (by omega)
      have es : ss G.all 0 (lsn - 1) = G.all.take (lsn - 1).toNat := by unfold ss; simp
      have h3 : decide (1 ≤ lsn ∧ lsn ≤ (G.all.length : Int) + 1) = true := decide_eq_true ⟨h1, h2⟩
      rw [h3]
      repeat' ((fail_if_success with_reducible refine nph ?_); first | (with_reducible first | (refine d_seq ?_; intro K hK) | (refine hK _ _ ?_; clear hK K) | refine d_blk ?_ | refine d_rt0 ?_ | refine d_sk0 ?_ | refine d_ex0 ?_ | (refine r_nwc ?_; intro b)) | (first | ((with_reducible refine d_cnd ?_); refine And.intro ?_ ?_) | with_reducible refine r_cnd ?_ ?_) <;> intro hc <;> try simp only [push_cast, Int.reduceEq, Int.reduceLT, Int.reduceLE, Int.reduceNe] at hc | with_reducible refine r_rq (by first | decide | omega) ?_ | ((with_reducible first | apply i_lds | apply i_ldsq | apply i_ld | apply i_ldq); exact rfl) | ((with_reducible first | apply i_ldn | apply i_ldnq); exact rfl; exact rfl; exact rfl) | (with_reducible first | refine r_ph0 ?_ | apply i_kp0) | ((with_reducible first | apply i_st | apply i_stl); (focus simp); exact rfl) | ((try with_reducible refine d_reg ?_); simp only [go_sem, Nat.reduceAdd, Nat.reduceEqDiff, Int.reduceToNat, Nat.reduceMul, Nat.reduceSub]) | clear hK K)
      refine i_clp (g83 G sb) ?_
      repeat' ((fail_if_success with_reducible refine nph ?_); first | (with_reducible first | (refine d_seq ?_; intro K hK) | (refine hK _ _ ?_; clear hK K) | refine d_blk ?_ | refine d_rt0 ?_ | refine d_sk0 ?_ | refine d_ex0 ?_ | (refine r_nwc ?_; intro b)) | (first | ((with_reducible refine d_cnd ?_); refine And.intro ?_ ?_) | with_reducible refine r_cnd ?_ ?_) <;> intro hc <;> try simp only [push_cast, Int.reduceEq, Int.reduceLT, Int.reduceLE, Int.reduceNe] at hc | with_reducible refine r_rq (by first | decide | omega) ?_ | ((with_reducible first | apply i_lds | apply i_ldsq | apply i_ld | apply i_ldq); exact rfl) | ((with_reducible first | apply i_ldn | apply i_ldnq); exact rfl; exact rfl; exact rfl) | (with_reducible first | refine r_ph0 ?_ | apply i_kp0) | ((with_reducible first | apply i_st | apply i_stl); (focus simp); exact rfl) | ((try with_reducible refine d_reg ?_); simp only [go_sem, Nat.reduceAdd, Nat.reduceEqDiff, Int.reduceToNat, Nat.reduceMul, Nat.reduceSub]) | clear hK K)
      all_goals try (exfalso; omega)
      all_goals try contradiction
      refine i_clp (g28 G sb hl) ?_
      repeat' (first | rw [ew] | rw [es] | (fail_if_success with_reducible refine nph ?_); first | (with_reducible first | (refine d_seq ?_; intro K hK) | (refine hK _ _ ?_; clear hK K) | refine d_blk ?_ | refine d_rt0 ?_ | refine d_sk0 ?_ | refine d_ex0 ?_ | (refine r_nwc ?_; intro b)) | (first | ((with_reducible refine d_cnd ?_); refine And.intro ?_ ?_) | with_reducible refine r_cnd ?_ ?_) <;> intro hc <;> try simp only [push_cast, Int.reduceEq, Int.reduceLT, Int.reduceLE, Int.reduceNe] at hc | with_reducible refine r_rq (by first | decide | omega) ?_ | ((with_reducible first | apply i_lds | apply i_ldsq | apply i_ld | apply i_ldq); exact rfl) | ((with_reducible first | apply i_ldn | apply i_ldnq); exact rfl; exact rfl; exact rfl) | (with_reducible first | refine r_ph0 ?_ | apply i_kp0) | ((with_reducible first | apply i_st | apply i_stl); (focus simp); exact rfl) | ((try with_reducible refine d_reg ?_); simp only [go_sem, Nat.reduceAdd, Nat.reduceEqDiff, Int.reduceToNat, Nat.reduceMul, Nat.reduceSub]) | clear hK K)
      all_goals try (exfalso; omega)
      refine i_clp W ?_
      repeat' (first | rw [ew] | (fail_if_success with_reducible refine nph ?_); first | (with_reducible first | (refine d_seq ?_; intro K hK) | (refine hK _ _ ?_; clear hK K) | refine d_blk ?_ | refine d_rt0 ?_ | refine d_sk0 ?_ | refine d_ex0 ?_ | (refine r_nwc ?_; intro b)) | (first | ((with_reducible refine d_cnd ?_); refine And.intro ?_ ?_) | with_reducible refine r_cnd ?_ ?_) <;> intro hc <;> try simp only [push_cast, Int.reduceEq, Int.reduceLT, Int.reduceLE, Int.reduceNe] at hc | with_reducible refine r_rq (by first | decide | omega) ?_ | ((with_reducible first | apply i_lds | apply i_ldsq | apply i_ld | apply i_ldq); exact rfl) | ((with_reducible first | apply i_ldn | apply i_ldnq); exact rfl; exact rfl; exact rfl) | (with_reducible first | refine r_ph0 ?_ | apply i_kp0) | ((with_reducible first | apply i_st | apply i_stl); (focus simp); exact rfl) | ((try with_reducible refine d_reg ?_); simp only [go_sem, Nat.reduceAdd, Nat.reduceEqDiff, Int.reduceToNat, Nat.reduceMul, Nat.reduceSub]) | clear hK K)
      (with_reducible first | apply i_ret0 | apply i_ret2 | apply i_ret3 | apply i_ret); exact rfl
      show ((whole (G.all.take (lsn - 1).toNat) : Int) == (lsn - 1)) = (true && (whole (G.all.take (lsn - 1).toNat) == (lsn - 1).toNat))
      rw [Bool.true_and, Bool.eq_iff_iff, beq_iff_eq, beq_iff_eq]
      omega
    · have h3 : decide (1 ≤ lsn ∧ lsn ≤ (G.all.length : Int) + 1) = false := decide_eq_false (by omega)
      rw [h3]
      repeat' ((fail_if_success with_reducible refine nph ?_); first | (with_reducible first | (refine d_seq ?_; intro K hK) | (refine hK _ _ ?_; clear hK K) | refine d_blk ?_ | refine d_rt0 ?_ | refine d_sk0 ?_ | refine d_ex0 ?_ | (refine r_nwc ?_; intro b)) | (first | ((with_reducible refine d_cnd ?_); refine And.intro ?_ ?_) | with_reducible refine r_cnd ?_ ?_) <;> intro hc <;> try simp only [push_cast, Int.reduceEq, Int.reduceLT, Int.reduceLE, Int.reduceNe] at hc | with_reducible refine r_rq (by first | decide | omega) ?_ | ((with_reducible first | apply i_lds | apply i_ldsq | apply i_ld | apply i_ldq); exact rfl) | ((with_reducible first | apply i_ldn | apply i_ldnq); exact rfl; exact rfl; exact rfl) | (with_reducible first | refine r_ph0 ?_ | apply i_kp0) | ((with_reducible first | apply i_st | apply i_stl); (focus simp); exact rfl) | ((try with_reducible refine d_reg ?_); simp only [go_sem, Nat.reduceAdd, Nat.reduceEqDiff, Int.reduceToNat, Nat.reduceMul, Nat.reduceSub]) | clear hK K)
      refine i_clp (g83 G sb) ?_
      repeat' ((fail_if_success with_reducible refine nph ?_); first | (with_reducible first | (refine d_seq ?_; intro K hK) | (refine hK _ _ ?_; clear hK K) | refine d_blk ?_ | refine d_rt0 ?_ | refine d_sk0 ?_ | refine d_ex0 ?_ | (refine r_nwc ?_; intro b)) | (first | ((with_reducible refine d_cnd ?_); refine And.intro ?_ ?_) | with_reducible refine r_cnd ?_ ?_) <;> intro hc <;> try simp only [push_cast, Int.reduceEq, Int.reduceLT, Int.reduceLE, Int.reduceNe] at hc | with_reducible refine r_rq (by first | decide | omega) ?_ | ((with_reducible first | apply i_lds | apply i_ldsq | apply i_ld | apply i_ldq); exact rfl) | ((with_reducible first | apply i_ldn | apply i_ldnq); exact rfl; exact rfl; exact rfl) | (with_reducible first | refine r_ph0 ?_ | apply i_kp0) | ((with_reducible first | apply i_st | apply i_stl); (focus simp); exact rfl) | ((try with_reducible refine d_reg ?_); simp only [go_sem, Nat.reduceAdd, Nat.reduceEqDiff, Int.reduceToNat, Nat.reduceMul, Nat.reduceSub]) | clear hK K)
      all_goals try (exfalso; omega)
      all_goals try contradiction
      refine i_clp (g28 G sb hl) ?_
      repeat' ((fail_if_success with_reducible refine nph ?_); first | (with_reducible first | (refine d_seq ?_; intro K hK) | (refine hK _ _ ?_; clear hK K) | refine d_blk ?_ | refine d_rt0 ?_ | refine d_sk0 ?_ | refine d_ex0 ?_ | (refine r_nwc ?_; intro b)) | (first | ((with_reducible refine d_cnd ?_); refine And.intro ?_ ?_) | with_reducible refine r_cnd ?_ ?_) <;> intro hc <;> try simp only [push_cast, Int.reduceEq, Int.reduceLT, Int.reduceLE, Int.reduceNe] at hc | with_reducible refine r_rq (by first | decide | omega) ?_ | ((with_reducible first | apply i_lds | apply i_ldsq | apply i_ld | apply i_ldq); exact rfl) | ((with_reducible first | apply i_ldn | apply i_ldnq); exact rfl; exact rfl; exact rfl) | (with_reducible first | refine r_ph0 ?_ | apply i_kp0) | ((with_reducible first | apply i_st | apply i_stl); (focus simp); exact rfl) | ((try with_reducible refine d_reg ?_); simp only [go_sem, Nat.reduceAdd, Nat.reduceEqDiff, Int.reduceToNat, Nat.reduceMul, Nat.reduceSub]) | clear hK K)
      all_goals try (exfalso; omega)
      (with_reducible first | apply i_ret0 | apply i_ret2 | apply i_ret3 | apply i_ret); exact rfl
      rfl
  · have h3 : decide (1 ≤ lsn ∧ lsn ≤ (G.all.length : Int) + 1) = false := decide_eq_false (by omega)
    rw [h3]
    repeat' ((fail_if_success with_reducible refine nph ?_); first | (with_reducible first | (refine d_seq ?_; intro K hK) | (refine hK _ _ ?_; clear hK K) | refine d_blk ?_ | refine d_rt0 ?_ | refine d_sk0 ?_ | refine d_ex0 ?_ | (refine r_nwc ?_; intro b)) | (first | ((with_reducible refine d_cnd ?_); refine And.intro ?_ ?_) | with_reducible refine r_cnd ?_ ?_) <;> intro hc <;> try simp only [push_cast, Int.reduceEq, Int.reduceLT, Int.reduceLE, Int.reduceNe] at hc | with_reducible refine r_rq (by first | decide | omega) ?_ | ((with_reducible first | apply i_lds | apply i_ldsq | apply i_ld | apply i_ldq); exact rfl) | ((with_reducible first | apply i_ldn | apply i_ldnq); exact rfl; exact rfl; exact rfl) | (with_reducible first | refine r_ph0 ?_ | apply i_kp0) | ((with_reducible first | apply i_st | apply i_stl); (focus simp); exact rfl) | ((try with_reducible refine d_reg ?_); simp only [go_sem, Nat.reduceAdd, Nat.reduceEqDiff, Int.reduceToNat, Nat.reduceMul, Nat.reduceSub]) | clear hK K)
    refine i_clp (g83 G sb) ?_
    repeat' ((fail_if_success with_reducible refine nph ?_); first | (with_reducible first | (refine d_seq ?_; intro K hK) | (refine hK _ _ ?_; clear hK K) | refine d_blk ?_ | refine d_rt0 ?_ | refine d_sk0 ?_ | refine d_ex0 ?_ | (refine r_nwc ?_; intro b)) | (first | ((with_reducible refine d_cnd ?_); refine And.intro ?_ ?_) | with_reducible refine r_cnd ?_ ?_) <;> intro hc <;> try simp only [push_cast, Int.reduceEq, Int.reduceLT, Int.reduceLE, Int.reduceNe] at hc | with_reducible refine r_rq (by first | decide | omega) ?_ | ((with_reducible first | apply i_lds | apply i_ldsq | apply i_ld | apply i_ldq); exact rfl) | ((with_reducible first | apply i_ldn | apply i_ldnq); exact rfl; exact rfl; exact rfl) | (with_reducible first | refine r_ph0 ?_ | apply i_kp0) | ((with_reducible first | apply i_st | apply i_stl); (focus simp); exact rfl) | ((try with_reducible refine d_reg ?_); simp only [go_sem, Nat.reduceAdd, Nat.reduceEqDiff, Int.reduceToNat, Nat.reduceMul, Nat.reduceSub]) | clear hK K)
    all_goals try (exfalso; omega)
    all_goals try contradiction
    (with_reducible first | apply i_ret0 | apply i_ret2 | apply i_ret3 | apply i_ret); exact rfl
    rfl
end Go.Sp
/- The log: Cut. -/
namespace Go.Sp
open Go Go.Proofs
set_option linter.unusedSimpArgs false
set_option linter.unusedVariables false
set_option maxRecDepth 10000
def Lg.cutl (G : Lg) (lsn run : Int) : Lg := { G with all := G.all.take (lsn - 1).toNat, run := run.toNat, durable := min G.durable (G.all.take (lsn - 1).toNat).length }
def Dk.lcut1 (Z : Dk) (G : Lg) : Lr :=
  if G.durable < G.all.length then (if (Z.lflush G).1 = 0 then (Z.lflush G).2.1.lmend (Z.lflush G).2.2 else Z.lflush G) else Z.lmend G
def Dk.lcut (Z : Dk) (G : Lg) (lsn run : Int) : Lr :=
  if G.dead then (9, Z, G) else if run ≤ (G.run : Int) ∨ 4294967296 ≤ run then (1, Z, G) else if lsn < 1 ∨ (G.all.length : Int) + 1 < lsn then (6, Z, G) else if G.bound lsn = false then (4, Z, G) else Z.lcut1 (G.cutl lsn run)
theorem lflush_ok {Z : Dk} (h : Z.ok) {G : Lg} (hG : G.ok Z.sure.length) : (Z.lflush G).2.1.ok ∧ (Z.lflush G).2.1.sb = Z.sb ∧ (Z.lflush G).2.1.sure.length = Z.sure.length ∧ (Z.lflush G).2.2.ok Z.sure.length ∧ (Z.lflush G).2.2.q = G.q := by
  have hdn : ∀ e, (G.down e).ok Z.sure.length ∧ (G.down e).q = G.q := fun e => by
    unfold Lg.down
    split
    · exact ⟨hG, rfl⟩
    · exact ⟨⟨hG.s1, hG.fit, hG.n1, hG.r1, hG.r2, hG.du, hG.le⟩, rfl⟩
  obtain ⟨a1, a2, a3⟩ := lws_ok G (G.sectors + 1) (G.durable / 58) h
  unfold Dk.lflush
  split
  · exact ⟨h, rfl, rfl, hG, rfl⟩
  · split
    · exact ⟨h, rfl, rfl, hG, rfl⟩
    · dsimp only
      split
      · split
        · exact ⟨Dk.sync_ok a1, (Dk.sync_sb _).trans a2, (Dk.sync_n _).trans a3, ⟨hG.s1, hG.fit, hG.n1, hG.r1, hG.r2, Nat.le_refl _, hG.le⟩, rfl⟩
        · exact ⟨Dk.sync_ok a1, (Dk.sync_sb _).trans a2, (Dk.sync_n _).trans a3, (hdn _).1, (hdn _).2⟩
      · exact ⟨a1, a2, a3, (hdn _).1, (hdn _).2⟩
theorem cutl_ok {G : Lg} {n : Nat} (hG : G.ok n) {lsn run : Int} (h1 : (G.run : Int) < run) (h2 : run < 4294967296) : (G.cutl lsn run).ok n := by
  have := hG.le
  have := hG.r1
  refine ⟨hG.s1, hG.fit, hG.n1, ?_, ?_, ?_, ?_⟩
  · show 1 ≤ run.toNat; omega
  · show run.toNat < 4294967296; omega
  · show min G.durable (G.all.take (lsn - 1).toNat).length ≤ (G.all.take (lsn - 1).toNat).length; omega
  · show (G.all.take (lsn - 1).toNat).length ≤ 58 * G.sectors
    rw [List.length_take]; omega
set_option maxHeartbeats 1000000 in
theorem g33 (G : Lg) (Z : Dk) (h : Z.ok) (hG : G.ok Z.sure.length) (lsn run : Int) : Fq eI Tryz.prog 33 #[G.p, .int .i64 lsn, .int .i64 run] [lgp G Z.sb, dk Z] [lgp (Z.lcut G lsn run).2.2 Z.sb, dk (Z.lcut G lsn run).2.1] (Z.lcut G lsn run).1 := fun L => by
  have hdu := hG.du
  have hle := hG.le
  have hfit := hG.fit
  have hn1 := hG.n1
  have O := g75 G Z.sb
  have D := g28 G Z.sb (by omega)
  have Bd := g32 G Z.sb (by omega) lsn
  unfold Lg.off at O
  generalize hR : Z.lcut G lsn run = R
  unfold Dk.lcut at hR
  refine c33_fn rfl rfl ?_
  by_cases hd : G.dead = true
  · rw [if_pos hd] at O hR
    subst hR
    repeat' ((fail_if_success with_reducible refine nph ?_); first | (with_reducible first | (refine d_seq ?_; intro K hK) | (refine hK _ _ ?_; clear hK K) | refine d_blk ?_ | refine d_rt0 ?_ | refine d_sk0 ?_ | refine d_ex0 ?_ | (refine r_nwc ?_; intro b)) | (first | ((with_reducible refine d_cnd ?_); refine And.intro ?_ ?_) | with_reducible refine r_cnd ?_ ?_) <;> intro hc <;> try simp only [push_cast, Int.reduceEq, Int.reduceLT, Int.reduceLE, Int.reduceNe] at hc | with_reducible refine r_rq (by first | decide | omega) ?_ | ((with_reducible first | apply i_lds | apply i_ldsq | apply i_ld | apply i_ldq); exact rfl) | ((with_reducible first | apply i_ldn | apply i_ldnq); exact rfl; exact rfl; exact rfl) | (with_reducible first | refine r_ph0 ?_ | apply i_kp0) | ((with_reducible first | apply i_st | apply i_stl); (focus simp); exact rfl) | ((try with_reducible refine d_reg ?_); simp only [go_sem, Nat.reduceAdd, Nat.reduceEqDiff, Int.reduceToNat, Nat.reduceMul, Nat.reduceSub]) | clear hK K)
    refine i_clp O ?_
    repeat' ((fail_if_success with_reducible refine nph ?_); first | (with_reducible first | (refine d_seq ?_; intro K hK) | (refine hK _ _ ?_; clear hK K) | refine d_blk ?_ | refine d_rt0 ?_ | refine d_sk0 ?_ | refine d_ex0 ?_ | (refine r_nwc ?_; intro b)) | (first | ((with_reducible refine d_cnd ?_); refine And.intro ?_ ?_) | with_reducible refine r_cnd ?_ ?_) <;> intro hc <;> try simp only [push_cast, Int.reduceEq, Int.reduceLT, Int.reduceLE, Int.reduceNe] at hc | with_reducible refine r_rq (by first | decide | omega) ?_ | ((with_reducible first | apply i_lds | apply i_ldsq | apply i_ld | apply i_ldq); exact rfl) | ((with_reducible first | apply i_ldn | apply i_ldnq); exact rfl; exact rfl; exact rfl) | (with_reducible first | refine r_ph0 ?_ | apply i_kp0) | ((with_reducible first | apply i_st | apply i_stl); (focus simp); exact rfl) | ((try with_reducible refine d_reg ?_); simp only [go_sem, Nat.reduceAdd, Nat.reduceEqDiff, Int.reduceToNat, Nat.reduceMul, Nat.reduceSub]) | clear hK K)
    all_goals try (first | contradiction | (simp only [ reduceCtorEq] at *; done) | (exfalso; omega))
    (with_reducible first | apply i_ret0 | apply i_ret2 | apply i_ret3 | apply i_ret); exact rfl
    rfl
  rw [if_neg hd] at O hR
  by_cases hq : run ≤ (G.run : Int) ∨ 4294967296 ≤ run
  · rw [if_pos hq] at hR
    subst hR
    repeat' ((fail_if_success with_reducible refine nph ?_); first | (with_reducible first | (refine d_seq ?_; intro K hK) | (refine hK _ _ ?_; clear hK K) | refine d_blk ?_ | refine d_rt0 ?_ | refine d_sk0 ?_ | refine d_ex0 ?_ | (refine r_nwc ?_; intro b)) | (first | ((with_reducible refine d_cnd ?_); refine And.intro ?_ ?_) | with_reducible refine r_cnd ?_ ?_) <;> intro hc <;> try simp only [push_cast, Int.reduceEq, Int.reduceLT, Int.reduceLE, Int.reduceNe] at hc | with_reducible refine r_rq (by first | decide | omega) ?_ | ((with_reducible first | apply i_lds | apply i_ldsq | apply i_ld | apply i_ldq); exact rfl) | ((with_reducible first | apply i_ldn | apply i_ldnq); exact rfl; exact rfl; exact rfl) | (with_reducible first | refine r_ph0 ?_ | apply i_kp0) | ((with_reducible first | apply i_st | apply i_stl); (focus simp); exact rfl) | ((try with_reducible refine d_reg ?_); simp only [go_sem, Nat.reduceAdd, Nat.reduceEqDiff, Int.reduceToNat, Nat.reduceMul, Nat.reduceSub]) | clear hK K)
    refine i_clp O ?_
    repeat' ((fail_if_success with_reducible refine nph ?_); first | (with_reducible first | (refine d_seq ?_; intro K hK) | (refine hK _ _ ?_; clear hK K) | refine d_blk ?_ | refine d_rt0 ?_ | refine d_sk0 ?_ | refine d_ex0 ?_ | (refine r_nwc ?_; intro b)) | (first | ((with_reducible refine d_cnd ?_); refine And.intro ?_ ?_) | with_reducible refine r_cnd ?_ ?_) <;> intro hc <;> try simp only [push_cast, Int.reduceEq, Int.reduceLT, Int.reduceLE, Int.reduceNe] at hc | with_reducible refine r_rq (by first | decide | omega) ?_ | ((with_reducible first | apply i_lds | apply i_ldsq | apply i_ld | apply i_ldq); exact rfl) | ((with_reducible first | apply i_ldn | apply i_ldnq); exact rfl; exact rfl; exact rfl) | (with_reducible first | refine r_ph0 ?_ | apply i_kp0) | ((with_reducible first | apply i_st | apply i_stl); (focus simp); exact rfl) | ((try with_reducible refine d_reg ?_); simp only [go_sem, Nat.reduceAdd, Nat.reduceEqDiff, Int.reduceToNat, Nat.reduceMul, Nat.reduceSub]) | clear hK K)
    all_goals try (exfalso; omega)
    all_goals try contradiction
    all_goals ((with_reducible first | apply i_ret0 | apply i_ret2 | apply i_ret3 | apply i_ret); exact rfl; rfl)
  rw [if_neg hq] at hR
  by_cases hl : lsn < 1 ∨ (G.all.length : Int) + 1 < lsn
  · rw [if_pos hl] at hR
    subst hR
    repeat' ((fail_if_success with_reducible refine nph ?_); first | (with_reducible first | (refine d_seq ?_; intro K hK) | (refine hK _ _ ?_; clear hK K) | refine d_blk ?_ | refine d_rt0 ?_ | refine d_sk0 ?_ | refine d_ex0 ?_ | (refine r_nwc ?_; intro b)) | (first | ((with_reducible refine d_cnd ?_); refine And.intro ?_ ?_) | with_reducible refine r_cnd ?_ ?_) <;> intro hc <;> try simp only [push_cast, Int.reduceEq, Int.reduceLT, Int.reduceLE, Int.reduceNe] at hc | with_reducible refine r_rq (by first | decide | omega) ?_ | ((with_reducible first | apply i_lds | apply i_ldsq | apply i_ld | apply i_ldq); exact rfl) | ((with_reducible first | apply i_ldn | apply i_ldnq); exact rfl; exact rfl; exact rfl) | (with_reducible first | refine r_ph0 ?_ | apply i_kp0) | ((with_reducible first | apply i_st | apply i_stl); (focus simp); exact rfl) | ((try with_reducible refine d_reg ?_); simp only [go_sem, Nat.reduceAdd, Nat.reduceEqDiff, Int.reduceToNat, Nat.reduceMul, Nat.reduceSub]) | clear hK K)
    refine i_clp O ?_
    repeat' ((fail_if_success with_reducible refine nph ?_); first | (with_reducible first | (refine d_seq ?_; intro K hK) | (refine hK _ _ ?_; clear hK K) | refine d_blk ?_ | refine d_rt0 ?_ | refine d_sk0 ?_ | refine d_ex0 ?_ | (refine r_nwc ?_; intro b)) | (first | ((with_reducible refine d_cnd ?_); refine And.intro ?_ ?_) | with_reducible refine r_cnd ?_ ?_) <;> intro hc <;> try simp only [push_cast, Int.reduceEq, Int.reduceLT, Int.reduceLE, Int.reduceNe] at hc | with_reducible refine r_rq (by first | decide | omega) ?_ | ((with_reducible first | apply i_lds | apply i_ldsq | apply i_ld | apply i_ldq); exact rfl) | ((with_reducible first | apply i_ldn | apply i_ldnq); exact rfl; exact rfl; exact rfl) | (with_reducible first | refine r_ph0 ?_ | apply i_kp0) | ((with_reducible first | apply i_st | apply i_stl); (focus simp); exact rfl) | ((try with_reducible refine d_reg ?_); simp only [go_sem, Nat.reduceAdd, Nat.reduceEqDiff, Int.reduceToNat, Nat.reduceMul, Nat.reduceSub]) | clear hK K)
    all_goals try (exfalso; omega)
    all_goals try contradiction
    · (with_reducible first | apply i_ret0 | apply i_ret2 | apply i_ret3 | apply i_ret); exact rfl
      rfl
    · refine i_clp D ?_
      repeat' ((fail_if_success with_reducible refine nph ?_); first | (with_reducible first | (refine d_seq ?_; intro K hK) | (refine hK _ _ ?_; clear hK K) | refine d_blk ?_ | refine d_rt0 ?_ | refine d_sk0 ?_ | refine d_ex0 ?_ | (refine r_nwc ?_; intro b)) | (first | ((with_reducible refine d_cnd ?_); refine And.intro ?_ ?_) | with_reducible refine r_cnd ?_ ?_) <;> intro hc <;> try simp only [push_cast, Int.reduceEq, Int.reduceLT, Int.reduceLE, Int.reduceNe] at hc | with_reducible refine r_rq (by first | decide | omega) ?_ | ((with_reducible first | apply i_lds | apply i_ldsq | apply i_ld | apply i_ldq); exact rfl) | ((with_reducible first | apply i_ldn | apply i_ldnq); exact rfl; exact rfl; exact rfl) | (with_reducible first | refine r_ph0 ?_ | apply i_kp0) | ((with_reducible first | apply i_st | apply i_stl); (focus simp); exact rfl) | ((try with_reducible refine d_reg ?_); simp only [go_sem, Nat.reduceAdd, Nat.reduceEqDiff, Int.reduceToNat, Nat.reduceMul, Nat.reduceSub]) | clear hK K)
      all_goals try (exfalso; omega)
      (with_reducible first | apply i_ret0 | apply i_ret2 | apply i_ret3 | apply i_ret); exact rfl
      rfl
  rw [if_neg hl] at hR
  cases hbd : G.bound lsn
  · rw [hbd] at hR Bd
    rw [if_pos rfl] at hR
    subst hR
    repeat' ((fail_if_success with_reducible refine nph ?_); first | (with_reducible first | (refine d_seq ?_; intro K hK) | (refine hK _ _ ?_; clear hK K) | refine d_blk ?_ | refine d_rt0 ?_ | refine d_sk0 ?_ | refine d_ex0 ?_ | (refine r_nwc ?_; intro b)) | (first | ((with_reducible refine d_cnd ?_); refine And.intro ?_ ?_) | with_reducible refine r_cnd ?_ ?_) <;> intro hc <;> try simp only [push_cast, Int.reduceEq, Int.reduceLT, Int.reduceLE, Int.reduceNe] at hc | with_reducible refine r_rq (by first | decide | omega) ?_ | ((with_reducible first | apply i_lds | apply i_ldsq | apply i_ld | apply i_ldq); exact rfl) | ((with_reducible first | apply i_ldn | apply i_ldnq); exact rfl; exact rfl; exact rfl) | (with_reducible first | refine r_ph0 ?_ | apply i_kp0) | ((with_reducible first | apply i_st | apply i_stl); (focus simp); exact rfl) | ((try with_reducible refine d_reg ?_); simp only [go_sem, Nat.reduceAdd, Nat.reduceEqDiff, Int.reduceToNat, Nat.reduceMul, Nat.reduceSub]) | clear hK K)
    refine i_clp O ?_
    repeat' ((fail_if_success with_reducible refine nph ?_); first | (with_reducible first | (refine d_seq ?_; intro K hK) | (refine hK _ _ ?_; clear hK K) | refine d_blk ?_ | refine d_rt0 ?_ | refine d_sk0 ?_ | refine d_ex0 ?_ | (refine r_nwc ?_; intro b)) | (first | ((with_reducible refine d_cnd ?_); refine And.intro ?_ ?_) | with_reducible refine r_cnd ?_ ?_) <;> intro hc <;> try simp only [push_cast, Int.reduceEq, Int.reduceLT, Int.reduceLE, Int.reduceNe] at hc | with_reducible refine r_rq (by first | decide | omega) ?_ | ((with_reducible first | apply i_lds | apply i_ldsq | apply i_ld | apply i_ldq); exact rfl) | ((with_reducible first | apply i_ldn | apply i_ldnq); exact rfl; exact rfl; exact rfl) | (with_reducible first | refine r_ph0 ?_ | apply i_kp0) | ((with_reducible first | apply i_st | apply i_stl); (focus simp); exact rfl) | ((try with_reducible refine d_reg ?_); simp only [go_sem, Nat.reduceAdd, Nat.reduceEqDiff, Int.reduceToNat, Nat.reduceMul, Nat.reduceSub]) | clear hK K)
    all_goals try (exfalso; omega)
    all_goals try contradiction
    refine i_clp D ?_
    repeat' ((fail_if_success with_reducible refine nph ?_); first | (with_reducible first | (refine d_seq ?_; intro K hK) | (refine hK _ _ ?_; clear hK K) | refine d_blk ?_ | refine d_rt0 ?_ | refine d_sk0 ?_ | refine d_ex0 ?_ | (refine r_nwc ?_; intro b)) | (first | ((with_reducible refine d_cnd ?_); refine And.intro ?_ ?_) | with_reducible refine r_cnd ?_ ?_) <;> intro hc <;> try simp only [push_cast, Int.reduceEq, Int.reduceLT, Int.reduceLE, Int.reduceNe] at hc | with_reducible refine r_rq (by first | decide | omega) ?_ | ((with_reducible first | apply i_lds | apply i_ldsq | apply i_ld | apply i_ldq); exact rfl) | ((with_reducible first | apply i_ldn | apply i_ldnq); exact rfl; exact rfl; exact rfl) | (with_reducible first | refine r_ph0 ?_ | apply i_kp0) | ((with_reducible first | apply i_st | apply i_stl); (focus simp); exact rfl) | ((try with_reducible refine d_reg ?_); simp only [go_sem, Nat.reduceAdd, Nat.reduceEqDiff, Int.reduceToNat, Nat.reduceMul, Nat.reduceSub]) | clear hK K)
    all_goals try (exfalso; omega)
    refine i_clp Bd ?_
    repeat' ((fail_if_success with_reducible refine nph ?_); first | (with_reducible first | (refine d_seq ?_; intro K hK) | (refine hK _ _ ?_; clear hK K) | refine d_blk ?_ | refine d_rt0 ?_ | refine d_sk0 ?_ | refine d_ex0 ?_ | (refine r_nwc ?_; intro b)) | (first | ((with_reducible refine d_cnd ?_); refine And.intro ?_ ?_) | with_reducible refine r_cnd ?_ ?_) <;> intro hc <;> try simp only [push_cast, Int.reduceEq, Int.reduceLT, Int.reduceLE, Int.reduceNe] at hc | with_reducible refine r_rq (by first | decide | omega) ?_ | ((with_reducible first | apply i_lds | apply i_ldsq | apply i_ld | apply i_ldq); exact rfl) | ((with_reducible first | apply i_ldn | apply i_ldnq); exact rfl; exact rfl; exact rfl) | (with_reducible first | refine r_ph0 ?_ | apply i_kp0) | ((with_reducible first | apply i_st | apply i_stl); (focus simp); exact rfl) | ((try with_reducible refine d_reg ?_); simp only [go_sem, Nat.reduceAdd, Nat.reduceEqDiff, Int.reduceToNat, Nat.reduceMul, Nat.reduceSub]) | clear hK K)
    all_goals try (first | contradiction | (simp only [ reduceCtorEq] at *; done) | (exfalso; omega))
    (with_reducible first | apply i_ret0 | apply i_ret2 | apply i_ret3 | apply i_ret); exact rfl
    rfl
  · rw [hbd] at hR Bd
    rw [if_neg (by decide)] at hR
    have ew : IntKind.wrap .i64 (lsn - 1) = lsn - 1 := w64 (by omega) (by omega)
    have es : ss G.all 0 (lsn - 1) = G.all.take (lsn - 1).toNat := by unfold ss; simp
    have hok := cutl_ok hG (lsn := lsn) (run := run) (by omega) (by omega)
    have er : (run.toNat : Int) = run := by omega
    repeat' ((fail_if_success with_reducible refine nph ?_); first | (with_reducible first | (refine d_seq ?_; intro K hK) | (refine hK _ _ ?_; clear hK K) | refine d_blk ?_ | refine d_rt0 ?_ | refine d_sk0 ?_ | refine d_ex0 ?_ | (refine r_nwc ?_; intro b)) | (first | ((with_reducible refine d_cnd ?_); refine And.intro ?_ ?_) | with_reducible refine r_cnd ?_ ?_) <;> intro hc <;> try simp only [push_cast, Int.reduceEq, Int.reduceLT, Int.reduceLE, Int.reduceNe] at hc | with_reducible refine r_rq (by first | decide | omega) ?_ | ((with_reducible first | apply i_lds | apply i_ldsq | apply i_ld | apply i_ldq); exact rfl) | ((with_reducible first | apply i_ldn | apply i_ldnq); exact rfl; exact rfl; exact rfl) | (with_reducible first | refine r_ph0 ?_ | apply i_kp0) | ((with_reducible first | apply i_st | apply i_stl); (focus simp); exact rfl) | ((try with_reducible refine d_reg ?_); simp only [go_sem, Nat.reduceAdd, Nat.reduceEqDiff, Int.reduceToNat, Nat.reduceMul, Nat.reduceSub]) | clear hK K)
    refine i_clp O ?_
    repeat' ((fail_if_success with_reducible refine nph ?_); first | (with_reducible first | (refine d_seq ?_; intro K hK) | (refine hK _ _ ?_; clear hK K) | refine d_blk ?_ | refine d_rt0 ?_ | refine d_sk0 ?_ | refine d_ex0 ?_ | (refine r_nwc ?_; intro b)) | (first | ((with_reducible refine d_cnd ?_); refine And.intro ?_ ?_) | with_reducible refine r_cnd ?_ ?_) <;> intro hc <;> try simp only [push_cast, Int.reduceEq, Int.reduceLT, Int.reduceLE, Int.reduceNe] at hc | with_reducible refine r_rq (by first | decide | omega) ?_ | ((with_reducible first | apply i_lds | apply i_ldsq | apply i_ld | apply i_ldq); exact rfl) | ((with_reducible first | apply i_ldn | apply i_ldnq); exact rfl; exact rfl; exact rfl) | (with_reducible first | refine r_ph0 ?_ | apply i_kp0) | ((with_reducible first | apply i_st | apply i_stl); (focus simp); exact rfl) | ((try with_reducible refine d_reg ?_); simp only [go_sem, Nat.reduceAdd, Nat.reduceEqDiff, Int.reduceToNat, Nat.reduceMul, Nat.reduceSub]) | clear hK K)
    all_goals try (exfalso; omega)
    all_goals try contradiction
    refine i_clp D ?_
    repeat' ((fail_if_success with_reducible refine nph ?_); first | (with_reducible first | (refine d_seq ?_; intro K hK) | (refine hK _ _ ?_; clear hK K) | refine d_blk ?_ | refine d_rt0 ?_ | refine d_sk0 ?_ | refine d_ex0 ?_ | (refine r_nwc ?_; intro b)) | (first | ((with_reducible refine d_cnd ?_); refine And.intro ?_ ?_) | with_reducible refine r_cnd ?_ ?_) <;> intro hc <;> try simp only [push_cast, Int.reduceEq, Int.reduceLT, Int.reduceLE, Int.reduceNe] at hc | with_reducible refine r_rq (by first | decide | omega) ?_ | ((with_reducible first | apply i_lds | apply i_ldsq | apply i_ld | apply i_ldq); exact rfl) | ((with_reducible first | apply i_ldn | apply i_ldnq); exact rfl; exact rfl; exact rfl) | (with_reducible first | refine r_ph0 ?_ | apply i_kp0) | ((with_reducible first | apply i_st | apply i_stl); (focus simp); exact rfl) | ((try with_reducible refine d_reg ?_); simp only [go_sem, Nat.reduceAdd, Nat.reduceEqDiff, Int.reduceToNat, Nat.reduceMul, Nat.reduceSub]) | clear hK K)
    all_goals try (exfalso; omega)
    refine i_clp Bd ?_
    repeat' (first | rw [ew] | rw [es] | (fail_if_success with_reducible refine nph ?_); first | (with_reducible first | (refine d_seq ?_; intro K hK) | (refine hK _ _ ?_; clear hK K) | refine d_blk ?_ | refine d_rt0 ?_ | refine d_sk0 ?_ | refine d_ex0 ?_ | (refine r_nwc ?_; intro b)) | (first | ((with_reducible refine d_cnd ?_); refine And.intro ?_ ?_) | with_reducible refine r_cnd ?_ ?_) <;> intro hc <;> try simp only [push_cast, Int.reduceEq, Int.reduceLT, Int.reduceLE, Int.reduceNe] at hc | with_reducible refine r_rq (by first | decide | omega) ?_ | ((with_reducible first | apply i_lds | apply i_ldsq | apply i_ld | apply i_ldq); exact rfl) | ((with_reducible first | apply i_ldn | apply i_ldnq); exact rfl; exact rfl; exact rfl) | (with_reducible first | refine r_ph0 ?_ | apply i_kp0) | ((with_reducible first | apply i_st | apply i_stl); (focus simp); exact rfl) | ((try with_reducible refine d_reg ?_); simp only [go_sem, Nat.reduceAdd, Nat.reduceEqDiff, Int.reduceToNat, Nat.reduceMul, Nat.reduceSub]) | clear hK K)
    all_goals try (first | contradiction | (simp only [ reduceCtorEq] at *; done) | (exfalso; omega))
    all_goals try (exfalso; omega)
    refine r_ph0 ?_
    have em : (if ((G.all.take (lsn - 1).toNat).length : Int) < (G.durable : Int) then ((G.all.take (lsn - 1).toNat).length : Int) else (G.durable : Int)) = ((min G.durable (G.all.take (lsn - 1).toNat).length : Nat) : Int) := by split <;> omega
    have hp : lgp (G.cutl lsn run) Z.sb = ar G.q 66 [.pointer (some ⟨Z.sb, 0, none⟩), .int .i64 (G.base : Int), .int .i64 (G.sectors : Int), .int .i64 run, str (G.all.take (lsn - 1).toNat), .int .i64 ((min G.durable (G.all.take (lsn - 1).toNat).length : Nat) : Int), .bool G.dead] := by
      show ar G.q 66 [_, _, _, .int .i64 (run.toNat : Int), _, _, _] = _
      rw [er]
      rfl
    have hq1 : (G.cutl lsn run).q = G.q := rfl
    have ha1 : (G.cutl lsn run).all = G.all.take (lsn - 1).toNat := rfl
    have hd1 : (G.cutl lsn run).durable = min G.durable (G.all.take (lsn - 1).toNat).length := rfl
    repeat' (first | rw [em] | rw [← hp] | (fail_if_success with_reducible refine nph ?_); first | (with_reducible first | (refine d_seq ?_; intro K hK) | (refine hK _ _ ?_; clear hK K) | refine d_blk ?_ | refine d_rt0 ?_ | refine d_sk0 ?_ | refine d_ex0 ?_ | (refine r_nwc ?_; intro b)) | (first | ((with_reducible refine d_cnd ?_); refine And.intro ?_ ?_) | with_reducible refine r_cnd ?_ ?_) <;> intro hc <;> try simp only [push_cast, Int.reduceEq, Int.reduceLT, Int.reduceLE, Int.reduceNe] at hc | with_reducible refine r_rq (by first | decide | omega) ?_ | ((with_reducible first | apply i_lds | apply i_ldsq | apply i_ld | apply i_ldq); exact rfl) | ((with_reducible first | apply i_ldn | apply i_ldnq); exact rfl; exact rfl; exact rfl) | (with_reducible first | refine r_ph0 ?_ | apply i_kp0) | ((with_reducible first | apply i_st | apply i_stl); (focus simp); exact rfl) | ((try with_reducible refine d_reg ?_); simp only [go_sem, Nat.reduceAdd, Nat.reduceEqDiff, Int.reduceToNat, Nat.reduceMul, Nat.reduceSub]) | clear hK K)
    clear hp em es ew er ha1 hd1 hc
    generalize G.cutl lsn run = V at *
    have F := g21 V Z h hok
    obtain ⟨f1, f2, f3, f4, f5⟩ := lflush_ok h hok
    have M := g70 V Z h hok
    unfold Dk.lcut1 at hR
    rw [← hq1]
    refine r_ph0 ?_
    by_cases hlt : V.durable < V.all.length
    · rw [if_pos hlt] at hR
      have M2 := g70 (Z.lflush V).2.2 (Z.lflush V).2.1 f1 (by rw [f3]; exact f4)
      rw [f2] at M2
      generalize Z.lflush V = T at *
      obtain ⟨e, Y, V2⟩ := T
      dsimp only at F f1 f2 f3 f4 f5 M2 hR
      have M3 : Fq eI Tryz.prog 70 #[.pointer (some ⟨V.q, 0, none⟩)] [lgp V2 Z.sb, dk Y] [lgp (Y.lmend V2).2.2 Z.sb, dk (Y.lmend V2).2.1] (Y.lmend V2).1 := by
        rw [← f5]
        exact M2
      by_cases he : e = 0
      · subst he
        rw [if_pos rfl] at hR
        subst hR
        repeat' ((fail_if_success with_reducible refine nph ?_); first | (with_reducible first | (refine d_seq ?_; intro K hK) | (refine hK _ _ ?_; clear hK K) | refine d_blk ?_ | refine d_rt0 ?_ | refine d_sk0 ?_ | refine d_ex0 ?_ | (refine r_nwc ?_; intro b)) | (first | ((with_reducible refine d_cnd ?_); refine And.intro ?_ ?_) | with_reducible refine r_cnd ?_ ?_) <;> intro hc <;> try simp only [push_cast, Int.reduceEq, Int.reduceLT, Int.reduceLE, Int.reduceNe] at hc | with_reducible refine r_rq (by first | decide | omega) ?_ | ((with_reducible first | apply i_lds | apply i_ldsq | apply i_ld | apply i_ldq); exact rfl) | ((with_reducible first | apply i_ldn | apply i_ldnq); exact rfl; exact rfl; exact rfl) | (with_reducible first | refine r_ph0 ?_ | apply i_kp0) | ((with_reducible first | apply i_st | apply i_stl); (focus simp); exact rfl) | ((try with_reducible refine d_reg ?_); simp only [go_sem, Nat.reduceAdd, Nat.reduceEqDiff, Int.reduceToNat, Nat.reduceMul, Nat.reduceSub]) | clear hK K)
        all_goals try (exfalso; omega)
        refine i_clq F ?_
        repeat' ((fail_if_success with_reducible refine nph ?_); first | (with_reducible first | (refine d_seq ?_; intro K hK) | (refine hK _ _ ?_; clear hK K) | refine d_blk ?_ | refine d_rt0 ?_ | refine d_sk0 ?_ | refine d_ex0 ?_ | (refine r_nwc ?_; intro b)) | (first | ((with_reducible refine d_cnd ?_); refine And.intro ?_ ?_) | with_reducible refine r_cnd ?_ ?_) <;> intro hc <;> try simp only [push_cast, Int.reduceEq, Int.reduceLT, Int.reduceLE, Int.reduceNe] at hc | with_reducible refine r_rq (by first | decide | omega) ?_ | ((with_reducible first | apply i_lds | apply i_ldsq | apply i_ld | apply i_ldq); exact rfl) | ((with_reducible first | apply i_ldn | apply i_ldnq); exact rfl; exact rfl; exact rfl) | (with_reducible first | refine r_ph0 ?_ | apply i_kp0) | ((with_reducible first | apply i_st | apply i_stl); (focus simp); exact rfl) | ((try with_reducible refine d_reg ?_); simp only [go_sem, Nat.reduceAdd, Nat.reduceEqDiff, Int.reduceToNat, Nat.reduceMul, Nat.reduceSub]) | clear hK K)
        all_goals try (first | contradiction | (simp only [ reduceCtorEq] at *; done) | (exfalso; omega))
        refine i_clq M3 ?_
        repeat' ((fail_if_success with_reducible refine nph ?_); first | (with_reducible first | (refine d_seq ?_; intro K hK) | (refine hK _ _ ?_; clear hK K) | refine d_blk ?_ | refine d_rt0 ?_ | refine d_sk0 ?_ | refine d_ex0 ?_ | (refine r_nwc ?_; intro b)) | (first | ((with_reducible refine d_cnd ?_); refine And.intro ?_ ?_) | with_reducible refine r_cnd ?_ ?_) <;> intro hc <;> try simp only [push_cast, Int.reduceEq, Int.reduceLT, Int.reduceLE, Int.reduceNe] at hc | with_reducible refine r_rq (by first | decide | omega) ?_ | ((with_reducible first | apply i_lds | apply i_ldsq | apply i_ld | apply i_ldq); exact rfl) | ((with_reducible first | apply i_ldn | apply i_ldnq); exact rfl; exact rfl; exact rfl) | (with_reducible first | refine r_ph0 ?_ | apply i_kp0) | ((with_reducible first | apply i_st | apply i_stl); (focus simp); exact rfl) | ((try with_reducible refine d_reg ?_); simp only [go_sem, Nat.reduceAdd, Nat.reduceEqDiff, Int.reduceToNat, Nat.reduceMul, Nat.reduceSub]) | clear hK K)
        (with_reducible first | apply i_ret0 | apply i_ret2 | apply i_ret3 | apply i_ret); exact rfl
        rfl
      · rw [if_neg he] at hR
        subst hR
        repeat' ((fail_if_success with_reducible refine nph ?_); first | (with_reducible first | (refine d_seq ?_; intro K hK) | (refine hK _ _ ?_; clear hK K) | refine d_blk ?_ | refine d_rt0 ?_ | refine d_sk0 ?_ | refine d_ex0 ?_ | (refine r_nwc ?_; intro b)) | (first | ((with_reducible refine d_cnd ?_); refine And.intro ?_ ?_) | with_reducible refine r_cnd ?_ ?_) <;> intro hc <;> try simp only [push_cast, Int.reduceEq, Int.reduceLT, Int.reduceLE, Int.reduceNe] at hc | with_reducible refine r_rq (by first | decide | omega) ?_ | ((with_reducible first | apply i_lds | apply i_ldsq | apply i_ld | apply i_ldq); exact rfl) | ((with_reducible first | apply i_ldn | apply i_ldnq); exact rfl; exact rfl; exact rfl) | (with_reducible first | refine r_ph0 ?_ | apply i_kp0) | ((with_reducible first | apply i_st | apply i_stl); (focus simp); exact rfl) | ((try with_reducible refine d_reg ?_); simp only [go_sem, Nat.reduceAdd, Nat.reduceEqDiff, Int.reduceToNat, Nat.reduceMul, Nat.reduceSub]) | clear hK K)
        all_goals try (exfalso; omega)
        refine i_clq F ?_
        repeat' ((fail_if_success with_reducible refine nph ?_); first | (with_reducible first | (refine d_seq ?_; intro K hK) | (refine hK _ _ ?_; clear hK K) | refine d_blk ?_ | refine d_rt0 ?_ | refine d_sk0 ?_ | refine d_ex0 ?_ | (refine r_nwc ?_; intro b)) | (first | ((with_reducible refine d_cnd ?_); refine And.intro ?_ ?_) | with_reducible refine r_cnd ?_ ?_) <;> intro hc <;> try simp only [push_cast, Int.reduceEq, Int.reduceLT, Int.reduceLE, Int.reduceNe] at hc | with_reducible refine r_rq (by first | decide | omega) ?_ | ((with_reducible first | apply i_lds | apply i_ldsq | apply i_ld | apply i_ldq); exact rfl) | ((with_reducible first | apply i_ldn | apply i_ldnq); exact rfl; exact rfl; exact rfl) | (with_reducible first | refine r_ph0 ?_ | apply i_kp0) | ((with_reducible first | apply i_st | apply i_stl); (focus simp); exact rfl) | ((try with_reducible refine d_reg ?_); simp only [go_sem, Nat.reduceAdd, Nat.reduceEqDiff, Int.reduceToNat, Nat.reduceMul, Nat.reduceSub]) | clear hK K)
        all_goals try (first | contradiction | (simp only [ reduceCtorEq] at *; done) | (exfalso; omega))
        (with_reducible first | apply i_ret0 | apply i_ret2 | apply i_ret3 | apply i_ret); exact rfl
        rfl
    · rw [if_neg hlt] at hR
      subst hR
      repeat' ((fail_if_success with_reducible refine nph ?_); first | (with_reducible first | (refine d_seq ?_; intro K hK) | (refine hK _ _ ?_; clear hK K) | refine d_blk ?_ | refine d_rt0 ?_ | refine d_sk0 ?_ | refine d_ex0 ?_ | (refine r_nwc ?_; intro b)) | (first | ((with_reducible refine d_cnd ?_); refine And.intro ?_ ?_) | with_reducible refine r_cnd ?_ ?_) <;> intro hc <;> try simp only [push_cast, Int.reduceEq, Int.reduceLT, Int.reduceLE, Int.reduceNe] at hc | with_reducible refine r_rq (by first | decide | omega) ?_ | ((with_reducible first | apply i_lds | apply i_ldsq | apply i_ld | apply i_ldq); exact rfl) | ((with_reducible first | apply i_ldn | apply i_ldnq); exact rfl; exact rfl; exact rfl) | (with_reducible first | refine r_ph0 ?_ | apply i_kp0) | ((with_reducible first | apply i_st | apply i_stl); (focus simp); exact rfl) | ((try with_reducible refine d_reg ?_); simp only [go_sem, Nat.reduceAdd, Nat.reduceEqDiff, Int.reduceToNat, Nat.reduceMul, Nat.reduceSub]) | clear hK K)
      all_goals try (exfalso; omega)
      refine i_clq M ?_
      repeat' ((fail_if_success with_reducible refine nph ?_); first | (with_reducible first | (refine d_seq ?_; intro K hK) | (refine hK _ _ ?_; clear hK K) | refine d_blk ?_ | refine d_rt0 ?_ | refine d_sk0 ?_ | refine d_ex0 ?_ | (refine r_nwc ?_; intro b)) | (first | ((with_reducible refine d_cnd ?_); refine And.intro ?_ ?_) | with_reducible refine r_cnd ?_ ?_) <;> intro hc <;> try simp only [push_cast, Int.reduceEq, Int.reduceLT, Int.reduceLE, Int.reduceNe] at hc | with_reducible refine r_rq (by first | decide | omega) ?_ | ((with_reducible first | apply i_lds | apply i_ldsq | apply i_ld | apply i_ldq); exact rfl) | ((with_reducible first | apply i_ldn | apply i_ldnq); exact rfl; exact rfl; exact rfl) | (with_reducible first | refine r_ph0 ?_ | apply i_kp0) | ((with_reducible first | apply i_st | apply i_stl); (focus simp); exact rfl) | ((try with_reducible refine d_reg ?_); simp only [go_sem, Nat.reduceAdd, Nat.reduceEqDiff, Int.reduceToNat, Nat.reduceMul, Nat.reduceSub]) | clear hK K)
      (with_reducible first | apply i_ret0 | apply i_ret2 | apply i_ret3 | apply i_ret); exact rfl
      rfl
end Go.Sp
/- The log: Records. -/
namespace Go.Sp
open Go Go.Proofs
set_option linter.unusedSimpArgs false
set_option linter.unusedVariables false
set_option maxRecDepth 10000
/-- The records from a place on, and where each stands. -/
def rcs (s : List UInt8) : Nat → Nat → List (Nat × Rc)
  | 0, _ => []
  | k + 1, a => if a < s.length then (if (opn s (a : Int)).2.2 = 0 then (a + 1, (opn s (a : Int)).1) :: rcs s k (a + (opn s (a : Int)).2.1.toNat) else []) else []
def recs (s : List UInt8) : List (Nat × Rc) := rcs s (s.length + 1) 0
theorem Rs.wide {A B : HP} {s : SlV} {sz : Nat} {cs : List Value} (h : Rs A s sz cs) (w : ∀ x, B x → ∃ a, sub a x ∧ A a) : Rs B s sz cs :=
  ⟨h.1, h.2.1, fun a ha x hx j v hj => by
    obtain ⟨y, hy, hA⟩ := w x hx
    exact pc_sub hy (h.2.2 a ha y hA j v hj)⟩
theorem RcAt.wide {A B : HP} {r : api_Rec} {c : Rc} (h : RcAt A r c) (w : ∀ x, B x → ∃ a, sub a x ∧ A a) : RcAt B r c := ⟨h.e, h.i.wide w, h.t.wide w, h.li, h.lt⟩
theorem two1 {A S : HP} : ∀ x, HS [A, S] x → ∃ a, sub a x ∧ A a := fun x ⟨a, b, d, sa, sb, pa, pb⟩ => ⟨a, sa, pa⟩
theorem two2 {A S : HP} : ∀ x, HS [A, S] x → ∃ a, sub a x ∧ S a := fun x ⟨a, b, d, sa, sb, pa, ⟨c, e, d2, sc, se, pc, pe⟩⟩ => ⟨c, sc.trans sb, pc⟩
/-- The records are those. -/
structure RL (S : HP) (rs : List api_Rec) (cs : List Rc) : Prop where
  n : rs.length = cs.length
  g : ∀ (i : Nat) (r : api_Rec) (c : Rc), rs[i]? = some r → cs[i]? = some c → RcAt S r c
theorem RL.snoc {A S : HP} {rs : List api_Rec} {cs : List Rc} {r : api_Rec} {c : Rc} (h : RL S rs cs) (hr : RcAt A r c) : RL (HS [A, S]) (rs ++ [r]) (cs ++ [c]) := by
  refine ⟨by rw [List.length_append, List.length_append, h.n]; rfl, fun i r' c' h1 h2 => ?_⟩
  rcases Nat.lt_or_ge i rs.length with hi | hi
  · rw [List.getElem?_append_left hi] at h1
    rw [List.getElem?_append_left (by rw [← h.n]; exact hi)] at h2
    exact (h.g i r' c' h1 h2).wide two2
  · rw [List.getElem?_append_right hi] at h1
    rw [List.getElem?_append_right (by rw [← h.n]; exact hi)] at h2
    have e : i - rs.length = 0 := by
      rcases Nat.eq_zero_or_pos (i - rs.length) with h0 | h0
      · exact h0
      · rw [List.getElem?_eq_none (by simp; omega)] at h1; cases h1
    rw [e] at h1
    rw [← h.n, e] at h2
    simp only [List.getElem?_cons_zero, Option.some.injEq] at h1 h2
    subst h1 h2
    exact hr.wide two1
set_option maxHeartbeats 2000000 in
theorem g25 (G : Lg) (sb : Nat) (hl : G.all.length ≤ 1000000) : Fn (eT2 eSl eSl) Tryz.prog 25 #[G.p] [lgp G sb] fun y X => ∃ (S : HP) (rs : List api_Rec), X = [ow 36 13 y.1 (rs.flatMap rcl), ow 3 1 y.2 ((recs G.all).map fun x => .int .i64 (x.1 : Int)), S, lgp G sb] ∧ RL S rs ((recs G.all).map (·.2)) := fun L => by
  refine c25_fn rfl rfl ?_
  generalize hB : recs G.all = B
  repeat' ((fail_if_success with_reducible refine nph ?_); first | (with_reducible first | (refine d_seq ?_; intro K hK) | (refine hK _ _ ?_; clear hK K) | refine d_blk ?_ | refine d_rt0 ?_ | refine d_sk0 ?_ | refine d_ex0 ?_ | (refine r_nwc ?_; intro b)) | (first | ((with_reducible refine d_cnd ?_); refine And.intro ?_ ?_) | with_reducible refine r_cnd ?_ ?_) <;> intro hc <;> try simp only [push_cast, Int.reduceEq, Int.reduceLT, Int.reduceLE, Int.reduceNe] at hc | with_reducible refine r_rq (by first | decide | omega) ?_ | ((with_reducible first | apply i_lds | apply i_ldsq | apply i_ld | apply i_ldq); exact rfl) | ((with_reducible first | apply i_ldn | apply i_ldnq); exact rfl; exact rfl; exact rfl) | (with_reducible first | refine r_ph0 ?_ | apply i_kp0) | ((with_reducible first | apply i_st | apply i_stl); (focus simp); exact rfl) | ((try with_reducible refine d_reg ?_); simp only [go_sem, Nat.reduceAdd, Nat.reduceEqDiff, Int.reduceToNat, Nat.reduceMul, Nat.reduceSub]) | clear hK K)
  refine i_clp (g83 G sb) ?_
  repeat' ((fail_if_success with_reducible refine nph ?_); first | (with_reducible first | (refine d_seq ?_; intro K hK) | (refine hK _ _ ?_; clear hK K) | refine d_blk ?_ | refine d_rt0 ?_ | refine d_sk0 ?_ | refine d_ex0 ?_ | (refine r_nwc ?_; intro b)) | (first | ((with_reducible refine d_cnd ?_); refine And.intro ?_ ?_) | with_reducible refine r_cnd ?_ ?_) <;> intro hc <;> try simp only [push_cast, Int.reduceEq, Int.reduceLT, Int.reduceLE, Int.reduceNe] at hc | with_reducible refine r_rq (by first | decide | omega) ?_ | ((with_reducible first | apply i_lds | apply i_ldsq | apply i_ld | apply i_ldq); exact rfl) | ((with_reducible first | apply i_ldn | apply i_ldnq); exact rfl; exact rfl; exact rfl) | (with_reducible first | refine r_ph0 ?_ | apply i_kp0) | ((with_reducible first | apply i_st | apply i_stl); (focus simp); exact rfl) | ((try with_reducible refine d_reg ?_); simp only [go_sem, Nat.reduceAdd, Nat.reduceEqDiff, Int.reduceToNat, Nat.reduceMul, Nat.reduceSub]) | clear hK K)
  all_goals try contradiction
  refine r_nilow 36 13 ?_
  refine r_nilow 3 1 ?_
  refine r_nilow 123 2 ?_
  obtain ⟨S0, hS0⟩ : ∃ S, S = ow 123 2 (none, 0, 0) [] := ⟨_, rfl⟩
  rw [← hS0]
  clear hS0
  refine d_lp [0, 4, 5, 6] (fun t : Nat × Nat × SlV × SlV × HP × List api_Rec × List (Nat × Rc) => [(0, .pointer (some ⟨G.q, 0, none⟩)), (4, .slice t.2.2.1.1 t.2.2.1.2.1 t.2.2.1.2.2), (5, .slice t.2.2.2.1.1 t.2.2.2.1.2.1 t.2.2.2.1.2.2), (6, .int .i64 ((t.2.1 + 1 : Nat) : Int))])
    (fun t => ow 36 13 t.2.2.1 (t.2.2.2.2.2.1.flatMap rcl) :: ow 3 1 t.2.2.2.1 (t.2.2.2.2.2.2.map fun x => .int .i64 (x.1 : Int)) :: t.2.2.2.2.1 :: lgp G sb :: L)
    (fun t => t.2.1 ≤ G.all.length ∧ t.2.2.2.2.2.2 ++ rcs G.all t.1 t.2.1 = B ∧ RL t.2.2.2.2.1 t.2.2.2.2.2.1 (t.2.2.2.2.2.2.map (·.2)) ∧ t.2.2.1.2.1 ≤ t.2.1 ∧ t.2.2.2.1.2.1 ≤ t.2.1 ∧ G.all.length + 1 ≤ t.1 + t.2.1) (fun t => t.1)
    (G.all.length + 1, 0, (none, 0, 0), (none, 0, 0), S0, [], []) rfl ?_ ⟨by dsimp only; omega, hB, ⟨rfl, fun i r c h => by simp at h⟩, by dsimp only; omega, by dsimp only; omega, by dsimp only; omega⟩ ?_
  · show Sub (ow 36 13 (none, 0, 0) [] :: ow 3 1 (none, 0, 0) [] :: S0 :: lgp G sb :: L) _
    exact SX.p
  rintro ⟨k, a, ⟨p, pn, pc⟩, ⟨q, qn, qc⟩, S, rs, done⟩ ⟨h1, h2, h3, h4, h5, h6⟩
  dsimp only at h1 h2 h3 h4 h5 h6 ⊢
  repeat' ((fail_if_success with_reducible refine nph ?_); first | (with_reducible first | (refine d_seq ?_; intro K hK) | (refine hK _ _ ?_; clear hK K) | refine d_blk ?_ | refine d_rt0 ?_ | refine d_sk0 ?_ | refine d_ex0 ?_ | (refine r_nwc ?_; intro b)) | (first | ((with_reducible refine d_cnd ?_); refine And.intro ?_ ?_) | with_reducible refine r_cnd ?_ ?_) <;> intro hc <;> try simp only [push_cast, Int.reduceEq, Int.reduceLT, Int.reduceLE, Int.reduceNe] at hc | with_reducible refine r_rq (by first | decide | omega) ?_ | ((with_reducible first | apply i_lds | apply i_ldsq | apply i_ld | apply i_ldq); exact rfl) | ((with_reducible first | apply i_ldn | apply i_ldnq); exact rfl; exact rfl; exact rfl) | (with_reducible first | refine r_ph0 ?_ | apply i_kp0) | ((with_reducible first | apply i_st | apply i_stl); (focus simp); exact rfl) | ((try with_reducible refine d_reg ?_); simp only [go_sem, Nat.reduceAdd, Nat.reduceEqDiff, Int.reduceToNat, Nat.reduceMul, Nat.reduceSub]) | clear hK K)
  · have hlt : a < G.all.length := by omega
    obtain ⟨k', rfl⟩ : ∃ k', k = k' + 1 := ⟨k - 1, by omega⟩
    rw [show rcs G.all (k' + 1) a = if a < G.all.length then (if (opn G.all (a : Int)).2.2 = 0 then (a + 1, (opn G.all (a : Int)).1) :: rcs G.all k' (a + (opn G.all (a : Int)).2.1.toNat) else []) else [] from rfl, if_pos hlt] at h2
    have R := g35 G sb hl ((a + 1 : Nat) : Int)
    unfold Lg.read at R
    have ea : ((a + 1 : Nat) : Int) - 1 = (a : Int) := by omega
    rw [if_neg (by omega), ea] at R
    have hst := opn_step (s := G.all) (a := a) (by omega)
    generalize opn G.all (a : Int) = o at *
    obtain ⟨c, n, e⟩ := o
    dsimp only at h2 R hst
    by_cases he : e = 0
    · subst he
      obtain ⟨m, rfl, m1, m2⟩ := hst rfl
      rw [if_pos rfl] at R h2
      rw [Int.toNat_natCast] at h2
      dsimp only at R
      refine i_cal R ?_
      rintro ⟨⟨k1, k2, k3, k4, k5, k6, k7, k8, k9, k10, k11, k12, k13⟩, y⟩ X ⟨A, rfl, hr, hy⟩
      dsimp only at hr hy
      subst hy
      repeat' ((fail_if_success with_reducible refine nph ?_); first | (with_reducible first | (refine d_seq ?_; intro K hK) | (refine hK _ _ ?_; clear hK K) | refine d_blk ?_ | refine d_rt0 ?_ | refine d_sk0 ?_ | refine d_ex0 ?_ | (refine r_nwc ?_; intro b)) | (first | ((with_reducible refine d_cnd ?_); refine And.intro ?_ ?_) | with_reducible refine r_cnd ?_ ?_) <;> intro hc <;> try simp only [push_cast, Int.reduceEq, Int.reduceLT, Int.reduceLE, Int.reduceNe] at hc | with_reducible refine r_rq (by first | decide | omega) ?_ | ((with_reducible first | apply i_lds | apply i_ldsq | apply i_ld | apply i_ldq); exact rfl) | ((with_reducible first | apply i_ldn | apply i_ldnq); exact rfl; exact rfl; exact rfl) | (with_reducible first | refine r_ph0 ?_ | apply i_kp0) | ((with_reducible first | apply i_st | apply i_stl); (focus simp); exact rfl) | ((try with_reducible refine d_reg ?_); simp only [go_sem, Nat.reduceAdd, Nat.reduceEqDiff, Int.reduceToNat, Nat.reduceMul, Nat.reduceSub]) | clear hK K)
      all_goals try (first | contradiction | (simp only [ reduceCtorEq] at *; done) | (exfalso; omega))
      refine i_ldn (e := e_api_Rec) (x := ⟨k1, k2, k3, k4, k5, k6, k7, k8, k9, k10, k11, k12, k13⟩) rfl rfl rfl ?_
      repeat' ((fail_if_success with_reducible refine nph ?_); first | (with_reducible first | (refine d_seq ?_; intro K hK) | (refine hK _ _ ?_; clear hK K) | refine d_blk ?_ | refine d_rt0 ?_ | refine d_sk0 ?_ | refine d_ex0 ?_ | (refine r_nwc ?_; intro b)) | (first | ((with_reducible refine d_cnd ?_); refine And.intro ?_ ?_) | with_reducible refine r_cnd ?_ ?_) <;> intro hc <;> try simp only [push_cast, Int.reduceEq, Int.reduceLT, Int.reduceLE, Int.reduceNe] at hc | with_reducible refine r_rq (by first | decide | omega) ?_ | ((with_reducible first | apply i_lds | apply i_ldsq | apply i_ld | apply i_ldq); exact rfl) | ((with_reducible first | apply i_ldn | apply i_ldnq); exact rfl; exact rfl; exact rfl) | (with_reducible first | refine r_ph0 ?_ | apply i_kp0) | ((with_reducible first | apply i_st | apply i_stl); (focus simp); exact rfl) | ((try with_reducible refine d_reg ?_); simp only [go_sem, Nat.reduceAdd, Nat.reduceEqDiff, Int.reduceToNat, Nat.reduceMul, Nat.reduceSub]) | clear hK K)
      refine i_app (t := 36) (sz := 13) (m := 1) (news := rcl ⟨k1, k2, k3, k4, k5, k6, k7, k8, k9, k10, k11, k12, k13⟩) (p, pn, pc) 160 (by kernel_rfl) (by decide) rfl rfl (by dsimp only; omega) fun o' ho' _ => ?_
      have e1 : rs.flatMap rcl ++ rcl ⟨k1, k2, k3, k4, k5, k6, k7, k8, k9, k10, k11, k12, k13⟩ = (rs ++ [(⟨k1, k2, k3, k4, k5, k6, k7, k8, k9, k10, k11, k12, k13⟩ : api_Rec)]).flatMap rcl := by rw [List.flatMap_append]; simp
      rw [e1]
      repeat' ((fail_if_success with_reducible refine nph ?_); first | (with_reducible first | (refine d_seq ?_; intro K hK) | (refine hK _ _ ?_; clear hK K) | refine d_blk ?_ | refine d_rt0 ?_ | refine d_sk0 ?_ | refine d_ex0 ?_ | (refine r_nwc ?_; intro b)) | (first | ((with_reducible refine d_cnd ?_); refine And.intro ?_ ?_) | with_reducible refine r_cnd ?_ ?_) <;> intro hc <;> try simp only [push_cast, Int.reduceEq, Int.reduceLT, Int.reduceLE, Int.reduceNe] at hc | with_reducible refine r_rq (by first | decide | omega) ?_ | ((with_reducible first | apply i_lds | apply i_ldsq | apply i_ld | apply i_ldq); exact rfl) | ((with_reducible first | apply i_ldn | apply i_ldnq); exact rfl; exact rfl; exact rfl) | (with_reducible first | refine r_ph0 ?_ | apply i_kp0) | ((with_reducible first | apply i_st | apply i_stl); (focus simp); exact rfl) | ((try with_reducible refine d_reg ?_); simp only [go_sem, Nat.reduceAdd, Nat.reduceEqDiff, Int.reduceToNat, Nat.reduceMul, Nat.reduceSub]) | clear hK K)
      refine i_app (t := 3) (sz := 1) (m := 1) (news := [.int .i64 ((a + 1 : Nat) : Int)]) (q, qn, qc) 8 (by kernel_rfl) (by decide) rfl rfl (by dsimp only; omega) fun o2 ho2 _ => ?_
      have e2 : (done.map fun x => Value.int .i64 (x.1 : Int)) ++ [.int .i64 ((a + 1 : Nat) : Int)] = (done ++ [(a + 1, c)]).map fun x => .int .i64 (x.1 : Int) := by simp
      rw [e2]
      repeat' ((fail_if_success with_reducible refine nph ?_); first | (with_reducible first | (refine d_seq ?_; intro K hK) | (refine hK _ _ ?_; clear hK K) | refine d_blk ?_ | refine d_rt0 ?_ | refine d_sk0 ?_ | refine d_ex0 ?_ | (refine r_nwc ?_; intro b)) | (first | ((with_reducible refine d_cnd ?_); refine And.intro ?_ ?_) | with_reducible refine r_cnd ?_ ?_) <;> intro hc <;> try simp only [push_cast, Int.reduceEq, Int.reduceLT, Int.reduceLE, Int.reduceNe] at hc | with_reducible refine r_rq (by first | decide | omega) ?_ | ((with_reducible first | apply i_lds | apply i_ldsq | apply i_ld | apply i_ldq); exact rfl) | ((with_reducible first | apply i_ldn | apply i_ldnq); exact rfl; exact rfl; exact rfl) | (with_reducible first | refine r_ph0 ?_ | apply i_kp0) | ((with_reducible first | apply i_st | apply i_stl); (focus simp); exact rfl) | ((try with_reducible refine d_reg ?_); simp only [go_sem, Nat.reduceAdd, Nat.reduceEqDiff, Int.reduceToNat, Nat.reduceMul, Nat.reduceSub]) | clear hK K)
      have e3 : ((a + 1 : Nat) : Int) + (m : Int) = ((a + m + 1 : Nat) : Int) := by omega
      rw [e3]
      refine E.sub (L' := [A, S] ++ (ow 36 13 o' ((rs ++ [(⟨k1, k2, k3, k4, k5, k6, k7, k8, k9, k10, k11, k12, k13⟩ : api_Rec)]).flatMap rcl) :: ow 3 1 o2 ((done ++ [(a + 1, c)]).map fun x => .int .i64 (x.1 : Int)) :: lgp G sb :: L)) SX.p ?_
      refine E.close ?_
      exact i_bk (k', a + m, o', o2, HS [A, S], rs ++ [⟨k1, k2, k3, k4, k5, k6, k7, k8, k9, k10, k11, k12, k13⟩], done ++ [(a + 1, c)]) rfl ⟨by dsimp only; omega, by dsimp only; rw [List.append_assoc]; exact h2, by dsimp only; rw [List.map_append]; exact h3.snoc hr, by dsimp only at ho' ⊢; omega, by dsimp only at ho2 ⊢; omega, by dsimp only; omega⟩ (by dsimp only; omega)
    · rw [if_neg he] at R h2
      rw [List.append_nil] at h2
      subst h2
      dsimp only at R
      refine i_cal R ?_
      rintro ⟨⟨k1, k2, k3, k4, k5, k6, k7, k8, k9, k10, k11, k12, k13⟩, y⟩ X ⟨A, rfl, hr, hy⟩
      dsimp only at hr hy
      subst hy
      repeat' ((fail_if_success with_reducible refine nph ?_); first | (with_reducible first | (refine d_seq ?_; intro K hK) | (refine hK _ _ ?_; clear hK K) | refine d_blk ?_ | refine d_rt0 ?_ | refine d_sk0 ?_ | refine d_ex0 ?_ | (refine r_nwc ?_; intro b)) | (first | ((with_reducible refine d_cnd ?_); refine And.intro ?_ ?_) | with_reducible refine r_cnd ?_ ?_) <;> intro hc <;> try simp only [push_cast, Int.reduceEq, Int.reduceLT, Int.reduceLE, Int.reduceNe] at hc | with_reducible refine r_rq (by first | decide | omega) ?_ | ((with_reducible first | apply i_lds | apply i_ldsq | apply i_ld | apply i_ldq); exact rfl) | ((with_reducible first | apply i_ldn | apply i_ldnq); exact rfl; exact rfl; exact rfl) | (with_reducible first | refine r_ph0 ?_ | apply i_kp0) | ((with_reducible first | apply i_st | apply i_stl); (focus simp); exact rfl) | ((try with_reducible refine d_reg ?_); simp only [go_sem, Nat.reduceAdd, Nat.reduceEqDiff, Int.reduceToNat, Nat.reduceMul, Nat.reduceSub]) | clear hK K)
      all_goals try (first | contradiction | (simp only [ reduceCtorEq] at *; done) | (exfalso; omega))
      exact i_done (e := eT2 eSl eSl) ((p, pn, pc), (q, qn, qc)) [ow 36 13 (p, pn, pc) (rs.flatMap rcl), ow 3 1 (q, qn, qc) (done.map fun x => .int .i64 (x.1 : Int)), S, lgp G sb] rfl ⟨S, rs, rfl, h3⟩
  · have e : rcs G.all k a = [] := by
      cases k with
      | zero => rfl
      | succ k => unfold rcs; rw [if_neg (by omega)]
    rw [e, List.append_nil] at h2
    subst h2
    exact i_done (e := eT2 eSl eSl) ((p, pn, pc), (q, qn, qc)) [ow 36 13 (p, pn, pc) (rs.flatMap rcl), ow 3 1 (q, qn, qc) (done.map fun x => .int .i64 (x.1 : Int)), S, lgp G sb] rfl ⟨S, rs, rfl, h3⟩
end Go.Sp
/- The log: From. -/
namespace Go.Sp
open Go Go.Proofs
set_option linter.unusedSimpArgs false
set_option linter.unusedVariables false
set_option maxRecDepth 10000
def frl (s : List UInt8) (most : Int) : Nat → Nat → List UInt8 × Int
  | 0, a => (s.take a, 0)
  | k + 1, a => if (opn s (a : Int)).2.2 = 0 then (if 0 < a ∧ most - (a : Int) < (opn s (a : Int)).2.1 then (s.take a, 0) else frl s most k (a + (opn s (a : Int)).2.1.toNat))
    else if a = 0 ∧ 0 < s.length then ([], 4) else (s.take a, 0)
def Lg.from (G : Lg) (lsn most : Int) : List UInt8 × Int :=
  if lsn < 1 ∨ (G.durable : Int) + 1 < lsn then ([], 6) else
  (fun s : List UInt8 => frl s (if most < 0 then 0 else most) (s.length + 1) 0) ((G.all.take G.durable).drop (lsn - 1).toNat)
end Go.Sp
/- The log's law: a number as bytes; a small record. -/
namespace Go.Sp
open Go Go.Proofs
set_option linter.unusedSimpArgs false
set_option linter.unusedVariables false
set_option maxRecDepth 10000
def cm (n : Int) : Rc := { Rc.z 7 with txn := n, prev := 1 }
theorem g37 (n : Int) : Fp e_api_Rec Tryz.prog 37 #[.int .i64 n] [] ⟨7, n, 1, 0, 0, [], [], [], 0, (none, 0, 0), (none, 0, 0), 0, 0⟩ := fun L => by
  refine c37_fn rfl rfl ?_
  repeat' ((fail_if_success with_reducible refine nph ?_); first | (with_reducible first | (refine d_seq ?_; intro K hK) | (refine hK _ _ ?_; clear hK K) | refine d_blk ?_ | refine d_rt0 ?_ | refine d_sk0 ?_ | refine d_ex0 ?_ | (refine r_nwc ?_; intro b)) | (first | ((with_reducible refine d_cnd ?_); refine And.intro ?_ ?_) | with_reducible refine r_cnd ?_ ?_) <;> intro hc <;> try simp only [push_cast, Int.reduceEq, Int.reduceLT, Int.reduceLE, Int.reduceNe] at hc | with_reducible refine r_rq (by first | decide | omega) ?_ | ((with_reducible first | apply i_lds | apply i_ldsq | apply i_ld | apply i_ldq); exact rfl) | ((with_reducible first | apply i_ldn | apply i_ldnq); exact rfl; exact rfl; exact rfl) | (with_reducible first | refine r_ph0 ?_ | apply i_kp0) | ((with_reducible first | apply i_st | apply i_stl); (focus simp); exact rfl) | ((try with_reducible refine d_reg ?_); simp only [go_sem, Nat.reduceAdd, Nat.reduceEqDiff, Int.reduceToNat, Nat.reduceMul, Nat.reduceSub]) | clear hK K)
  refine i_ldn (e := e_api_Rec) (x := ⟨7, n, 1, 0, 0, [], [], [], 0, (none, 0, 0), (none, 0, 0), 0, 0⟩) rfl rfl rfl ?_
  (with_reducible first | apply i_ret0 | apply i_ret2 | apply i_ret3 | apply i_ret); exact rfl
  rfl
theorem cm_at (A : HP) (n : Int) : RcAt A ⟨7, n, 1, 0, 0, [], [], [], 0, (none, 0, 0), (none, 0, 0), 0, 0⟩ (cm n) := ⟨rfl, Rs_nil, Rs_nil, by simp [cm, Rc.z], by simp [cm, Rc.z]⟩
theorem cm_frame {n : Int} (h : fitN n 6) : ∃ f, (cm n).frame = (f, 0) ∧ f.length = 19 := by
  have hc : (cm n).clean = cm n := rfl
  have p1 : fitN 7 1 := ⟨by decide, by decide⟩
  have p6 : fitN 1 6 := ⟨by decide, by decide⟩
  have hb : (cm n).body = (lowb 7 1 ++ lowb n 6 ++ lowb 1 6, 0) := by
    have e : (cm n).body = bfin (layN (layN (layN ([], 0) 7 1) n 6) 1 6) 0 := rfl
    rw [e, layN_go p1, layN_go h, layN_go p6]
    unfold bfin
    rw [if_pos rfl, if_pos rfl, if_neg (by simp only [List.length_append, lowb_len, List.length_nil]; omega)]
    simp
  refine ⟨_, by unfold Rc.frame; rw [hc, hb, if_pos rfl], ?_⟩
  simp only [List.length_append, lowb_len]
end Go.Sp
/- What each region of the Go functions does. Written by my own generator. -/
namespace Go.Sp
open Go
set_option maxRecDepth 100000
set_option linter.unusedVariables false
open Go.Proofs
/-! gharry.gharrylaw08.few -/
noncomputable def c19 : Cfg := { P := Tryz.prog, n := 20, T := TT, body := (Tryz.f19.body).getD .skip, res := Tryz.f19.results.toList, li := lk [] [(0, [0]), (1, [1, 2]), (2, [1, 2]), (3, [1, 2]), (4, [1, 2]), (5, [1, 2])], lo := lk [] [(0, [1, 2]), (1, [1, 2, 6]), (2, [1, 2]), (3, [1, 2, 14]), (4, [1, 2]), (5, [2]), (1000000, [2])], ord := lk (false, []) [] }
@[go_sem] theorem c19_i0 : c19.li 0 = [0] := rfl
@[go_sem] theorem c19_i1 : c19.li 1 = [1, 2] := rfl
@[go_sem] theorem c19_i2 : c19.li 2 = [1, 2] := rfl
@[go_sem] theorem c19_i3 : c19.li 3 = [1, 2] := rfl
@[go_sem] theorem c19_i4 : c19.li 4 = [1, 2] := rfl
@[go_sem] theorem c19_i5 : c19.li 5 = [1, 2] := rfl
@[go_sem] theorem c19_r0 (r0 : api_Rec) (K : Env → W) : RP c19 0 [(0, v_api_Rec r0)] K =
    (nwc #[.int .i64 r0.Kind, .int .i64 r0.Txn, .int .i64 r0.Prev, .int .i64 r0.Page, .int .i64 r0.Act, str r0.Key, str r0.Old, str r0.New, .int .i64 r0.Next, .slice r0.Images.1 r0.Images.2.1 r0.Images.2.2, .slice r0.Table.1 r0.Table.2.1 r0.Table.2.2, .int .i64 r0.Epoch, .int .i64 r0.Node] 36 fun y1_ => (nwc #[.int .i64 (0 : Int), .int .i64 (0 : Int), .int .i64 (0 : Int), .int .i64 (0 : Int), .int .i64 (0 : Int), str (([] : List UInt8)), str (([] : List UInt8)), str (([] : List UInt8)), .int .i64 (0 : Int), .slice none 0 0, .slice none 0 0, .int .i64 (0 : Int), .int .i64 (0 : Int)] 36 fun y2_ => (K [(1, .pointer (some y1_)), (2, .pointer (some y2_))]))) := by kernel_rfl
@[go_sem] theorem c19_r1 (r1 : Addr) (t2 : Addr) (K : Env → W) : RP c19 1 [(1, .pointer (some r1)), (2, .pointer (some t2))] K =
    (ld eSl ((r1.add 9)) fun (y1_ : (Option Addr × Nat × Nat)) => (K [(1, .pointer (some r1)), (2, .pointer (some t2)), (6, .bool ((decide ((2 : Int) < (y1_.2.1 : Int)))))])) := by kernel_rfl
@[go_sem] theorem c19_r2 (r1 : Addr) (t2 : Addr) (K : Env → W) : RP c19 2 [(1, .pointer (some r1)), (2, .pointer (some t2))] K =
    (ld eSl ((r1.add 9)) fun (y1_ : (Option Addr × Nat × Nat)) => (rq (0 ≤ (0 : Int) ∧ 0 ≤ (2 : Int) ∧ (2 : Int) ≤ (y1_.2.2 : Int)) (st ((r1.add 9)) (.slice ((slp y1_.1 0 (y1_.2.2 : Int) 2)) (((2 : Int).toNat - (0 : Int).toNat)) ((((y1_.2.2 : Int)).toNat - (0 : Int).toNat))) (K [(1, .pointer (some r1)), (2, .pointer (some t2))])))) := by kernel_rfl
@[go_sem] theorem c19_r3 (r1 : Addr) (t2 : Addr) (K : Env → W) : RP c19 3 [(1, .pointer (some r1)), (2, .pointer (some t2))] K =
    (ld eSl ((r1.add 10)) fun (y1_ : (Option Addr × Nat × Nat)) => (K [(1, .pointer (some r1)), (2, .pointer (some t2)), (14, .bool ((decide ((3 : Int) < (y1_.2.1 : Int)))))])) := by kernel_rfl
@[go_sem] theorem c19_r4 (r1 : Addr) (t2 : Addr) (K : Env → W) : RP c19 4 [(1, .pointer (some r1)), (2, .pointer (some t2))] K =
    (ld eSl ((r1.add 10)) fun (y1_ : (Option Addr × Nat × Nat)) => (rq (0 ≤ (0 : Int) ∧ 0 ≤ (3 : Int) ∧ (3 : Int) ≤ (y1_.2.2 : Int)) (st ((r1.add 10)) (.slice ((slp y1_.1 0 (y1_.2.2 : Int) 2)) (((3 : Int).toNat - (0 : Int).toNat)) ((((y1_.2.2 : Int)).toNat - (0 : Int).toNat))) (K [(1, .pointer (some r1)), (2, .pointer (some t2))])))) := by kernel_rfl
@[go_sem] theorem c19_r5 (r1 : Addr) (t2 : Addr) (K : Env → W) : RP c19 5 [(1, .pointer (some r1)), (2, .pointer (some t2))] K =
    (ldn e_api_Rec 13 r1 fun (y1_ : api_Rec) => (stl [.int .i64 y1_.Kind, .int .i64 y1_.Txn, .int .i64 y1_.Prev, .int .i64 y1_.Page, .int .i64 y1_.Act, str y1_.Key, str y1_.Old, str y1_.New, .int .i64 y1_.Next, .slice y1_.Images.1 y1_.Images.2.1 y1_.Images.2.2, .slice y1_.Table.1 y1_.Table.2.1 y1_.Table.2.2, .int .i64 y1_.Epoch, .int .i64 y1_.Node] t2 0 (K [(2, .pointer (some t2))]))) := by kernel_rfl
@[go_sem] theorem c19_o : c19.lo 1000000 = [2] := rfl
@[go_sem] theorem c19_e (t2 : Addr) (k : Value → W) : RTp c19 [(2, .pointer (some t2))] k = (ldn e_api_Rec 13 t2 fun (y1_ : api_Rec) => (k (v_api_Rec y1_))) := by kernel_rfl
theorem c19_ok : (c19.P.follows .mixedOrders && okc c19 c19.body) = true := by kernel_rfl
theorem c19_fn {e : Enc} {args : Array Value} {G : e.α → W} {L : List HP} {ρ : Env} (hρ : envA 0 args.toList = ρ) (hs : Nat.ble args.size 20 = true) (h : E L (D c19 (.seq (.reg 0) (.seq (.seq (.reg 1) (.cond (.tmp 6) (.reg 2) (.skip))) (.seq (.seq (.reg 3) (.cond (.tmp 14) (.reg 4) (.skip))) (.seq (.reg 5) (.ret))))) (fnQ c19 e G) ρ)) : E L (cal e Tryz.prog 19 args G) :=
  d_fn (c := c19) Tryz.func19 (by kernel_rfl) (by kernel_rfl) (by kernel_rfl) c19_ok (by kernel_rfl) (by kernel_rfl) hρ hs h
end Go.Sp
