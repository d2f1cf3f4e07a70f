/- The disk: what it is, and its small functions. -/
import Derived.Test.YtpadmllpdkknnaaSh
import Derived.Test.YtpadmllpdkknnaaK20
import Derived.Test.YtpadmllpdkknnaaGd0
namespace Go.Sp
set_option linter.unusedSimpArgs false
set_option linter.unusedVariables false
open Go Go.Proofs
theorem f80 (t : TypeId) (s : SlV) (zs : List Int) (hl : zs.length < 4611686018427387904) :
    Fq eN Try.prog 80 #[.slice s.1 s.2.1 s.2.2] [ow t 1 s (zs.map fun n => .int .i64 n)] [ow t 1 s ((zs.mergeSort fun x y => decide (x ≤ y)).map fun n => .int .i64 n)] () :=
  fq_sort (fun b o c zs w h1 h2 h3 => Any.slices_Sort_int Try.lays189 b o c zs w h1 h2 h3) (fun p c w => Any.slices_Sort_int_none Try.lays189 p c w) t s zs hl
theorem f87 (s : List UInt8) (c : Nat) (h : s.length * c ≤ 140737488355328) (hc : c ≤ 9223372036854775807) : Fp eS Try.prog 87 #[str s, .int .i64 (c : Int)] [] (Lib.repeatL s c) :=
  fp_below fun w => Any.strings_Repeat Try.lays105 Try.builder ⟨s.toArray⟩ c w hc h
/-- A sector's bytes, with noughts behind. -/
def wh (s : List UInt8) : List UInt8 := s ++ List.replicate (64 - s.length) 0
theorem wh_len {s : List UInt8} (h : s.length ≤ 64) : (wh s).length = 64 := by simp [wh]; omega
theorem wh_full {s : List UInt8} (h : s.length = 64) : wh s = s := by simp [wh, h]
theorem rep_one (n : Nat) : Lib.repeatL [0] n = List.replicate n (0 : UInt8) := by
  induction n with
  | zero => rfl
  | succ n ih => rw [Lib.repeatL, ih]; rfl
theorem f69 (s : List UInt8) (h : s.length ≤ 64) : Fp eS Try.prog 69 #[str s] [] (wh s) := fun L => by
  refine c69_fn rfl rfl ?_
  repeat' (first | ((with_reducible refine d_seq ?_); intro K hK) | ((with_reducible refine d_reg ?_); simp only [go_sem, Nat.reduceAdd, Nat.reduceEqDiff, Int.reduceToNat, Nat.reduceMul, Nat.reduceSub]) | ((first | ((with_reducible refine d_cnd ?_); refine And.intro ?_ ?_) | (with_reducible refine r_cnd ?_ ?_)); all_goals (intro hc; (try simp only [push_cast, Int.reduceEq, Int.reduceLT, Int.reduceLE, Int.reduceNe] at hc))) | ((with_reducible refine hK _ _ ?_); clear hK; clear K) | ((with_reducible first | refine d_blk ?_ | refine d_rt0 ?_ | refine d_sk0 ?_ | refine d_ex0 ?_); (try simp only [go_sem, Nat.reduceAdd, Nat.reduceEqDiff, Int.reduceToNat, Nat.reduceMul, Nat.reduceSub])) | (with_reducible refine r_rq (by first | decide | omega) ?_) | ((with_reducible refine r_nwc ?_); intro b) | ((with_reducible first | apply i_lds | apply i_ldsq | apply i_ld | apply i_ldq); exact rfl) | ((with_reducible first | apply i_ldn | apply i_ldnq); exact rfl; exact rfl; exact rfl) | (with_reducible first | refine r_ph0 ?_ | apply i_kp0) | ((with_reducible first | apply i_st | apply i_stl); (focus simp); exact rfl) | simp only [go_sem, Nat.reduceAdd, Nat.reduceEqDiff, Int.reduceToNat, Nat.reduceMul, Nat.reduceSub] | (clear hK; clear K))
  have e : IntKind.wrap .i64 ((64 : Int) - (s.length : Int)) = ((64 - s.length : Nat) : Int) := by rw [w64 (by omega) (by omega)]; omega
  rw [e]
  refine i_clp (f87 [0] (64 - s.length) (by simp; omega) (by omega)) ?_
  have hl : (Lib.repeatL [0] (64 - s.length)).length ≤ 64 := by rw [rep_one]; simp
  repeat' (first | ((with_reducible refine d_seq ?_); intro K hK) | ((with_reducible refine d_reg ?_); simp only [go_sem, Nat.reduceAdd, Nat.reduceEqDiff, Int.reduceToNat, Nat.reduceMul, Nat.reduceSub]) | ((first | ((with_reducible refine d_cnd ?_); refine And.intro ?_ ?_) | (with_reducible refine r_cnd ?_ ?_)); all_goals (intro hc; (try simp only [push_cast, Int.reduceEq, Int.reduceLT, Int.reduceLE, Int.reduceNe] at hc))) | ((with_reducible refine hK _ _ ?_); clear hK; clear K) | ((with_reducible first | refine d_blk ?_ | refine d_rt0 ?_ | refine d_sk0 ?_ | refine d_ex0 ?_); (try simp only [go_sem, Nat.reduceAdd, Nat.reduceEqDiff, Int.reduceToNat, Nat.reduceMul, Nat.reduceSub])) | (with_reducible refine r_rq (by first | decide | omega) ?_) | ((with_reducible refine r_nwc ?_); intro b) | ((with_reducible first | apply i_lds | apply i_ldsq | apply i_ld | apply i_ldq); exact rfl) | ((with_reducible first | apply i_ldn | apply i_ldnq); exact rfl; exact rfl; exact rfl) | (with_reducible first | refine r_ph0 ?_ | apply i_kp0) | ((with_reducible first | apply i_st | apply i_stl); (focus simp); exact rfl) | simp only [go_sem, Nat.reduceAdd, Nat.reduceEqDiff, Int.reduceToNat, Nat.reduceMul, Nat.reduceSub] | (clear hK; clear K))
  (with_reducible first | apply i_ret0 | apply i_ret2 | apply i_ret3 | apply i_ret); exact rfl
  rw [rep_one]; rfl
end Go.Sp
