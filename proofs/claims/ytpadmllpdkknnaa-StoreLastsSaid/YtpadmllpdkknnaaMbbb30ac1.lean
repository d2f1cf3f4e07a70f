/- Texts of a proof, one behind the other: D1 D2 D3 D4 D5 D6 Gx0 D7 D10 D11 K23 D12 Gs0 Gz0. No condition. -/
import Derived.Test.YtpadmllpdkknnaaM70dd4cb0
import Derived.Test.YtpadmllpdkknnaaMca8868da
/- The disk: what it is, and its small functions. -/
namespace Go.Sp
set_option linter.unusedSimpArgs false
set_option linter.unusedVariables false
open Go Go.Proofs
theorem f80 (t : TypeId) (s : SlV) (zs : List Int) (hl : zs.length < 4611686018427387904) :
    Fq eN Try.prog 80 #[.slice s.1 s.2.1 s.2.2] [ow t 1 s (zs.map fun n => .int .i64 n)] [ow t 1 s ((zs.mergeSort fun x y => decide (x ≤ y)).map fun n => .int .i64 n)] () :=
  fq_sort (fun b o c zs w h1 h2 h3 => Any.slices_Sort_int Try.lays189 b o c zs w h1 h2 h3) (fun p c w => Any.slices_Sort_int_none Try.lays189 p c w) t s zs hl
theorem f87 (s : List UInt8) (c : Nat) (h : s.length * c ≤ 140737488355328) (hc : c ≤ 9223372036854775807) : Fp eS Try.prog 87 #[str s, .int .i64 (c : Int)] [] (Lib.repeatL s c) :=
  fp_below fun w => Any.strings_Repeat Try.lays105 Try.builder ⟨s.toArray⟩ c w hc h
/-- A sector's bytes, with noughts behind. -/
def wh (s : List UInt8) : List UInt8 := s ++ List.replicate (64 - s.length) 0
theorem wh_len {s : List UInt8} (h : s.length ≤ 64) : (wh s).length = 64 := by simp [wh]; omega
theorem wh_full {s : List UInt8} (h : s.length = 64) : wh s = s := by simp [wh, h]
theorem rep_one (n : Nat) : Lib.repeatL [0] n = List.replicate n (0 : UInt8) := by
  induction n with
  | zero => rfl
  | succ n ih => rw [Lib.repeatL, ih]; rfl
theorem f69 (s : List UInt8) (h : s.length ≤ 64) : Fp eS Try.prog 69 #[str s] [] (wh s) := fun L => by
  refine c69_fn rfl rfl ?_
  repeat' (first | ((with_reducible refine d_seq ?_); intro K hK) | ((with_reducible refine d_reg ?_); simp only [go_sem, Nat.reduceAdd, Nat.reduceEqDiff, Int.reduceToNat, Nat.reduceMul, Nat.reduceSub]) | ((first | ((with_reducible refine d_cnd ?_); refine And.intro ?_ ?_) | (with_reducible refine r_cnd ?_ ?_)); all_goals (intro hc; (try simp only [push_cast, Int.reduceEq, Int.reduceLT, Int.reduceLE, Int.reduceNe] at hc))) | ((with_reducible refine hK _ _ ?_); clear hK; clear K) | ((with_reducible first | refine d_blk ?_ | refine d_rt0 ?_ | refine d_sk0 ?_ | refine d_ex0 ?_); (try simp only [go_sem, Nat.reduceAdd, Nat.reduceEqDiff, Int.reduceToNat, Nat.reduceMul, Nat.reduceSub])) | (with_reducible refine r_rq (by first | decide | omega) ?_) | ((with_reducible refine r_nwc ?_); intro b) | ((with_reducible first | apply i_lds | apply i_ldsq | apply i_ld | apply i_ldq); exact rfl) | ((with_reducible first | apply i_ldn | apply i_ldnq); exact rfl; exact rfl; exact rfl) | (with_reducible first | refine r_ph0 ?_ | apply i_kp0) | ((with_reducible first | apply i_st | apply i_stl); (focus simp); exact rfl) | simp only [go_sem, Nat.reduceAdd, Nat.reduceEqDiff, Int.reduceToNat, Nat.reduceMul, Nat.reduceSub] | (clear hK; clear K))
  have e : IntKind.wrap .i64 ((64 : Int) - (s.length : Int)) = ((64 - s.length : Nat) : Int) := by rw [w64 (by omega) (by omega)]; omega
  rw [e]
  refine i_clp (f87 [0] (64 - s.length) (by simp; omega) (by omega)) ?_
  have hl : (Lib.repeatL [0] (64 - s.length)).length ≤ 64 := by rw [rep_one]; simp
  repeat' (first | ((with_reducible refine d_seq ?_); intro K hK) | ((with_reducible refine d_reg ?_); simp only [go_sem, Nat.reduceAdd, Nat.reduceEqDiff, Int.reduceToNat, Nat.reduceMul, Nat.reduceSub]) | ((first | ((with_reducible refine d_cnd ?_); refine And.intro ?_ ?_) | (with_reducible refine r_cnd ?_ ?_)); all_goals (intro hc; (try simp only [push_cast, Int.reduceEq, Int.reduceLT, Int.reduceLE, Int.reduceNe] at hc))) | ((with_reducible refine hK _ _ ?_); clear hK; clear K) | ((with_reducible first | refine d_blk ?_ | refine d_rt0 ?_ | refine d_sk0 ?_ | refine d_ex0 ?_); (try simp only [go_sem, Nat.reduceAdd, Nat.reduceEqDiff, Int.reduceToNat, Nat.reduceMul, Nat.reduceSub])) | (with_reducible refine r_rq (by first | decide | omega) ?_) | ((with_reducible refine r_nwc ?_); intro b) | ((with_reducible first | apply i_lds | apply i_ldsq | apply i_ld | apply i_ldq); exact rfl) | ((with_reducible first | apply i_ldn | apply i_ldnq); exact rfl; exact rfl; exact rfl) | (with_reducible first | refine r_ph0 ?_ | apply i_kp0) | ((with_reducible first | apply i_st | apply i_stl); (focus simp); exact rfl) | simp only [go_sem, Nat.reduceAdd, Nat.reduceEqDiff, Int.reduceToNat, Nat.reduceMul, Nat.reduceSub] | (clear hK; clear K))
  (with_reducible first | apply i_ret0 | apply i_ret2 | apply i_ret3 | apply i_ret); exact rfl
  rw [rep_one]; rfl
end Go.Sp
/- The disk: its parts in memory, what it is asked. -/
namespace Go.Sp
open Go Go.Proofs
set_option linter.unusedSimpArgs false
set_option linter.unusedVariables false
set_option maxRecDepth 10000
structure Dk where
  sb : Nat
  bb : Nat
  mb : Nat
  sure : List (List UInt8)
  es : Ents eI eS
  c : Nat
  up : Bool
  fuse : Int
  keep : Int
  acts : Int
  downs : Int
abbrev Dk.hd (D : Dk) : List Value := [.slice (some ⟨D.bb, 0, none⟩) D.sure.length D.sure.length, .map (some D.mb), .bool D.up, .int .i64 D.fuse, .int .u64 D.keep, .int .i64 D.acts, .int .i64 D.downs]
abbrev dkl (D : Dk) : List HP := [ar D.sb 59 D.hd, ar D.bb 9 (D.sure.map fun s => str s), mp eI eS D.mb D.es D.c]
def Dk.p (D : Dk) : Value := .pointer (some ⟨D.sb, 0, none⟩)
structure Dk.ok (D : Dk) : Prop where
  n0 : 0 < D.sure.length
  n1 : D.sure.length ≤ 8192
  l64 : ∀ s ∈ D.sure, s.length ≤ 64
  e64 : ∀ x ∈ D.es, x.2.1.length = 64
  ei : ∀ x ∈ D.es, 0 ≤ x.1 ∧ x.1 < (D.sure.length : Int)
  ec : ∀ x ∈ D.es, x.2.2 < D.c
  kn : (D.es.map (·.1)).Nodup
  bn : (D.es.map (·.2.2)).Nodup
  fu : -1 ≤ D.fuse ∧ D.fuse ≤ 9223372036854775807
  kp : 0 ≤ D.keep ∧ D.keep ≤ 18446744073709551615
def Dk.chk (D : Dk) (i : Int) : Int := if D.up = false then 9 else if i < 0 ∨ (D.sure.length : Int) ≤ i then 6 else 0
def Dk.get (D : Dk) (i : Int) : List UInt8 := (gk D.es i).getD (wh (D.sure.getD i.toNat []))

theorem f66 (D : Dk) (h : D.ok) : Fp eB Try.prog 66 #[D.p] (dkl D) false := fun L => by
  refine c66_fn rfl rfl ?_
  have := h.n0
  simp only [dkl, Dk.hd, Dk.p]
  repeat' (first | ((with_reducible refine d_seq ?_); intro K hK) | ((with_reducible refine d_reg ?_); simp only [go_sem, Nat.reduceAdd, Nat.reduceEqDiff, Int.reduceToNat, Nat.reduceMul, Nat.reduceSub]) | ((first | ((with_reducible refine d_cnd ?_); refine And.intro ?_ ?_) | (with_reducible refine r_cnd ?_ ?_)); all_goals (intro hc; (try simp only [push_cast, Int.reduceEq, Int.reduceLT, Int.reduceLE, Int.reduceNe] at hc))) | ((with_reducible refine hK _ _ ?_); clear hK; clear K) | ((with_reducible first | refine d_blk ?_ | refine d_rt0 ?_ | refine d_sk0 ?_ | refine d_ex0 ?_); (try simp only [go_sem, Nat.reduceAdd, Nat.reduceEqDiff, Int.reduceToNat, Nat.reduceMul, Nat.reduceSub])) | (with_reducible refine r_rq (by first | decide | omega) ?_) | ((with_reducible refine r_nwc ?_); intro b) | ((with_reducible first | apply i_lds | apply i_ldsq | apply i_ld | apply i_ldq); exact rfl) | ((with_reducible first | apply i_ldn | apply i_ldnq); exact rfl; exact rfl; exact rfl) | (with_reducible first | refine r_ph0 ?_ | apply i_kp0) | ((with_reducible first | apply i_st | apply i_stl); (focus simp); exact rfl) | simp only [go_sem, Nat.reduceAdd, Nat.reduceEqDiff, Int.reduceToNat, Nat.reduceMul, Nat.reduceSub] | (clear hK; clear K))
  (with_reducible first | apply i_ret0 | apply i_ret2 | apply i_ret3 | apply i_ret); exact rfl
  rw [beq_eq_false_iff_ne]; omega
theorem f66n : Fp eB Try.prog 66 #[.pointer none] [] true := fun L => by
  refine c66_fn rfl rfl ?_
  repeat' (first | ((with_reducible refine d_seq ?_); intro K hK) | ((with_reducible refine d_reg ?_); simp only [go_sem, Nat.reduceAdd, Nat.reduceEqDiff, Int.reduceToNat, Nat.reduceMul, Nat.reduceSub]) | ((first | ((with_reducible refine d_cnd ?_); refine And.intro ?_ ?_) | (with_reducible refine r_cnd ?_ ?_)); all_goals (intro hc; (try simp only [push_cast, Int.reduceEq, Int.reduceLT, Int.reduceLE, Int.reduceNe] at hc))) | ((with_reducible refine hK _ _ ?_); clear hK; clear K) | ((with_reducible first | refine d_blk ?_ | refine d_rt0 ?_ | refine d_sk0 ?_ | refine d_ex0 ?_); (try simp only [go_sem, Nat.reduceAdd, Nat.reduceEqDiff, Int.reduceToNat, Nat.reduceMul, Nat.reduceSub])) | (with_reducible refine r_rq (by first | decide | omega) ?_) | ((with_reducible refine r_nwc ?_); intro b) | ((with_reducible first | apply i_lds | apply i_ldsq | apply i_ld | apply i_ldq); exact rfl) | ((with_reducible first | apply i_ldn | apply i_ldnq); exact rfl; exact rfl; exact rfl) | (with_reducible first | refine r_ph0 ?_ | apply i_kp0) | ((with_reducible first | apply i_st | apply i_stl); (focus simp); exact rfl) | simp only [go_sem, Nat.reduceAdd, Nat.reduceEqDiff, Int.reduceToNat, Nat.reduceMul, Nat.reduceSub] | (clear hK; clear K))
  (with_reducible first | apply i_ret0 | apply i_ret2 | apply i_ret3 | apply i_ret); exact rfl
  rfl
theorem f67 (D : Dk) (h : D.ok) (i : Int) : Fp eI Try.prog 67 #[D.p, .int .i64 i] (dkl D) (D.chk i) := fun L => by
  refine c67_fn rfl rfl ?_
  simp only [Dk.p]
  repeat' ((fail_if_success with_reducible refine (id : E _ (ph _) → E _ (ph _)) ?_); first | ((with_reducible refine d_seq ?_); intro K hK) | ((with_reducible refine d_reg ?_); simp only [go_sem, Nat.reduceAdd, Nat.reduceEqDiff, Int.reduceToNat, Nat.reduceMul, Nat.reduceSub]) | ((first | ((with_reducible refine d_cnd ?_); refine And.intro ?_ ?_) | (with_reducible refine r_cnd ?_ ?_)); all_goals (intro hc; (try simp only [push_cast, Int.reduceEq, Int.reduceLT, Int.reduceLE, Int.reduceNe] at hc))) | ((with_reducible refine hK _ _ ?_); clear hK; clear K) | ((with_reducible first | refine d_blk ?_ | refine d_rt0 ?_ | refine d_sk0 ?_ | refine d_ex0 ?_); (try simp only [go_sem, Nat.reduceAdd, Nat.reduceEqDiff, Int.reduceToNat, Nat.reduceMul, Nat.reduceSub])) | (with_reducible refine r_rq (by first | decide | omega) ?_) | ((with_reducible refine r_nwc ?_); intro b) | ((with_reducible first | apply i_lds | apply i_ldsq | apply i_ld | apply i_ldq); exact rfl) | ((with_reducible first | apply i_ldn | apply i_ldnq); exact rfl; exact rfl; exact rfl) | (with_reducible first | refine r_ph0 ?_ | apply i_kp0) | ((with_reducible first | apply i_st | apply i_stl); (focus simp); exact rfl) | simp only [go_sem, Nat.reduceAdd, Nat.reduceEqDiff, Int.reduceToNat, Nat.reduceMul, Nat.reduceSub] | (clear hK; clear K))
  refine i_clp (f66 D h) ?_
  simp only [dkl, Dk.hd]
  repeat' (first | ((with_reducible refine d_seq ?_); intro K hK) | ((with_reducible refine d_reg ?_); simp only [go_sem, Nat.reduceAdd, Nat.reduceEqDiff, Int.reduceToNat, Nat.reduceMul, Nat.reduceSub]) | ((first | ((with_reducible refine d_cnd ?_); refine And.intro ?_ ?_) | (with_reducible refine r_cnd ?_ ?_)); all_goals (intro hc; (try simp only [push_cast, Int.reduceEq, Int.reduceLT, Int.reduceLE, Int.reduceNe] at hc))) | ((with_reducible refine hK _ _ ?_); clear hK; clear K) | ((with_reducible first | refine d_blk ?_ | refine d_rt0 ?_ | refine d_sk0 ?_ | refine d_ex0 ?_); (try simp only [go_sem, Nat.reduceAdd, Nat.reduceEqDiff, Int.reduceToNat, Nat.reduceMul, Nat.reduceSub])) | (with_reducible refine r_rq (by first | decide | omega) ?_) | ((with_reducible refine r_nwc ?_); intro b) | ((with_reducible first | apply i_lds | apply i_ldsq | apply i_ld | apply i_ldq); exact rfl) | ((with_reducible first | apply i_ldn | apply i_ldnq); exact rfl; exact rfl; exact rfl) | (with_reducible first | refine r_ph0 ?_ | apply i_kp0) | ((with_reducible first | apply i_st | apply i_stl); (focus simp); exact rfl) | simp only [go_sem, Nat.reduceAdd, Nat.reduceEqDiff, Int.reduceToNat, Nat.reduceMul, Nat.reduceSub] | (clear hK; clear K))
  all_goals ((with_reducible first | apply i_ret0 | apply i_ret2 | apply i_ret3 | apply i_ret); exact rfl; simp [Dk.chk, *]; try omega)
theorem Dk.chk_ok {D : Dk} {i : Int} (h : D.chk i = 0) : D.up = true ∧ 0 ≤ i ∧ i < D.sure.length := by
  unfold Dk.chk at h
  split at h
  · cases h
  · split at h
    · cases h
    · rename_i h1 h2
      refine ⟨by simpa using h1, by omega, by omega⟩
theorem getD_of {α : Type} {l : List α} {i : Nat} (d : α) (h : i < l.length) : l[i]? = some (l.getD i d) := by simp [h]
theorem f31 (D : Dk) (h : D.ok) (i : Int) : Fp (eT2 eS eI) Try.prog 31 #[D.p, .int .i64 i] (dkl D) (if D.chk i = 0 then D.get i else [], D.chk i) := fun L => by
  refine c31_fn rfl rfl ?_
  simp only [Dk.p]
  repeat' ((fail_if_success with_reducible refine (id : E _ (ph _) → E _ (ph _)) ?_); first | ((with_reducible refine d_seq ?_); intro K hK) | ((with_reducible refine d_reg ?_); simp only [go_sem, Nat.reduceAdd, Nat.reduceEqDiff, Int.reduceToNat, Nat.reduceMul, Nat.reduceSub]) | ((first | ((with_reducible refine d_cnd ?_); refine And.intro ?_ ?_) | (with_reducible refine r_cnd ?_ ?_)); all_goals (intro hc; (try simp only [push_cast, Int.reduceEq, Int.reduceLT, Int.reduceLE, Int.reduceNe] at hc))) | ((with_reducible refine hK _ _ ?_); clear hK; clear K) | ((with_reducible first | refine d_blk ?_ | refine d_rt0 ?_ | refine d_sk0 ?_ | refine d_ex0 ?_); (try simp only [go_sem, Nat.reduceAdd, Nat.reduceEqDiff, Int.reduceToNat, Nat.reduceMul, Nat.reduceSub])) | (with_reducible refine r_rq (by first | decide | omega) ?_) | ((with_reducible refine r_nwc ?_); intro b) | ((with_reducible first | apply i_lds | apply i_ldsq | apply i_ld | apply i_ldq); exact rfl) | ((with_reducible first | apply i_ldn | apply i_ldnq); exact rfl; exact rfl; exact rfl) | (with_reducible first | refine r_ph0 ?_ | apply i_kp0) | ((with_reducible first | apply i_st | apply i_stl); (focus simp); exact rfl) | simp only [go_sem, Nat.reduceAdd, Nat.reduceEqDiff, Int.reduceToNat, Nat.reduceMul, Nat.reduceSub] | (clear hK; clear K))
  refine i_clp (f67 D h i) ?_
  simp only [dkl, Dk.hd]
  repeat' (first | ((with_reducible refine d_seq ?_); intro K hK) | ((with_reducible refine d_reg ?_); simp only [go_sem, Nat.reduceAdd, Nat.reduceEqDiff, Int.reduceToNat, Nat.reduceMul, Nat.reduceSub]) | ((first | ((with_reducible refine d_cnd ?_); refine And.intro ?_ ?_) | (with_reducible refine r_cnd ?_ ?_)); all_goals (intro hc; (try simp only [push_cast, Int.reduceEq, Int.reduceLT, Int.reduceLE, Int.reduceNe] at hc))) | ((with_reducible refine hK _ _ ?_); clear hK; clear K) | ((with_reducible first | refine d_blk ?_ | refine d_rt0 ?_ | refine d_sk0 ?_ | refine d_ex0 ?_); (try simp only [go_sem, Nat.reduceAdd, Nat.reduceEqDiff, Int.reduceToNat, Nat.reduceMul, Nat.reduceSub])) | (with_reducible refine r_rq (by first | decide | omega) ?_) | ((with_reducible refine r_nwc ?_); intro b) | ((with_reducible first | apply i_lds | apply i_ldsq | apply i_ld | apply i_ldq); exact rfl) | ((with_reducible first | apply i_ldn | apply i_ldnq); exact rfl; exact rfl; exact rfl) | (with_reducible first | refine r_ph0 ?_ | apply i_kp0) | ((with_reducible first | apply i_st | apply i_stl); (focus simp); exact rfl) | simp only [go_sem, Nat.reduceAdd, Nat.reduceEqDiff, Int.reduceToNat, Nat.reduceMul, Nat.reduceSub] | (clear hK; clear K))
  · (with_reducible first | apply i_ret0 | apply i_ret2 | apply i_ret3 | apply i_ret); exact rfl
    simp [*]
  · have hk := Dk.chk_ok hc
    have hn : i.toNat < D.sure.length := by omega
    refine i_lk2 (ε := eS) [] (by kernel_rfl) ?_
    repeat' (first | ((with_reducible refine d_seq ?_); intro K hK) | ((with_reducible refine d_reg ?_); simp only [go_sem, Nat.reduceAdd, Nat.reduceEqDiff, Int.reduceToNat, Nat.reduceMul, Nat.reduceSub]) | ((first | ((with_reducible refine d_cnd ?_); refine And.intro ?_ ?_) | (with_reducible refine r_cnd ?_ ?_)); all_goals (intro hc; (try simp only [push_cast, Int.reduceEq, Int.reduceLT, Int.reduceLE, Int.reduceNe] at hc))) | ((with_reducible refine hK _ _ ?_); clear hK; clear K) | ((with_reducible first | refine d_blk ?_ | refine d_rt0 ?_ | refine d_sk0 ?_ | refine d_ex0 ?_); (try simp only [go_sem, Nat.reduceAdd, Nat.reduceEqDiff, Int.reduceToNat, Nat.reduceMul, Nat.reduceSub])) | (with_reducible refine r_rq (by first | decide | omega) ?_) | ((with_reducible refine r_nwc ?_); intro b) | ((with_reducible first | apply i_lds | apply i_ldsq | apply i_ld | apply i_ldq); exact rfl) | ((with_reducible first | apply i_ldn | apply i_ldnq); exact rfl; exact rfl; exact rfl) | (with_reducible first | refine r_ph0 ?_ | apply i_kp0) | ((with_reducible first | apply i_st | apply i_stl); (focus simp); exact rfl) | simp only [go_sem, Nat.reduceAdd, Nat.reduceEqDiff, Int.reduceToNat, Nat.reduceMul, Nat.reduceSub] | (clear hK; clear K))
    · (with_reducible first | apply i_ret0 | apply i_ret2 | apply i_ret3 | apply i_ret); exact rfl
      simp only [hc, if_true, Dk.get]
      cases hg : gk D.es i <;> simp_all
    · have hl : (D.sure.map fun s => str s)[i.toNat]? = some (str (D.sure.getD i.toNat [])) := by simp [hn]
      refine i_ld (e := eS) (by simpa using hl) ?_
      refine i_clp (f69 _ (h.l64 _ (by simp [hn]))) ?_
      repeat' (first | ((with_reducible refine d_seq ?_); intro K hK) | ((with_reducible refine d_reg ?_); simp only [go_sem, Nat.reduceAdd, Nat.reduceEqDiff, Int.reduceToNat, Nat.reduceMul, Nat.reduceSub]) | ((first | ((with_reducible refine d_cnd ?_); refine And.intro ?_ ?_) | (with_reducible refine r_cnd ?_ ?_)); all_goals (intro hc; (try simp only [push_cast, Int.reduceEq, Int.reduceLT, Int.reduceLE, Int.reduceNe] at hc))) | ((with_reducible refine hK _ _ ?_); clear hK; clear K) | ((with_reducible first | refine d_blk ?_ | refine d_rt0 ?_ | refine d_sk0 ?_ | refine d_ex0 ?_); (try simp only [go_sem, Nat.reduceAdd, Nat.reduceEqDiff, Int.reduceToNat, Nat.reduceMul, Nat.reduceSub])) | (with_reducible refine r_rq (by first | decide | omega) ?_) | ((with_reducible refine r_nwc ?_); intro b) | ((with_reducible first | apply i_lds | apply i_ldsq | apply i_ld | apply i_ldq); exact rfl) | ((with_reducible first | apply i_ldn | apply i_ldnq); exact rfl; exact rfl; exact rfl) | (with_reducible first | refine r_ph0 ?_ | apply i_kp0) | ((with_reducible first | apply i_st | apply i_stl); (focus simp); exact rfl) | simp only [go_sem, Nat.reduceAdd, Nat.reduceEqDiff, Int.reduceToNat, Nat.reduceMul, Nat.reduceSub] | (clear hK; clear K))
      (with_reducible first | apply i_ret0 | apply i_ret2 | apply i_ret3 | apply i_ret); exact rfl
      simp only [hc, if_true, Dk.get]
      cases hg : gk D.es i <;> simp_all
theorem f37 (D : Dk) (h : D.ok) : Fp eB Try.prog 37 #[D.p] (dkl D) D.up := fun L => by
  refine c37_fn rfl rfl ?_
  simp only [Dk.p]
  repeat' ((fail_if_success with_reducible refine (id : E _ (ph _) → E _ (ph _)) ?_); first | ((with_reducible refine d_seq ?_); intro K hK) | ((with_reducible refine d_reg ?_); simp only [go_sem, Nat.reduceAdd, Nat.reduceEqDiff, Int.reduceToNat, Nat.reduceMul, Nat.reduceSub]) | ((first | ((with_reducible refine d_cnd ?_); refine And.intro ?_ ?_) | (with_reducible refine r_cnd ?_ ?_)); all_goals (intro hc; (try simp only [push_cast, Int.reduceEq, Int.reduceLT, Int.reduceLE, Int.reduceNe] at hc))) | ((with_reducible refine hK _ _ ?_); clear hK; clear K) | ((with_reducible first | refine d_blk ?_ | refine d_rt0 ?_ | refine d_sk0 ?_ | refine d_ex0 ?_); (try simp only [go_sem, Nat.reduceAdd, Nat.reduceEqDiff, Int.reduceToNat, Nat.reduceMul, Nat.reduceSub])) | (with_reducible refine r_rq (by first | decide | omega) ?_) | ((with_reducible refine r_nwc ?_); intro b) | ((with_reducible first | apply i_lds | apply i_ldsq | apply i_ld | apply i_ldq); exact rfl) | ((with_reducible first | apply i_ldn | apply i_ldnq); exact rfl; exact rfl; exact rfl) | (with_reducible first | refine r_ph0 ?_ | apply i_kp0) | ((with_reducible first | apply i_st | apply i_stl); (focus simp); exact rfl) | simp only [go_sem, Nat.reduceAdd, Nat.reduceEqDiff, Int.reduceToNat, Nat.reduceMul, Nat.reduceSub] | (clear hK; clear K))
  refine i_clp (f66 D h) ?_
  simp only [dkl, Dk.hd]
  repeat' (first | ((with_reducible refine d_seq ?_); intro K hK) | ((with_reducible refine d_reg ?_); simp only [go_sem, Nat.reduceAdd, Nat.reduceEqDiff, Int.reduceToNat, Nat.reduceMul, Nat.reduceSub]) | ((first | ((with_reducible refine d_cnd ?_); refine And.intro ?_ ?_) | (with_reducible refine r_cnd ?_ ?_)); all_goals (intro hc; (try simp only [push_cast, Int.reduceEq, Int.reduceLT, Int.reduceLE, Int.reduceNe] at hc))) | ((with_reducible refine hK _ _ ?_); clear hK; clear K) | ((with_reducible first | refine d_blk ?_ | refine d_rt0 ?_ | refine d_sk0 ?_ | refine d_ex0 ?_); (try simp only [go_sem, Nat.reduceAdd, Nat.reduceEqDiff, Int.reduceToNat, Nat.reduceMul, Nat.reduceSub])) | (with_reducible refine r_rq (by first | decide | omega) ?_) | ((with_reducible refine r_nwc ?_); intro b) | ((with_reducible first | apply i_lds | apply i_ldsq | apply i_ld | apply i_ldq); exact rfl) | ((with_reducible first | apply i_ldn | apply i_ldnq); exact rfl; exact rfl; exact rfl) | (with_reducible first | refine r_ph0 ?_ | apply i_kp0) | ((with_reducible first | apply i_st | apply i_stl); (focus simp); exact rfl) | simp only [go_sem, Nat.reduceAdd, Nat.reduceEqDiff, Int.reduceToNat, Nat.reduceMul, Nat.reduceSub] | (clear hK; clear K))
  (with_reducible first | apply i_ret0 | apply i_ret2 | apply i_ret3 | apply i_ret); exact rfl
  rfl
theorem f26 (D : Dk) (h : D.ok) : Fp eI Try.prog 26 #[D.p] (dkl D) (D.sure.length : Int) := fun L => by
  refine c26_fn rfl rfl ?_
  simp only [Dk.p]
  repeat' ((fail_if_success with_reducible refine (id : E _ (ph _) → E _ (ph _)) ?_); first | ((with_reducible refine d_seq ?_); intro K hK) | ((with_reducible refine d_reg ?_); simp only [go_sem, Nat.reduceAdd, Nat.reduceEqDiff, Int.reduceToNat, Nat.reduceMul, Nat.reduceSub]) | ((first | ((with_reducible refine d_cnd ?_); refine And.intro ?_ ?_) | (with_reducible refine r_cnd ?_ ?_)); all_goals (intro hc; (try simp only [push_cast, Int.reduceEq, Int.reduceLT, Int.reduceLE, Int.reduceNe] at hc))) | ((with_reducible refine hK _ _ ?_); clear hK; clear K) | ((with_reducible first | refine d_blk ?_ | refine d_rt0 ?_ | refine d_sk0 ?_ | refine d_ex0 ?_); (try simp only [go_sem, Nat.reduceAdd, Nat.reduceEqDiff, Int.reduceToNat, Nat.reduceMul, Nat.reduceSub])) | (with_reducible refine r_rq (by first | decide | omega) ?_) | ((with_reducible refine r_nwc ?_); intro b) | ((with_reducible first | apply i_lds | apply i_ldsq | apply i_ld | apply i_ldq); exact rfl) | ((with_reducible first | apply i_ldn | apply i_ldnq); exact rfl; exact rfl; exact rfl) | (with_reducible first | refine r_ph0 ?_ | apply i_kp0) | ((with_reducible first | apply i_st | apply i_stl); (focus simp); exact rfl) | simp only [go_sem, Nat.reduceAdd, Nat.reduceEqDiff, Int.reduceToNat, Nat.reduceMul, Nat.reduceSub] | (clear hK; clear K))
  refine i_clp (f66 D h) ?_
  simp only [dkl, Dk.hd]
  repeat' (first | ((with_reducible refine d_seq ?_); intro K hK) | ((with_reducible refine d_reg ?_); simp only [go_sem, Nat.reduceAdd, Nat.reduceEqDiff, Int.reduceToNat, Nat.reduceMul, Nat.reduceSub]) | ((first | ((with_reducible refine d_cnd ?_); refine And.intro ?_ ?_) | (with_reducible refine r_cnd ?_ ?_)); all_goals (intro hc; (try simp only [push_cast, Int.reduceEq, Int.reduceLT, Int.reduceLE, Int.reduceNe] at hc))) | ((with_reducible refine hK _ _ ?_); clear hK; clear K) | ((with_reducible first | refine d_blk ?_ | refine d_rt0 ?_ | refine d_sk0 ?_ | refine d_ex0 ?_); (try simp only [go_sem, Nat.reduceAdd, Nat.reduceEqDiff, Int.reduceToNat, Nat.reduceMul, Nat.reduceSub])) | (with_reducible refine r_rq (by first | decide | omega) ?_) | ((with_reducible refine r_nwc ?_); intro b) | ((with_reducible first | apply i_lds | apply i_ldsq | apply i_ld | apply i_ldq); exact rfl) | ((with_reducible first | apply i_ldn | apply i_ldnq); exact rfl; exact rfl; exact rfl) | (with_reducible first | refine r_ph0 ?_ | apply i_kp0) | ((with_reducible first | apply i_st | apply i_stl); (focus simp); exact rfl) | simp only [go_sem, Nat.reduceAdd, Nat.reduceEqDiff, Int.reduceToNat, Nat.reduceMul, Nat.reduceSub] | (clear hK; clear K))
  (with_reducible first | apply i_ret0 | apply i_ret2 | apply i_ret3 | apply i_ret); exact rfl
  rfl
theorem f38 (D : Dk) (h : D.ok) : Fp eI Try.prog 38 #[D.p] (dkl D) D.acts := fun L => by
  refine c38_fn rfl rfl ?_
  simp only [Dk.p]
  repeat' ((fail_if_success with_reducible refine (id : E _ (ph _) → E _ (ph _)) ?_); first | ((with_reducible refine d_seq ?_); intro K hK) | ((with_reducible refine d_reg ?_); simp only [go_sem, Nat.reduceAdd, Nat.reduceEqDiff, Int.reduceToNat, Nat.reduceMul, Nat.reduceSub]) | ((first | ((with_reducible refine d_cnd ?_); refine And.intro ?_ ?_) | (with_reducible refine r_cnd ?_ ?_)); all_goals (intro hc; (try simp only [push_cast, Int.reduceEq, Int.reduceLT, Int.reduceLE, Int.reduceNe] at hc))) | ((with_reducible refine hK _ _ ?_); clear hK; clear K) | ((with_reducible first | refine d_blk ?_ | refine d_rt0 ?_ | refine d_sk0 ?_ | refine d_ex0 ?_); (try simp only [go_sem, Nat.reduceAdd, Nat.reduceEqDiff, Int.reduceToNat, Nat.reduceMul, Nat.reduceSub])) | (with_reducible refine r_rq (by first | decide | omega) ?_) | ((with_reducible refine r_nwc ?_); intro b) | ((with_reducible first | apply i_lds | apply i_ldsq | apply i_ld | apply i_ldq); exact rfl) | ((with_reducible first | apply i_ldn | apply i_ldnq); exact rfl; exact rfl; exact rfl) | (with_reducible first | refine r_ph0 ?_ | apply i_kp0) | ((with_reducible first | apply i_st | apply i_stl); (focus simp); exact rfl) | simp only [go_sem, Nat.reduceAdd, Nat.reduceEqDiff, Int.reduceToNat, Nat.reduceMul, Nat.reduceSub] | (clear hK; clear K))
  refine i_clp (f66 D h) ?_
  simp only [dkl, Dk.hd]
  repeat' (first | ((with_reducible refine d_seq ?_); intro K hK) | ((with_reducible refine d_reg ?_); simp only [go_sem, Nat.reduceAdd, Nat.reduceEqDiff, Int.reduceToNat, Nat.reduceMul, Nat.reduceSub]) | ((first | ((with_reducible refine d_cnd ?_); refine And.intro ?_ ?_) | (with_reducible refine r_cnd ?_ ?_)); all_goals (intro hc; (try simp only [push_cast, Int.reduceEq, Int.reduceLT, Int.reduceLE, Int.reduceNe] at hc))) | ((with_reducible refine hK _ _ ?_); clear hK; clear K) | ((with_reducible first | refine d_blk ?_ | refine d_rt0 ?_ | refine d_sk0 ?_ | refine d_ex0 ?_); (try simp only [go_sem, Nat.reduceAdd, Nat.reduceEqDiff, Int.reduceToNat, Nat.reduceMul, Nat.reduceSub])) | (with_reducible refine r_rq (by first | decide | omega) ?_) | ((with_reducible refine r_nwc ?_); intro b) | ((with_reducible first | apply i_lds | apply i_ldsq | apply i_ld | apply i_ldq); exact rfl) | ((with_reducible first | apply i_ldn | apply i_ldnq); exact rfl; exact rfl; exact rfl) | (with_reducible first | refine r_ph0 ?_ | apply i_kp0) | ((with_reducible first | apply i_st | apply i_stl); (focus simp); exact rfl) | simp only [go_sem, Nat.reduceAdd, Nat.reduceEqDiff, Int.reduceToNat, Nat.reduceMul, Nat.reduceSub] | (clear hK; clear K))
  (with_reducible first | apply i_ret0 | apply i_ret2 | apply i_ret3 | apply i_ret); exact rfl
  rfl
theorem f39 (D : Dk) (h : D.ok) : Fp eI Try.prog 39 #[D.p] (dkl D) D.downs := fun L => by
  refine c39_fn rfl rfl ?_
  simp only [Dk.p]
  repeat' ((fail_if_success with_reducible refine (id : E _ (ph _) → E _ (ph _)) ?_); first | ((with_reducible refine d_seq ?_); intro K hK) | ((with_reducible refine d_reg ?_); simp only [go_sem, Nat.reduceAdd, Nat.reduceEqDiff, Int.reduceToNat, Nat.reduceMul, Nat.reduceSub]) | ((first | ((with_reducible refine d_cnd ?_); refine And.intro ?_ ?_) | (with_reducible refine r_cnd ?_ ?_)); all_goals (intro hc; (try simp only [push_cast, Int.reduceEq, Int.reduceLT, Int.reduceLE, Int.reduceNe] at hc))) | ((with_reducible refine hK _ _ ?_); clear hK; clear K) | ((with_reducible first | refine d_blk ?_ | refine d_rt0 ?_ | refine d_sk0 ?_ | refine d_ex0 ?_); (try simp only [go_sem, Nat.reduceAdd, Nat.reduceEqDiff, Int.reduceToNat, Nat.reduceMul, Nat.reduceSub])) | (with_reducible refine r_rq (by first | decide | omega) ?_) | ((with_reducible refine r_nwc ?_); intro b) | ((with_reducible first | apply i_lds | apply i_ldsq | apply i_ld | apply i_ldq); exact rfl) | ((with_reducible first | apply i_ldn | apply i_ldnq); exact rfl; exact rfl; exact rfl) | (with_reducible first | refine r_ph0 ?_ | apply i_kp0) | ((with_reducible first | apply i_st | apply i_stl); (focus simp); exact rfl) | simp only [go_sem, Nat.reduceAdd, Nat.reduceEqDiff, Int.reduceToNat, Nat.reduceMul, Nat.reduceSub] | (clear hK; clear K))
  refine i_clp (f66 D h) ?_
  simp only [dkl, Dk.hd]
  repeat' (first | ((with_reducible refine d_seq ?_); intro K hK) | ((with_reducible refine d_reg ?_); simp only [go_sem, Nat.reduceAdd, Nat.reduceEqDiff, Int.reduceToNat, Nat.reduceMul, Nat.reduceSub]) | ((first | ((with_reducible refine d_cnd ?_); refine And.intro ?_ ?_) | (with_reducible refine r_cnd ?_ ?_)); all_goals (intro hc; (try simp only [push_cast, Int.reduceEq, Int.reduceLT, Int.reduceLE, Int.reduceNe] at hc))) | ((with_reducible refine hK _ _ ?_); clear hK; clear K) | ((with_reducible first | refine d_blk ?_ | refine d_rt0 ?_ | refine d_sk0 ?_ | refine d_ex0 ?_); (try simp only [go_sem, Nat.reduceAdd, Nat.reduceEqDiff, Int.reduceToNat, Nat.reduceMul, Nat.reduceSub])) | (with_reducible refine r_rq (by first | decide | omega) ?_) | ((with_reducible refine r_nwc ?_); intro b) | ((with_reducible first | apply i_lds | apply i_ldsq | apply i_ld | apply i_ldq); exact rfl) | ((with_reducible first | apply i_ldn | apply i_ldnq); exact rfl; exact rfl; exact rfl) | (with_reducible first | refine r_ph0 ?_ | apply i_kp0) | ((with_reducible first | apply i_st | apply i_stl); (focus simp); exact rfl) | simp only [go_sem, Nat.reduceAdd, Nat.reduceEqDiff, Int.reduceToNat, Nat.reduceMul, Nat.reduceSub] | (clear hK; clear K))
  (with_reducible first | apply i_ret0 | apply i_ret2 | apply i_ret3 | apply i_ret); exact rfl
  rfl
theorem f41 (D : Dk) (h : D.ok) : Fq eN Try.prog 41 #[D.p] (dkl D) (dkl { D with fuse := -1 }) () := fun L => by
  refine c41_fn rfl rfl ?_
  simp only [Dk.p]
  repeat' ((fail_if_success with_reducible refine (id : E _ (ph _) → E _ (ph _)) ?_); first | ((with_reducible refine d_seq ?_); intro K hK) | ((with_reducible refine d_reg ?_); simp only [go_sem, Nat.reduceAdd, Nat.reduceEqDiff, Int.reduceToNat, Nat.reduceMul, Nat.reduceSub]) | ((first | ((with_reducible refine d_cnd ?_); refine And.intro ?_ ?_) | (with_reducible refine r_cnd ?_ ?_)); all_goals (intro hc; (try simp only [push_cast, Int.reduceEq, Int.reduceLT, Int.reduceLE, Int.reduceNe] at hc))) | ((with_reducible refine hK _ _ ?_); clear hK; clear K) | ((with_reducible first | refine d_blk ?_ | refine d_rt0 ?_ | refine d_sk0 ?_ | refine d_ex0 ?_); (try simp only [go_sem, Nat.reduceAdd, Nat.reduceEqDiff, Int.reduceToNat, Nat.reduceMul, Nat.reduceSub])) | (with_reducible refine r_rq (by first | decide | omega) ?_) | ((with_reducible refine r_nwc ?_); intro b) | ((with_reducible first | apply i_lds | apply i_ldsq | apply i_ld | apply i_ldq); exact rfl) | ((with_reducible first | apply i_ldn | apply i_ldnq); exact rfl; exact rfl; exact rfl) | (with_reducible first | refine r_ph0 ?_ | apply i_kp0) | ((with_reducible first | apply i_st | apply i_stl); (focus simp); exact rfl) | simp only [go_sem, Nat.reduceAdd, Nat.reduceEqDiff, Int.reduceToNat, Nat.reduceMul, Nat.reduceSub] | (clear hK; clear K))
  refine i_clp (f66 D h) ?_
  simp only [dkl, Dk.hd]
  repeat' (first | ((with_reducible refine d_seq ?_); intro K hK) | ((with_reducible refine d_reg ?_); simp only [go_sem, Nat.reduceAdd, Nat.reduceEqDiff, Int.reduceToNat, Nat.reduceMul, Nat.reduceSub]) | ((first | ((with_reducible refine d_cnd ?_); refine And.intro ?_ ?_) | (with_reducible refine r_cnd ?_ ?_)); all_goals (intro hc; (try simp only [push_cast, Int.reduceEq, Int.reduceLT, Int.reduceLE, Int.reduceNe] at hc))) | ((with_reducible refine hK _ _ ?_); clear hK; clear K) | ((with_reducible first | refine d_blk ?_ | refine d_rt0 ?_ | refine d_sk0 ?_ | refine d_ex0 ?_); (try simp only [go_sem, Nat.reduceAdd, Nat.reduceEqDiff, Int.reduceToNat, Nat.reduceMul, Nat.reduceSub])) | (with_reducible refine r_rq (by first | decide | omega) ?_) | ((with_reducible refine r_nwc ?_); intro b) | ((with_reducible first | apply i_lds | apply i_ldsq | apply i_ld | apply i_ldq); exact rfl) | ((with_reducible first | apply i_ldn | apply i_ldnq); exact rfl; exact rfl; exact rfl) | (with_reducible first | refine r_ph0 ?_ | apply i_kp0) | ((with_reducible first | apply i_st | apply i_stl); (focus simp); exact rfl) | simp only [go_sem, Nat.reduceAdd, Nat.reduceEqDiff, Int.reduceToNat, Nat.reduceMul, Nat.reduceSub] | (clear hK; clear K))
  (with_reducible first | apply i_ret0 | apply i_ret2 | apply i_ret3 | apply i_ret); exact rfl
theorem f30 (D : Dk) (h : D.ok) : Fq eI Try.prog 30 #[D.p] (dkl D) (dkl { D with up := true }) (if D.up then 19 else 0) := fun L => by
  refine c30_fn rfl rfl ?_
  simp only [Dk.p]
  repeat' ((fail_if_success with_reducible refine (id : E _ (ph _) → E _ (ph _)) ?_); first | ((with_reducible refine d_seq ?_); intro K hK) | ((with_reducible refine d_reg ?_); simp only [go_sem, Nat.reduceAdd, Nat.reduceEqDiff, Int.reduceToNat, Nat.reduceMul, Nat.reduceSub]) | ((first | ((with_reducible refine d_cnd ?_); refine And.intro ?_ ?_) | (with_reducible refine r_cnd ?_ ?_)); all_goals (intro hc; (try simp only [push_cast, Int.reduceEq, Int.reduceLT, Int.reduceLE, Int.reduceNe] at hc))) | ((with_reducible refine hK _ _ ?_); clear hK; clear K) | ((with_reducible first | refine d_blk ?_ | refine d_rt0 ?_ | refine d_sk0 ?_ | refine d_ex0 ?_); (try simp only [go_sem, Nat.reduceAdd, Nat.reduceEqDiff, Int.reduceToNat, Nat.reduceMul, Nat.reduceSub])) | (with_reducible refine r_rq (by first | decide | omega) ?_) | ((with_reducible refine r_nwc ?_); intro b) | ((with_reducible first | apply i_lds | apply i_ldsq | apply i_ld | apply i_ldq); exact rfl) | ((with_reducible first | apply i_ldn | apply i_ldnq); exact rfl; exact rfl; exact rfl) | (with_reducible first | refine r_ph0 ?_ | apply i_kp0) | ((with_reducible first | apply i_st | apply i_stl); (focus simp); exact rfl) | simp only [go_sem, Nat.reduceAdd, Nat.reduceEqDiff, Int.reduceToNat, Nat.reduceMul, Nat.reduceSub] | (clear hK; clear K))
  refine i_clp (f66 D h) ?_
  cases hu : D.up
  all_goals (simp only [dkl, Dk.hd, hu]; repeat' (first | ((with_reducible refine d_seq ?_); intro K hK) | ((with_reducible refine d_reg ?_); simp only [go_sem, Nat.reduceAdd, Nat.reduceEqDiff, Int.reduceToNat, Nat.reduceMul, Nat.reduceSub]) | ((first | ((with_reducible refine d_cnd ?_); refine And.intro ?_ ?_) | (with_reducible refine r_cnd ?_ ?_)); all_goals (intro hc; (try simp only [push_cast, Int.reduceEq, Int.reduceLT, Int.reduceLE, Int.reduceNe] at hc))) | ((with_reducible refine hK _ _ ?_); clear hK; clear K) | ((with_reducible first | refine d_blk ?_ | refine d_rt0 ?_ | refine d_sk0 ?_ | refine d_ex0 ?_); (try simp only [go_sem, Nat.reduceAdd, Nat.reduceEqDiff, Int.reduceToNat, Nat.reduceMul, Nat.reduceSub])) | (with_reducible refine r_rq (by first | decide | omega) ?_) | ((with_reducible refine r_nwc ?_); intro b) | ((with_reducible first | apply i_lds | apply i_ldsq | apply i_ld | apply i_ldq); exact rfl) | ((with_reducible first | apply i_ldn | apply i_ldnq); exact rfl; exact rfl; exact rfl) | (with_reducible first | refine r_ph0 ?_ | apply i_kp0) | ((with_reducible first | apply i_st | apply i_stl); (focus simp); exact rfl) | simp only [go_sem, Nat.reduceAdd, Nat.reduceEqDiff, Int.reduceToNat, Nat.reduceMul, Nat.reduceSub] | (clear hK; clear K)))
  all_goals ((with_reducible first | apply i_ret0 | apply i_ret2 | apply i_ret3 | apply i_ret); exact rfl; simp [hu])
def Dk.arm (D : Dk) (n k : Int) : Int × Dk := if D.chk 0 = 0 then (if n < 0 then (1, D) else (0, { D with fuse := n, keep := k })) else (D.chk 0, D)
theorem f42 (D : Dk) (h : D.ok) (n k : Int) : Fq eI Try.prog 42 #[D.p, .int .i64 n, .int .u64 k] (dkl D) (dkl (D.arm n k).2) (D.arm n k).1 := by
  unfold Dk.arm
  by_cases h0 : D.chk 0 = 0 <;> by_cases hn : n < 0 <;> simp only [h0, hn, if_true, if_false]
  all_goals
    intro L
    refine c42_fn rfl rfl ?_
    simp only [Dk.p]
    repeat' ((fail_if_success with_reducible refine (id : E _ (ph _) → E _ (ph _)) ?_); first | ((with_reducible refine d_seq ?_); intro K hK) | ((with_reducible refine d_reg ?_); simp only [go_sem, Nat.reduceAdd, Nat.reduceEqDiff, Int.reduceToNat, Nat.reduceMul, Nat.reduceSub]) | ((first | ((with_reducible refine d_cnd ?_); refine And.intro ?_ ?_) | (with_reducible refine r_cnd ?_ ?_)); all_goals (intro hc; (try simp only [push_cast, Int.reduceEq, Int.reduceLT, Int.reduceLE, Int.reduceNe] at hc))) | ((with_reducible refine hK _ _ ?_); clear hK; clear K) | ((with_reducible first | refine d_blk ?_ | refine d_rt0 ?_ | refine d_sk0 ?_ | refine d_ex0 ?_); (try simp only [go_sem, Nat.reduceAdd, Nat.reduceEqDiff, Int.reduceToNat, Nat.reduceMul, Nat.reduceSub])) | (with_reducible refine r_rq (by first | decide | omega) ?_) | ((with_reducible refine r_nwc ?_); intro b) | ((with_reducible first | apply i_lds | apply i_ldsq | apply i_ld | apply i_ldq); exact rfl) | ((with_reducible first | apply i_ldn | apply i_ldnq); exact rfl; exact rfl; exact rfl) | (with_reducible first | refine r_ph0 ?_ | apply i_kp0) | ((with_reducible first | apply i_st | apply i_stl); (focus simp); exact rfl) | simp only [go_sem, Nat.reduceAdd, Nat.reduceEqDiff, Int.reduceToNat, Nat.reduceMul, Nat.reduceSub] | (clear hK; clear K))
    refine i_clp (f67 D h 0) ?_
    simp only [dkl, Dk.hd]
    repeat' (first | ((with_reducible refine d_seq ?_); intro K hK) | ((with_reducible refine d_reg ?_); simp only [go_sem, Nat.reduceAdd, Nat.reduceEqDiff, Int.reduceToNat, Nat.reduceMul, Nat.reduceSub]) | ((first | ((with_reducible refine d_cnd ?_); refine And.intro ?_ ?_) | (with_reducible refine r_cnd ?_ ?_)); all_goals (intro hc; (try simp only [push_cast, Int.reduceEq, Int.reduceLT, Int.reduceLE, Int.reduceNe] at hc))) | ((with_reducible refine hK _ _ ?_); clear hK; clear K) | ((with_reducible first | refine d_blk ?_ | refine d_rt0 ?_ | refine d_sk0 ?_ | refine d_ex0 ?_); (try simp only [go_sem, Nat.reduceAdd, Nat.reduceEqDiff, Int.reduceToNat, Nat.reduceMul, Nat.reduceSub])) | (with_reducible refine r_rq (by first | decide | omega) ?_) | ((with_reducible refine r_nwc ?_); intro b) | ((with_reducible first | apply i_lds | apply i_ldsq | apply i_ld | apply i_ldq); exact rfl) | ((with_reducible first | apply i_ldn | apply i_ldnq); exact rfl; exact rfl; exact rfl) | (with_reducible first | refine r_ph0 ?_ | apply i_kp0) | ((with_reducible first | apply i_st | apply i_stl); (focus simp); exact rfl) | simp only [go_sem, Nat.reduceAdd, Nat.reduceEqDiff, Int.reduceToNat, Nat.reduceMul, Nat.reduceSub] | (clear hK; clear K))
    all_goals first | contradiction | omega | ((with_reducible first | apply i_ret0 | apply i_ret2 | apply i_ret3 | apply i_ret); exact rfl; rfl)
end Go.Sp
/- The disk: how it is made; what waits. -/
namespace Go.Sp
open Go Go.Proofs
set_option linter.unusedSimpArgs false
set_option linter.unusedVariables false
set_option maxRecDepth 10000
def Dk.new (sb bb mb n : Nat) : Dk := ⟨sb, bb, mb, List.replicate n [], [], 0, true, -1, 0, 0, 0⟩
theorem Dk.new_ok {sb bb mb n : Nat} (h0 : 0 < n) (h1 : n ≤ 8192) : (Dk.new sb bb mb n).ok := by
  constructor <;> simp_all [Dk.new]
theorem f25 (n : Nat) (h0 : 0 < n) (h1 : n ≤ 8192) : Fn (eT2 eP eI) Try.prog 25 #[.int .i64 (n : Int)] [] fun y X => ∃ sb bb mb, y = (some ⟨sb, 0, none⟩, 0) ∧ X = dkl (Dk.new sb bb mb n) := fun L => by
  refine c25_fn rfl rfl ?_
  repeat' (first | ((with_reducible refine d_seq ?_); intro K hK) | ((with_reducible refine d_reg ?_); simp only [go_sem, Nat.reduceAdd, Nat.reduceEqDiff, Int.reduceToNat, Nat.reduceMul, Nat.reduceSub]) | ((first | ((with_reducible refine d_cnd ?_); refine And.intro ?_ ?_) | (with_reducible refine r_cnd ?_ ?_)); all_goals (intro hc; (try simp only [push_cast, Int.reduceEq, Int.reduceLT, Int.reduceLE, Int.reduceNe] at hc))) | ((with_reducible refine hK _ _ ?_); clear hK; clear K) | ((with_reducible first | refine d_blk ?_ | refine d_rt0 ?_ | refine d_sk0 ?_ | refine d_ex0 ?_); (try simp only [go_sem, Nat.reduceAdd, Nat.reduceEqDiff, Int.reduceToNat, Nat.reduceMul, Nat.reduceSub])) | (with_reducible refine r_rq (by first | decide | omega) ?_) | ((with_reducible refine r_nwc ?_); intro b) | ((with_reducible first | apply i_lds | apply i_ldsq | apply i_ld | apply i_ldq); exact rfl) | ((with_reducible first | apply i_ldn | apply i_ldnq); exact rfl; exact rfl; exact rfl) | (with_reducible first | refine r_ph0 ?_ | apply i_kp0) | ((with_reducible first | apply i_st | apply i_stl); (focus simp); exact rfl) | simp only [go_sem, Nat.reduceAdd, Nat.reduceEqDiff, Int.reduceToNat, Nat.reduceMul, Nat.reduceSub] | (clear hK; clear K))
  all_goals try (exfalso; omega)
  refine r_mk (el := 9) n (str []) (by kernel_rfl) rfl (by omega) fun bb => ?_
  refine r_nwm eI eS fun mb => ?_
  refine r_nwc fun sb => ?_
  repeat' (first | ((with_reducible refine d_seq ?_); intro K hK) | ((with_reducible refine d_reg ?_); simp only [go_sem, Nat.reduceAdd, Nat.reduceEqDiff, Int.reduceToNat, Nat.reduceMul, Nat.reduceSub]) | ((first | ((with_reducible refine d_cnd ?_); refine And.intro ?_ ?_) | (with_reducible refine r_cnd ?_ ?_)); all_goals (intro hc; (try simp only [push_cast, Int.reduceEq, Int.reduceLT, Int.reduceLE, Int.reduceNe] at hc))) | ((with_reducible refine hK _ _ ?_); clear hK; clear K) | ((with_reducible first | refine d_blk ?_ | refine d_rt0 ?_ | refine d_sk0 ?_ | refine d_ex0 ?_); (try simp only [go_sem, Nat.reduceAdd, Nat.reduceEqDiff, Int.reduceToNat, Nat.reduceMul, Nat.reduceSub])) | (with_reducible refine r_rq (by first | decide | omega) ?_) | ((with_reducible refine r_nwc ?_); intro b) | ((with_reducible first | apply i_lds | apply i_ldsq | apply i_ld | apply i_ldq); exact rfl) | ((with_reducible first | apply i_ldn | apply i_ldnq); exact rfl; exact rfl; exact rfl) | (with_reducible first | refine r_ph0 ?_ | apply i_kp0) | ((with_reducible first | apply i_st | apply i_stl); (focus simp); exact rfl) | simp only [go_sem, Nat.reduceAdd, Nat.reduceEqDiff, Int.reduceToNat, Nat.reduceMul, Nat.reduceSub] | (clear hK; clear K))
  refine r_done (x := (some ⟨sb, 0, none⟩, 0)) (dkl (Dk.new sb bb mb n)) rfl ⟨sb, bb, mb, rfl, rfl⟩ ?_
  have hl : (List.replicate n ([] : List UInt8)).map (fun s => str s) = List.replicate n (str []) := by simp
  simp only [dkl, Dk.hd, Dk.new, hl, List.length_replicate]
  exact SX.p
theorem f25n (n : Int) (h : n < 1 ∨ 8192 < n) : Fp (eT2 eP eI) Try.prog 25 #[.int .i64 n] [] (none, 1) := fun L => by
  refine c25_fn rfl rfl ?_
  repeat' (first | ((with_reducible refine d_seq ?_); intro K hK) | ((with_reducible refine d_reg ?_); simp only [go_sem, Nat.reduceAdd, Nat.reduceEqDiff, Int.reduceToNat, Nat.reduceMul, Nat.reduceSub]) | ((first | ((with_reducible refine d_cnd ?_); refine And.intro ?_ ?_) | (with_reducible refine r_cnd ?_ ?_)); all_goals (intro hc; (try simp only [push_cast, Int.reduceEq, Int.reduceLT, Int.reduceLE, Int.reduceNe] at hc))) | ((with_reducible refine hK _ _ ?_); clear hK; clear K) | ((with_reducible first | refine d_blk ?_ | refine d_rt0 ?_ | refine d_sk0 ?_ | refine d_ex0 ?_); (try simp only [go_sem, Nat.reduceAdd, Nat.reduceEqDiff, Int.reduceToNat, Nat.reduceMul, Nat.reduceSub])) | (with_reducible refine r_rq (by first | decide | omega) ?_) | ((with_reducible refine r_nwc ?_); intro b) | ((with_reducible first | apply i_lds | apply i_ldsq | apply i_ld | apply i_ldq); exact rfl) | ((with_reducible first | apply i_ldn | apply i_ldnq); exact rfl; exact rfl; exact rfl) | (with_reducible first | refine r_ph0 ?_ | apply i_kp0) | ((with_reducible first | apply i_st | apply i_stl); (focus simp); exact rfl) | simp only [go_sem, Nat.reduceAdd, Nat.reduceEqDiff, Int.reduceToNat, Nat.reduceMul, Nat.reduceSub] | (clear hK; clear K))
  all_goals first | contradiction | omega | ((with_reducible first | apply i_ret0 | apply i_ret2 | apply i_ret3 | apply i_ret); exact rfl; rfl)
/-- The sectors that wait, rising. -/
def Dk.keys (D : Dk) : List Int := (D.es.map (·.1)).mergeSort fun x y => decide (x ≤ y)
theorem sort_perm {l l' : List Int} (h : l.Perm l') : l.mergeSort (fun x y => decide (x ≤ y)) = l'.mergeSort (fun x y => decide (x ≤ y)) := by
  have tr : ∀ a b c : Int, decide (a ≤ b) = true → decide (b ≤ c) = true → decide (a ≤ c) = true := by intro a b c h1 h2; simp at *; omega
  have tt : ∀ a b : Int, (decide (a ≤ b) || decide (b ≤ a)) = true := by intro a b; simp; omega
  refine List.Perm.eq_of_pairwise (le := fun a b => decide (a ≤ b) = true) ?_ (List.pairwise_mergeSort tr tt l) (List.pairwise_mergeSort tr tt l') (((List.mergeSort_perm _ _).trans h).trans (List.mergeSort_perm _ _).symm)
  intro a b _ _ h1 h2
  simp at h1 h2
  omega
theorem f43 (D : Dk) (h : D.ok) (hlen : D.es.length ≤ 8192) : Fn eSl Try.prog 43 #[D.p] (dkl D) fun y X => X = ow 3 1 y (D.keys.map fun n => .int .i64 n) :: dkl D ∧ y.2.1 = D.keys.length := fun L => by
  refine c43_fn rfl rfl ?_
  simp only [Dk.p]
  repeat' ((fail_if_success with_reducible refine (id : E _ (ph _) → E _ (ph _)) ?_); first | ((with_reducible refine d_seq ?_); intro K hK) | ((with_reducible refine d_reg ?_); simp only [go_sem, Nat.reduceAdd, Nat.reduceEqDiff, Int.reduceToNat, Nat.reduceMul, Nat.reduceSub]) | ((first | ((with_reducible refine d_cnd ?_); refine And.intro ?_ ?_) | (with_reducible refine r_cnd ?_ ?_)); all_goals (intro hc; (try simp only [push_cast, Int.reduceEq, Int.reduceLT, Int.reduceLE, Int.reduceNe] at hc))) | ((with_reducible refine hK _ _ ?_); clear hK; clear K) | ((with_reducible first | refine d_blk ?_ | refine d_rt0 ?_ | refine d_sk0 ?_ | refine d_ex0 ?_); (try simp only [go_sem, Nat.reduceAdd, Nat.reduceEqDiff, Int.reduceToNat, Nat.reduceMul, Nat.reduceSub])) | (with_reducible refine r_rq (by first | decide | omega) ?_) | ((with_reducible refine r_nwc ?_); intro b) | ((with_reducible first | apply i_lds | apply i_ldsq | apply i_ld | apply i_ldq); exact rfl) | ((with_reducible first | apply i_ldn | apply i_ldnq); exact rfl; exact rfl; exact rfl) | (with_reducible first | refine r_ph0 ?_ | apply i_kp0) | ((with_reducible first | apply i_st | apply i_stl); (focus simp); exact rfl) | simp only [go_sem, Nat.reduceAdd, Nat.reduceEqDiff, Int.reduceToNat, Nat.reduceMul, Nat.reduceSub] | (clear hK; clear K))
  refine i_clp (f66 D h) ?_
  simp only [dkl, Dk.hd]
  repeat' (first | ((with_reducible refine d_seq ?_); intro K hK) | ((with_reducible refine d_reg ?_); simp only [go_sem, Nat.reduceAdd, Nat.reduceEqDiff, Int.reduceToNat, Nat.reduceMul, Nat.reduceSub]) | ((first | ((with_reducible refine d_cnd ?_); refine And.intro ?_ ?_) | (with_reducible refine r_cnd ?_ ?_)); all_goals (intro hc; (try simp only [push_cast, Int.reduceEq, Int.reduceLT, Int.reduceLE, Int.reduceNe] at hc))) | ((with_reducible refine hK _ _ ?_); clear hK; clear K) | ((with_reducible first | refine d_blk ?_ | refine d_rt0 ?_ | refine d_sk0 ?_ | refine d_ex0 ?_); (try simp only [go_sem, Nat.reduceAdd, Nat.reduceEqDiff, Int.reduceToNat, Nat.reduceMul, Nat.reduceSub])) | (with_reducible refine r_rq (by first | decide | omega) ?_) | ((with_reducible refine r_nwc ?_); intro b) | ((with_reducible first | apply i_lds | apply i_ldsq | apply i_ld | apply i_ldq); exact rfl) | ((with_reducible first | apply i_ldn | apply i_ldnq); exact rfl; exact rfl; exact rfl) | (with_reducible first | refine r_ph0 ?_ | apply i_kp0) | ((with_reducible first | apply i_st | apply i_stl); (focus simp); exact rfl) | simp only [go_sem, Nat.reduceAdd, Nat.reduceEqDiff, Int.reduceToNat, Nat.reduceMul, Nat.reduceSub] | (clear hK; clear K))
  refine i_mrng (κ := eI) (ε := eS) (a := 3) (b := 9) (by kernel_rfl) fun it => ?_
  refine r_nilow 3 1 ?_
  repeat' (first | ((with_reducible refine d_seq ?_); intro K hK) | ((with_reducible refine d_reg ?_); simp only [go_sem, Nat.reduceAdd, Nat.reduceEqDiff, Int.reduceToNat, Nat.reduceMul, Nat.reduceSub]) | ((first | ((with_reducible refine d_cnd ?_); refine And.intro ?_ ?_) | (with_reducible refine r_cnd ?_ ?_)); all_goals (intro hc; (try simp only [push_cast, Int.reduceEq, Int.reduceLT, Int.reduceLE, Int.reduceNe] at hc))) | ((with_reducible refine hK _ _ ?_); clear hK; clear K) | ((with_reducible first | refine d_blk ?_ | refine d_rt0 ?_ | refine d_sk0 ?_ | refine d_ex0 ?_); (try simp only [go_sem, Nat.reduceAdd, Nat.reduceEqDiff, Int.reduceToNat, Nat.reduceMul, Nat.reduceSub])) | (with_reducible refine r_rq (by first | decide | omega) ?_) | ((with_reducible refine r_nwc ?_); intro b) | ((with_reducible first | apply i_lds | apply i_ldsq | apply i_ld | apply i_ldq); exact rfl) | ((with_reducible first | apply i_ldn | apply i_ldnq); exact rfl; exact rfl; exact rfl) | (with_reducible first | refine r_ph0 ?_ | apply i_kp0) | ((with_reducible first | apply i_st | apply i_stl); (focus simp); exact rfl) | simp only [go_sem, Nat.reduceAdd, Nat.reduceEqDiff, Int.reduceToNat, Nat.reduceMul, Nat.reduceSub] | (clear hK; clear K))
  refine d_lp [3, 11] (fun s : SlV × Ents eI eS × Ents eI eS => [(3, .slice s.1.1 s.1.2.1 s.1.2.2), (11, .pointer (some ⟨it, 0, none⟩))])
    (fun s => ow 3 1 s.1 ((s.2.1.map fun x => (x.1 : Int)).map fun n => .int .i64 n) :: blk it (.mapIter (some D.mb) D.c (sn s.2.1) D.c) :: (dkl D ++ L)) (fun s => Rg D.es s.2.1 s.2.2 ∧ s.1.2.1 = s.2.1.length) (fun s => s.2.2.length) ((none, 0, 0), [], D.es) rfl ?_ ⟨Rg.start _, rfl⟩ ?_
  · show Sub (ow 3 1 (none, 0, 0) [] :: blk it (.mapIter (some D.mb) D.c #[] D.c) :: (dkl D ++ L)) _
    exact SX.p
  rintro ⟨⟨op, on, oc⟩, S, R⟩ ⟨hR, ho⟩
  dsimp only at ho hR ⊢
  have hlS : S.length + R.length = D.es.length := by rw [← List.length_append]; exact hR.length_eq
  repeat' (first | ((with_reducible refine d_seq ?_); intro K hK) | ((with_reducible refine d_reg ?_); simp only [go_sem, Nat.reduceAdd, Nat.reduceEqDiff, Int.reduceToNat, Nat.reduceMul, Nat.reduceSub]) | ((first | ((with_reducible refine d_cnd ?_); refine And.intro ?_ ?_) | (with_reducible refine r_cnd ?_ ?_)); all_goals (intro hc; (try simp only [push_cast, Int.reduceEq, Int.reduceLT, Int.reduceLE, Int.reduceNe] at hc))) | ((with_reducible refine hK _ _ ?_); clear hK; clear K) | ((with_reducible first | refine d_blk ?_ | refine d_rt0 ?_ | refine d_sk0 ?_ | refine d_ex0 ?_); (try simp only [go_sem, Nat.reduceAdd, Nat.reduceEqDiff, Int.reduceToNat, Nat.reduceMul, Nat.reduceSub])) | (with_reducible refine r_rq (by first | decide | omega) ?_) | ((with_reducible refine r_nwc ?_); intro b) | ((with_reducible first | apply i_lds | apply i_ldsq | apply i_ld | apply i_ldq); exact rfl) | ((with_reducible first | apply i_ldn | apply i_ldnq); exact rfl; exact rfl; exact rfl) | (with_reducible first | refine r_ph0 ?_ | apply i_kp0) | ((with_reducible first | apply i_st | apply i_stl); (focus simp); exact rfl) | simp only [go_sem, Nat.reduceAdd, Nat.reduceEqDiff, Int.reduceToNat, Nat.reduceMul, Nat.reduceSub] | (clear hK; clear K))
  refine i_mnx (κ := eI) (ε := eS) h.ec (Nat.le_refl _) (fun ha => ?_) fun x hx hn => ?_
  · repeat' (first | ((with_reducible refine d_seq ?_); intro K hK) | ((with_reducible refine d_reg ?_); simp only [go_sem, Nat.reduceAdd, Nat.reduceEqDiff, Int.reduceToNat, Nat.reduceMul, Nat.reduceSub]) | ((first | ((with_reducible refine d_cnd ?_); refine And.intro ?_ ?_) | (with_reducible refine r_cnd ?_ ?_)); all_goals (intro hc; (try simp only [push_cast, Int.reduceEq, Int.reduceLT, Int.reduceLE, Int.reduceNe] at hc))) | ((with_reducible refine hK _ _ ?_); clear hK; clear K) | ((with_reducible first | refine d_blk ?_ | refine d_rt0 ?_ | refine d_sk0 ?_ | refine d_ex0 ?_); (try simp only [go_sem, Nat.reduceAdd, Nat.reduceEqDiff, Int.reduceToNat, Nat.reduceMul, Nat.reduceSub])) | (with_reducible refine r_rq (by first | decide | omega) ?_) | ((with_reducible refine r_nwc ?_); intro b) | ((with_reducible first | apply i_lds | apply i_ldsq | apply i_ld | apply i_ldq); exact rfl) | ((with_reducible first | apply i_ldn | apply i_ldnq); exact rfl; exact rfl; exact rfl) | (with_reducible first | refine r_ph0 ?_ | apply i_kp0) | ((with_reducible first | apply i_st | apply i_stl); (focus simp); exact rfl) | simp only [go_sem, Nat.reduceAdd, Nat.reduceEqDiff, Int.reduceToNat, Nat.reduceMul, Nat.reduceSub] | (clear hK; clear K))
    obtain rfl := hR.done h.bn ha
    have hS : S.Perm D.es := by have := hR; unfold Rg at this; simpa using this
    refine i_clq (f80 3 (op, on, oc) (S.map fun x => (x.1 : Int)) (by simp; omega)) ?_
    repeat' (first | ((with_reducible refine d_seq ?_); intro K hK) | ((with_reducible refine d_reg ?_); simp only [go_sem, Nat.reduceAdd, Nat.reduceEqDiff, Int.reduceToNat, Nat.reduceMul, Nat.reduceSub]) | ((first | ((with_reducible refine d_cnd ?_); refine And.intro ?_ ?_) | (with_reducible refine r_cnd ?_ ?_)); all_goals (intro hc; (try simp only [push_cast, Int.reduceEq, Int.reduceLT, Int.reduceLE, Int.reduceNe] at hc))) | ((with_reducible refine hK _ _ ?_); clear hK; clear K) | ((with_reducible first | refine d_blk ?_ | refine d_rt0 ?_ | refine d_sk0 ?_ | refine d_ex0 ?_); (try simp only [go_sem, Nat.reduceAdd, Nat.reduceEqDiff, Int.reduceToNat, Nat.reduceMul, Nat.reduceSub])) | (with_reducible refine r_rq (by first | decide | omega) ?_) | ((with_reducible refine r_nwc ?_); intro b) | ((with_reducible first | apply i_lds | apply i_ldsq | apply i_ld | apply i_ldq); exact rfl) | ((with_reducible first | apply i_ldn | apply i_ldnq); exact rfl; exact rfl; exact rfl) | (with_reducible first | refine r_ph0 ?_ | apply i_kp0) | ((with_reducible first | apply i_st | apply i_stl); (focus simp); exact rfl) | simp only [go_sem, Nat.reduceAdd, Nat.reduceEqDiff, Int.reduceToNat, Nat.reduceMul, Nat.reduceSub] | (clear hK; clear K))
    have hk : D.keys = (S.map fun x => (x.1 : Int)).mergeSort fun x y => decide (x ≤ y) := (sort_perm (hS.map _)).symm
    rw [hk]
    exact i_done (op, on, oc) (ow 3 1 (op, on, oc) _ :: dkl D) rfl ⟨rfl, by simpa using ho⟩
  · repeat' (first | ((with_reducible refine d_seq ?_); intro K hK) | ((with_reducible refine d_reg ?_); simp only [go_sem, Nat.reduceAdd, Nat.reduceEqDiff, Int.reduceToNat, Nat.reduceMul, Nat.reduceSub]) | ((first | ((with_reducible refine d_cnd ?_); refine And.intro ?_ ?_) | (with_reducible refine r_cnd ?_ ?_)); all_goals (intro hc; (try simp only [push_cast, Int.reduceEq, Int.reduceLT, Int.reduceLE, Int.reduceNe] at hc))) | ((with_reducible refine hK _ _ ?_); clear hK; clear K) | ((with_reducible first | refine d_blk ?_ | refine d_rt0 ?_ | refine d_sk0 ?_ | refine d_ex0 ?_); (try simp only [go_sem, Nat.reduceAdd, Nat.reduceEqDiff, Int.reduceToNat, Nat.reduceMul, Nat.reduceSub])) | (with_reducible refine r_rq (by first | decide | omega) ?_) | ((with_reducible refine r_nwc ?_); intro b) | ((with_reducible first | apply i_lds | apply i_ldsq | apply i_ld | apply i_ldq); exact rfl) | ((with_reducible first | apply i_ldn | apply i_ldnq); exact rfl; exact rfl; exact rfl) | (with_reducible first | refine r_ph0 ?_ | apply i_kp0) | ((with_reducible first | apply i_st | apply i_stl); (focus simp); exact rfl) | simp only [go_sem, Nat.reduceAdd, Nat.reduceEqDiff, Int.reduceToNat, Nat.reduceMul, Nat.reduceSub] | (clear hK; clear K))
    rw [sn_push]
    refine i_ment hx h.bn ?_
    repeat' (first | ((with_reducible refine d_seq ?_); intro K hK) | ((with_reducible refine d_reg ?_); simp only [go_sem, Nat.reduceAdd, Nat.reduceEqDiff, Int.reduceToNat, Nat.reduceMul, Nat.reduceSub]) | ((first | ((with_reducible refine d_cnd ?_); refine And.intro ?_ ?_) | (with_reducible refine r_cnd ?_ ?_)); all_goals (intro hc; (try simp only [push_cast, Int.reduceEq, Int.reduceLT, Int.reduceLE, Int.reduceNe] at hc))) | ((with_reducible refine hK _ _ ?_); clear hK; clear K) | ((with_reducible first | refine d_blk ?_ | refine d_rt0 ?_ | refine d_sk0 ?_ | refine d_ex0 ?_); (try simp only [go_sem, Nat.reduceAdd, Nat.reduceEqDiff, Int.reduceToNat, Nat.reduceMul, Nat.reduceSub])) | (with_reducible refine r_rq (by first | decide | omega) ?_) | ((with_reducible refine r_nwc ?_); intro b) | ((with_reducible first | apply i_lds | apply i_ldsq | apply i_ld | apply i_ldq); exact rfl) | ((with_reducible first | apply i_ldn | apply i_ldnq); exact rfl; exact rfl; exact rfl) | (with_reducible first | refine r_ph0 ?_ | apply i_kp0) | ((with_reducible first | apply i_st | apply i_stl); (focus simp); exact rfl) | simp only [go_sem, Nat.reduceAdd, Nat.reduceEqDiff, Int.reduceToNat, Nat.reduceMul, Nat.reduceSub] | (clear hK; clear K))
    obtain ⟨R', hlt, hst⟩ := hR.step hx hn
    refine i_app (t := 3) (sz := 1) (op, on, oc) 8 (by kernel_rfl) (by decide) rfl rfl (by simp only; omega) fun o' ho' _ => ?_
    have e : (S.map fun x => (x.1 : Int)).map (fun n => Value.int .i64 n) ++ [Value.int .i64 x.1] = ((S ++ [x]).map fun x => (x.1 : Int)).map fun n => Value.int .i64 n := by simp
    rw [e]
    exact i_bk (o', S ++ [x], R') rfl ⟨hst, by simp [ho', ho]⟩ hlt
end Go.Sp
/- The disk: the power goes; what is written. -/
namespace Go.Sp
open Go Go.Proofs
set_option linter.unusedSimpArgs false
set_option linter.unusedVariables false
set_option maxRecDepth 10000
/-- Has the mark the bit of k? -/
def kb (keep : Int) (k : Nat) : Bool := bits .and .u64 (keep.fdiv (2 ^ (min (((k : Int).tmod (64 : Int))).toNat 64))) (1 : Int) == (1 : Int)
/-- What lasts behind the first n that wait. -/
def Dk.cutn (D : Dk) (keep : Int) : Nat → List (List UInt8)
  | 0 => D.sure
  | n + 1 => if kb keep n then (D.cutn keep n).set (D.keys.getD n 0).toNat ((gk D.es (D.keys.getD n 0)).getD []) else D.cutn keep n
def Dk.off (D : Dk) (keep : Int) : Dk := { D with sure := D.cutn keep D.keys.length, es := [], up := false, fuse := -1, downs := IntKind.wrap .i64 (D.downs + 1) }
theorem Dk.cutn_len (D : Dk) (keep : Int) (n : Nat) : (D.cutn keep n).length = D.sure.length := by
  induction n with
  | zero => rfl
  | succ n ih => unfold Dk.cutn; split <;> simp [ih]
theorem Dk.keys_len (D : Dk) : D.keys.length = D.es.length := by simp [Dk.keys]
theorem Dk.keys_in {D : Dk} (h : D.ok) {n : Nat} (hn : n < D.keys.length) : 0 ≤ D.keys.getD n 0 ∧ D.keys.getD n 0 < D.sure.length := by
  have h1 : D.keys.getD n 0 ∈ D.es.map (·.1) := by
    have : D.keys.getD n 0 = D.keys[n] := by simp [hn]
    rw [this]
    exact (List.mergeSort_perm _ _).mem_iff.1 (List.getElem_mem hn)
  obtain ⟨x, hx, e⟩ := List.mem_map.1 h1
  rw [← e]
  exact h.ei x hx
theorem f70 (D : Dk) (h : D.ok) (hlen : D.es.length ≤ 8192) (keep : Int) : Fq eN Try.prog 70 #[D.p, .int .u64 keep] (dkl D) (dkl (D.off keep)) () := fun L => by
  refine c70_fn rfl rfl ?_
  simp only [Dk.p]
  repeat' ((fail_if_success with_reducible refine (id : E _ (ph _) → E _ (ph _)) ?_); first | ((with_reducible refine d_seq ?_); intro K hK) | ((with_reducible refine d_reg ?_); simp only [go_sem, Nat.reduceAdd, Nat.reduceEqDiff, Int.reduceToNat, Nat.reduceMul, Nat.reduceSub]) | ((first | ((with_reducible refine d_cnd ?_); refine And.intro ?_ ?_) | (with_reducible refine r_cnd ?_ ?_)); all_goals (intro hc; (try simp only [push_cast, Int.reduceEq, Int.reduceLT, Int.reduceLE, Int.reduceNe] at hc))) | ((with_reducible refine hK _ _ ?_); clear hK; clear K) | ((with_reducible first | refine d_blk ?_ | refine d_rt0 ?_ | refine d_sk0 ?_ | refine d_ex0 ?_); (try simp only [go_sem, Nat.reduceAdd, Nat.reduceEqDiff, Int.reduceToNat, Nat.reduceMul, Nat.reduceSub])) | (with_reducible refine r_rq (by first | decide | omega) ?_) | ((with_reducible refine r_nwc ?_); intro b) | ((with_reducible first | apply i_lds | apply i_ldsq | apply i_ld | apply i_ldq); exact rfl) | ((with_reducible first | apply i_ldn | apply i_ldnq); exact rfl; exact rfl; exact rfl) | (with_reducible first | refine r_ph0 ?_ | apply i_kp0) | ((with_reducible first | apply i_st | apply i_stl); (focus simp); exact rfl) | simp only [go_sem, Nat.reduceAdd, Nat.reduceEqDiff, Int.reduceToNat, Nat.reduceMul, Nat.reduceSub] | (clear hK; clear K))
  refine i_cal (f43 D h hlen) fun y X ⟨hX, hy⟩ => ?_
  subst hX
  obtain ⟨yp, yn, yc⟩ := y
  dsimp only at hy
  subst hy
  repeat' (first | ((with_reducible refine d_seq ?_); intro K hK) | ((with_reducible refine d_reg ?_); simp only [go_sem, Nat.reduceAdd, Nat.reduceEqDiff, Int.reduceToNat, Nat.reduceMul, Nat.reduceSub]) | ((first | ((with_reducible refine d_cnd ?_); refine And.intro ?_ ?_) | (with_reducible refine r_cnd ?_ ?_)); all_goals (intro hc; (try simp only [push_cast, Int.reduceEq, Int.reduceLT, Int.reduceLE, Int.reduceNe] at hc))) | ((with_reducible refine hK _ _ ?_); clear hK; clear K) | ((with_reducible first | refine d_blk ?_ | refine d_rt0 ?_ | refine d_sk0 ?_ | refine d_ex0 ?_); (try simp only [go_sem, Nat.reduceAdd, Nat.reduceEqDiff, Int.reduceToNat, Nat.reduceMul, Nat.reduceSub])) | (with_reducible refine r_rq (by first | decide | omega) ?_) | ((with_reducible refine r_nwc ?_); intro b) | ((with_reducible first | apply i_lds | apply i_ldsq | apply i_ld | apply i_ldq); exact rfl) | ((with_reducible first | apply i_ldn | apply i_ldnq); exact rfl; exact rfl; exact rfl) | (with_reducible first | refine r_ph0 ?_ | apply i_kp0) | ((with_reducible first | apply i_st | apply i_stl); (focus simp); exact rfl) | simp only [go_sem, Nat.reduceAdd, Nat.reduceEqDiff, Int.reduceToNat, Nat.reduceMul, Nat.reduceSub] | (clear hK; clear K))
  refine d_lp [0, 1, 7, 8, 9] (fun n : Nat => [(0, .pointer (some ⟨D.sb, 0, none⟩)), (1, .int .u64 keep), (7, .slice yp D.keys.length yc), (8, .int .i64 (D.keys.length : Int)), (9, .int .i64 (n : Int))])
    (fun n => ow 3 1 (yp, D.keys.length, yc) (D.keys.map fun n => .int .i64 n) :: ar D.sb 59 D.hd :: ar D.bb 9 ((D.cutn keep n).map fun s => str s) :: mp eI eS D.mb D.es D.c :: L) (fun n => n ≤ D.keys.length) (fun n => D.keys.length - n) 0 rfl ?_ (by omega) ?_
  · show Sub (ow 3 1 (yp, D.keys.length, yc) (D.keys.map fun n => .int .i64 n) :: (dkl D ++ L)) _
    exact SX.p
  intro n hn
  repeat' ((fail_if_success with_reducible refine (id : E _ (ph _) → E _ (ph _)) ?_); first | ((with_reducible refine d_seq ?_); intro K hK) | ((with_reducible refine d_reg ?_); simp only [go_sem, Nat.reduceAdd, Nat.reduceEqDiff, Int.reduceToNat, Nat.reduceMul, Nat.reduceSub]) | ((first | ((with_reducible refine d_cnd ?_); refine And.intro ?_ ?_) | (with_reducible refine r_cnd ?_ ?_)); all_goals (intro hc; (try simp only [push_cast, Int.reduceEq, Int.reduceLT, Int.reduceLE, Int.reduceNe] at hc))) | ((with_reducible refine hK _ _ ?_); clear hK; clear K) | ((with_reducible first | refine d_blk ?_ | refine d_rt0 ?_ | refine d_sk0 ?_ | refine d_ex0 ?_); (try simp only [go_sem, Nat.reduceAdd, Nat.reduceEqDiff, Int.reduceToNat, Nat.reduceMul, Nat.reduceSub])) | (with_reducible refine r_rq (by first | decide | omega) ?_) | ((with_reducible refine r_nwc ?_); intro b) | ((with_reducible first | apply i_lds | apply i_ldsq | apply i_ld | apply i_ldq); exact rfl) | ((with_reducible first | apply i_ldn | apply i_ldnq); exact rfl; exact rfl; exact rfl) | (with_reducible first | refine r_ph0 ?_ | apply i_kp0) | ((with_reducible first | apply i_st | apply i_stl); (focus simp); exact rfl) | simp only [go_sem, Nat.reduceAdd, Nat.reduceEqDiff, Int.reduceToNat, Nat.reduceMul, Nat.reduceSub] | (clear hK; clear K))
  · refine i_ow (t := 3) (sz := 1) (yp, D.keys.length, yc) fun hR => ?_
    obtain ⟨a, rfl⟩ := hR.ptr (by omega)
    repeat' ((fail_if_success with_reducible refine (id : E _ (ph _) → E _ (ph _)) ?_); first | ((with_reducible refine d_seq ?_); intro K hK) | ((with_reducible refine d_reg ?_); simp only [go_sem, Nat.reduceAdd, Nat.reduceEqDiff, Int.reduceToNat, Nat.reduceMul, Nat.reduceSub]) | ((first | ((with_reducible refine d_cnd ?_); refine And.intro ?_ ?_) | (with_reducible refine r_cnd ?_ ?_)); all_goals (intro hc; (try simp only [push_cast, Int.reduceEq, Int.reduceLT, Int.reduceLE, Int.reduceNe] at hc))) | ((with_reducible refine hK _ _ ?_); clear hK; clear K) | ((with_reducible first | refine d_blk ?_ | refine d_rt0 ?_ | refine d_sk0 ?_ | refine d_ex0 ?_); (try simp only [go_sem, Nat.reduceAdd, Nat.reduceEqDiff, Int.reduceToNat, Nat.reduceMul, Nat.reduceSub])) | (with_reducible refine r_rq (by first | decide | omega) ?_) | ((with_reducible refine r_nwc ?_); intro b) | ((with_reducible first | apply i_lds | apply i_ldsq | apply i_ld | apply i_ldq); exact rfl) | ((with_reducible first | apply i_ldn | apply i_ldnq); exact rfl; exact rfl; exact rfl) | (with_reducible first | refine r_ph0 ?_ | apply i_kp0) | ((with_reducible first | apply i_st | apply i_stl); (focus simp); exact rfl) | simp only [go_sem, Nat.reduceAdd, Nat.reduceEqDiff, Int.reduceToNat, Nat.reduceMul, Nat.reduceSub] | (clear hK; clear K))
    have hn' : n < D.keys.length := by omega
    have hi := Dk.keys_in h hn'
    have hx : (D.keys.map fun n => Value.int .i64 n)[n]? = some (eI.enc (D.keys.getD n 0)) := by simp [hn']
    refine i_o1 hx ?_
    have hlc := Dk.cutn_len D keep n
    have h8 := hlen
    rw [← Dk.keys_len] at h8
    have hes : 0 ≤ (n : Int).tmod (64 : Int) := by rw [tm (by omega)]; omega
    repeat' ((fail_if_success with_reducible refine (id : E _ (ph _) → E _ (ph _)) ?_); first | ((with_reducible refine d_seq ?_); intro K hK) | ((with_reducible refine d_reg ?_); simp only [go_sem, Nat.reduceAdd, Nat.reduceEqDiff, Int.reduceToNat, Nat.reduceMul, Nat.reduceSub]) | ((first | ((with_reducible refine d_cnd ?_); refine And.intro ?_ ?_) | (with_reducible refine r_cnd ?_ ?_)); all_goals (intro hc; (try simp only [push_cast, Int.reduceEq, Int.reduceLT, Int.reduceLE, Int.reduceNe] at hc))) | ((with_reducible refine hK _ _ ?_); clear hK; clear K) | ((with_reducible first | refine d_blk ?_ | refine d_rt0 ?_ | refine d_sk0 ?_ | refine d_ex0 ?_); (try simp only [go_sem, Nat.reduceAdd, Nat.reduceEqDiff, Int.reduceToNat, Nat.reduceMul, Nat.reduceSub])) | (with_reducible refine r_rq (by first | decide | omega) ?_) | ((with_reducible refine r_nwc ?_); intro b) | ((with_reducible first | apply i_lds | apply i_ldsq | apply i_ld | apply i_ldq); exact rfl) | ((with_reducible first | apply i_ldn | apply i_ldnq); exact rfl; exact rfl; exact rfl) | (with_reducible first | refine r_ph0 ?_ | apply i_kp0) | ((with_reducible first | apply i_st | apply i_stl); (focus simp); exact rfl) | simp only [go_sem, Nat.reduceAdd, Nat.reduceEqDiff, Int.reduceToNat, Nat.reduceMul, Nat.reduceSub] | (clear hK; clear K))
    · have hkb : kb keep n = true := by simpa [kb] using hc
      have e : D.cutn keep (n + 1) = (D.cutn keep n).set (D.keys.getD n 0).toNat ((gk D.es (D.keys.getD n 0)).getD []) := by rw [Dk.cutn, if_pos hkb]
      repeat' (first | ((with_reducible refine d_seq ?_); intro K hK) | ((with_reducible refine d_reg ?_); simp only [go_sem, Nat.reduceAdd, Nat.reduceEqDiff, Int.reduceToNat, Nat.reduceMul, Nat.reduceSub]) | ((first | ((with_reducible refine d_cnd ?_); refine And.intro ?_ ?_) | (with_reducible refine r_cnd ?_ ?_)); all_goals (intro hc; (try simp only [push_cast, Int.reduceEq, Int.reduceLT, Int.reduceLE, Int.reduceNe] at hc))) | ((with_reducible refine hK _ _ ?_); clear hK; clear K) | ((with_reducible first | refine d_blk ?_ | refine d_rt0 ?_ | refine d_sk0 ?_ | refine d_ex0 ?_); (try simp only [go_sem, Nat.reduceAdd, Nat.reduceEqDiff, Int.reduceToNat, Nat.reduceMul, Nat.reduceSub])) | (with_reducible refine r_rq (by first | decide | omega) ?_) | ((with_reducible refine r_nwc ?_); intro b) | ((with_reducible first | apply i_lds | apply i_ldsq | apply i_ld | apply i_ldq); exact rfl) | ((with_reducible first | apply i_ldn | apply i_ldnq); exact rfl; exact rfl; exact rfl) | (with_reducible first | refine r_ph0 ?_ | apply i_kp0) | ((with_reducible first | apply i_st | apply i_stl); (focus simp); exact rfl) | simp only [go_sem, Nat.reduceAdd, Nat.reduceEqDiff, Int.reduceToNat, Nat.reduceMul, Nat.reduceSub] | (clear hK; clear K))
      refine i_lk1q (ε := eS) [] (by kernel_rfl) ?_
      repeat' (first | ((with_reducible refine d_seq ?_); intro K hK) | ((with_reducible refine d_reg ?_); simp only [go_sem, Nat.reduceAdd, Nat.reduceEqDiff, Int.reduceToNat, Nat.reduceMul, Nat.reduceSub]) | ((first | ((with_reducible refine d_cnd ?_); refine And.intro ?_ ?_) | (with_reducible refine r_cnd ?_ ?_)); all_goals (intro hc; (try simp only [push_cast, Int.reduceEq, Int.reduceLT, Int.reduceLE, Int.reduceNe] at hc))) | ((with_reducible refine hK _ _ ?_); clear hK; clear K) | ((with_reducible first | refine d_blk ?_ | refine d_rt0 ?_ | refine d_sk0 ?_ | refine d_ex0 ?_); (try simp only [go_sem, Nat.reduceAdd, Nat.reduceEqDiff, Int.reduceToNat, Nat.reduceMul, Nat.reduceSub])) | (with_reducible refine r_rq (by first | decide | omega) ?_) | ((with_reducible refine r_nwc ?_); intro b) | ((with_reducible first | apply i_lds | apply i_ldsq | apply i_ld | apply i_ldq); exact rfl) | ((with_reducible first | apply i_ldn | apply i_ldnq); exact rfl; exact rfl; exact rfl) | (with_reducible first | refine r_ph0 ?_ | apply i_kp0) | ((with_reducible first | apply i_st | apply i_stl); (focus simp); exact rfl) | simp only [go_sem, Nat.reduceAdd, Nat.reduceEqDiff, Int.reduceToNat, Nat.reduceMul, Nat.reduceSub] | (clear hK; clear K))
      refine i_st (by simp only [List.length_map]; omega) rfl ?_
      rw [← List.map_set, ← e]
      repeat' (first | ((with_reducible refine d_seq ?_); intro K hK) | ((with_reducible refine d_reg ?_); simp only [go_sem, Nat.reduceAdd, Nat.reduceEqDiff, Int.reduceToNat, Nat.reduceMul, Nat.reduceSub]) | ((first | ((with_reducible refine d_cnd ?_); refine And.intro ?_ ?_) | (with_reducible refine r_cnd ?_ ?_)); all_goals (intro hc; (try simp only [push_cast, Int.reduceEq, Int.reduceLT, Int.reduceLE, Int.reduceNe] at hc))) | ((with_reducible refine hK _ _ ?_); clear hK; clear K) | ((with_reducible first | refine d_blk ?_ | refine d_rt0 ?_ | refine d_sk0 ?_ | refine d_ex0 ?_); (try simp only [go_sem, Nat.reduceAdd, Nat.reduceEqDiff, Int.reduceToNat, Nat.reduceMul, Nat.reduceSub])) | (with_reducible refine r_rq (by first | decide | omega) ?_) | ((with_reducible refine r_nwc ?_); intro b) | ((with_reducible first | apply i_lds | apply i_ldsq | apply i_ld | apply i_ldq); exact rfl) | ((with_reducible first | apply i_ldn | apply i_ldnq); exact rfl; exact rfl; exact rfl) | (with_reducible first | refine r_ph0 ?_ | apply i_kp0) | ((with_reducible first | apply i_st | apply i_stl); (focus simp); exact rfl) | simp only [go_sem, Nat.reduceAdd, Nat.reduceEqDiff, Int.reduceToNat, Nat.reduceMul, Nat.reduceSub] | (clear hK; clear K))
      exact i_bk (n + 1) (by simp (disch := omega) only [w64]; rfl) (by omega) (by omega)
    · have hkb : kb keep n = false := by simpa [kb] using hc
      have e : D.cutn keep (n + 1) = D.cutn keep n := by rw [Dk.cutn, if_neg (by simp [hkb])]
      rw [← e]
      refine i_bk (n + 1) (by simp (disch := omega) only [w64]; rfl) (by omega) (by omega)
  · obtain rfl : n = D.keys.length := by omega
    refine i_mclr (κ := eI) (ε := eS) (a := 3) (b := 9) (by kernel_rfl) ?_
    repeat' (first | ((with_reducible refine d_seq ?_); intro K hK) | ((with_reducible refine d_reg ?_); simp only [go_sem, Nat.reduceAdd, Nat.reduceEqDiff, Int.reduceToNat, Nat.reduceMul, Nat.reduceSub]) | ((first | ((with_reducible refine d_cnd ?_); refine And.intro ?_ ?_) | (with_reducible refine r_cnd ?_ ?_)); all_goals (intro hc; (try simp only [push_cast, Int.reduceEq, Int.reduceLT, Int.reduceLE, Int.reduceNe] at hc))) | ((with_reducible refine hK _ _ ?_); clear hK; clear K) | ((with_reducible first | refine d_blk ?_ | refine d_rt0 ?_ | refine d_sk0 ?_ | refine d_ex0 ?_); (try simp only [go_sem, Nat.reduceAdd, Nat.reduceEqDiff, Int.reduceToNat, Nat.reduceMul, Nat.reduceSub])) | (with_reducible refine r_rq (by first | decide | omega) ?_) | ((with_reducible refine r_nwc ?_); intro b) | ((with_reducible first | apply i_lds | apply i_ldsq | apply i_ld | apply i_ldq); exact rfl) | ((with_reducible first | apply i_ldn | apply i_ldnq); exact rfl; exact rfl; exact rfl) | (with_reducible first | refine r_ph0 ?_ | apply i_kp0) | ((with_reducible first | apply i_st | apply i_stl); (focus simp); exact rfl) | simp only [go_sem, Nat.reduceAdd, Nat.reduceEqDiff, Int.reduceToNat, Nat.reduceMul, Nat.reduceSub] | (clear hK; clear K))
    simp only [Dk.off, dkl, Dk.hd, Dk.cutn_len]
    (with_reducible first | apply i_ret0 | apply i_ret2 | apply i_ret3 | apply i_ret); exact rfl
end Go.Sp
/- The disk: acts, writes, losses of power. -/
namespace Go.Sp
open Go Go.Proofs
set_option linter.unusedSimpArgs false
set_option linter.unusedVariables false
set_option maxRecDepth 10000
theorem nd_len : ∀ (n : Nat) (l : List Int), l.Nodup → (∀ x ∈ l, 0 ≤ x ∧ x < (n : Int)) → l.length ≤ n
  | 0, l, _, h => by
    cases l with
    | nil => simp
    | cons x r => have := h x (by simp); omega
  | n + 1, l, hd, h => by
    by_cases hm : (n : Int) ∈ l
    · have h1 := nd_len n (l.erase n) (hd.erase _) fun x hx => by
        have h2 := (List.Nodup.mem_erase_iff hd).1 hx
        have := h x h2.2
        have := h2.1
        omega
      rw [List.length_erase_of_mem hm] at h1
      omega
    · have h1 := nd_len n l hd fun x hx => by
        have h2 := h x hx
        have : x ≠ n := fun e => hm (e ▸ hx)
        omega
      omega
theorem Dk.ok.len {D : Dk} (h : D.ok) : D.es.length ≤ 8192 := by
  have := nd_len D.sure.length (D.es.map (·.1)) h.kn fun x hx => by
    obtain ⟨y, hy, rfl⟩ := List.mem_map.1 hx
    exact h.ei y hy
  have := h.n1
  simp at *
  omega
theorem gk_mem {es : Ents eI eS} {k : Int} {v : List UInt8} (h : gk es k = some v) : ∃ x ∈ es, x.1 = k ∧ x.2.1 = v := by
  induction es with
  | nil => cases h
  | cons x r ih =>
    unfold gk at h
    split at h
    · rename_i e; exact ⟨x, by simp, e, by simpa using h⟩
    · obtain ⟨y, hy, e⟩ := ih h; exact ⟨y, by simp [hy], e⟩
theorem gk_none {es : Ents eI eS} {k : Int} (h : gk es k = none) : ∀ x ∈ es, x.1 ≠ k := by
  induction es with
  | nil => intro x hx; cases hx
  | cons y r ih =>
    unfold gk at h
    split at h
    · cases h
    · rename_i e
      intro x hx
      cases hx with
      | head => exact e
      | tail _ hx => exact ih h x hx
theorem Dk.cutn_64 {D : Dk} (h : D.ok) (keep : Int) (n : Nat) : ∀ s ∈ D.cutn keep n, s.length ≤ 64 := by
  induction n with
  | zero => exact h.l64
  | succ n ih =>
    unfold Dk.cutn
    split
    · intro s hs
      rcases List.mem_or_eq_of_mem_set hs with h1 | rfl
      · exact ih s h1
      · cases hg : gk D.es (D.keys.getD n 0) with
        | none => simp
        | some v =>
          obtain ⟨x, hx, _, rfl⟩ := gk_mem hg
          have := h.e64 x hx
          simp only [Option.getD_some]; omega
    · exact ih
theorem Dk.off_ok {D : Dk} (h : D.ok) (keep : Int) : (D.off keep).ok := by
  have h1 := h.n0
  have h2 := h.n1
  have h3 := h.kp
  have h4 := Dk.cutn_len D keep D.keys.length
  have h5 := Dk.cutn_64 h keep D.keys.length
  constructor <;> simp only [Dk.off, h4] <;> first | assumption | simp | omega
/-- An act: does it go well, and what is behind it? -/
def Dk.act (D : Dk) : Int × Dk := if D.fuse = 0 then (9, D.off D.keep) else (0, { D with fuse := if 0 < D.fuse then D.fuse - 1 else D.fuse, acts := IntKind.wrap .i64 (D.acts + 1) })
theorem Dk.act_sb (D : Dk) : D.act.2.sb = D.sb := by unfold Dk.act; split <;> rfl
theorem Dk.act_ok {D : Dk} (h : D.ok) : D.act.2.ok := by
  unfold Dk.act
  split
  · exact Dk.off_ok h _
  · obtain ⟨h1, h2, h3, h4, h5, h6, h7, h8, h9, h10⟩ := h
    constructor <;> simp only <;> first | assumption | (split <;> omega)
theorem f68 (D : Dk) (h : D.ok) : Fq eI Try.prog 68 #[D.p] (dkl D) (dkl D.act.2) D.act.1 := by
  have hf := h.fu
  unfold Dk.act
  by_cases h0 : D.fuse = 0
  · simp only [h0, if_true]
    intro L
    refine c68_fn rfl rfl ?_
    simp only [Dk.p]
    repeat' ((fail_if_success with_reducible refine (id : E _ (ph _) → E _ (ph _)) ?_); first | ((with_reducible refine d_seq ?_); intro K hK) | ((with_reducible refine d_reg ?_); simp only [go_sem, Nat.reduceAdd, Nat.reduceEqDiff, Int.reduceToNat, Nat.reduceMul, Nat.reduceSub]) | ((first | ((with_reducible refine d_cnd ?_); refine And.intro ?_ ?_) | (with_reducible refine r_cnd ?_ ?_)); all_goals (intro hc; (try simp only [push_cast, Int.reduceEq, Int.reduceLT, Int.reduceLE, Int.reduceNe] at hc))) | ((with_reducible refine hK _ _ ?_); clear hK; clear K) | ((with_reducible first | refine d_blk ?_ | refine d_rt0 ?_ | refine d_sk0 ?_ | refine d_ex0 ?_); (try simp only [go_sem, Nat.reduceAdd, Nat.reduceEqDiff, Int.reduceToNat, Nat.reduceMul, Nat.reduceSub])) | (with_reducible refine r_rq (by first | decide | omega) ?_) | ((with_reducible refine r_nwc ?_); intro b) | ((with_reducible first | apply i_lds | apply i_ldsq | apply i_ld | apply i_ldq); exact rfl) | ((with_reducible first | apply i_ldn | apply i_ldnq); exact rfl; exact rfl; exact rfl) | (with_reducible first | refine r_ph0 ?_ | apply i_kp0) | ((with_reducible first | apply i_st | apply i_stl); (focus simp); exact rfl) | simp only [go_sem, Nat.reduceAdd, Nat.reduceEqDiff, Int.reduceToNat, Nat.reduceMul, Nat.reduceSub] | (clear hK; clear K))
    · refine i_clq (f70 D h h.len D.keep) ?_
      repeat' (first | ((with_reducible refine d_seq ?_); intro K hK) | ((with_reducible refine d_reg ?_); simp only [go_sem, Nat.reduceAdd, Nat.reduceEqDiff, Int.reduceToNat, Nat.reduceMul, Nat.reduceSub]) | ((first | ((with_reducible refine d_cnd ?_); refine And.intro ?_ ?_) | (with_reducible refine r_cnd ?_ ?_)); all_goals (intro hc; (try simp only [push_cast, Int.reduceEq, Int.reduceLT, Int.reduceLE, Int.reduceNe] at hc))) | ((with_reducible refine hK _ _ ?_); clear hK; clear K) | ((with_reducible first | refine d_blk ?_ | refine d_rt0 ?_ | refine d_sk0 ?_ | refine d_ex0 ?_); (try simp only [go_sem, Nat.reduceAdd, Nat.reduceEqDiff, Int.reduceToNat, Nat.reduceMul, Nat.reduceSub])) | (with_reducible refine r_rq (by first | decide | omega) ?_) | ((with_reducible refine r_nwc ?_); intro b) | ((with_reducible first | apply i_lds | apply i_ldsq | apply i_ld | apply i_ldq); exact rfl) | ((with_reducible first | apply i_ldn | apply i_ldnq); exact rfl; exact rfl; exact rfl) | (with_reducible first | refine r_ph0 ?_ | apply i_kp0) | ((with_reducible first | apply i_st | apply i_stl); (focus simp); exact rfl) | simp only [go_sem, Nat.reduceAdd, Nat.reduceEqDiff, Int.reduceToNat, Nat.reduceMul, Nat.reduceSub] | (clear hK; clear K))
      (with_reducible first | apply i_ret0 | apply i_ret2 | apply i_ret3 | apply i_ret); exact rfl
      rfl
    all_goals contradiction
  · by_cases h1 : 0 < D.fuse <;> simp only [h0, h1, if_true, if_false]
    all_goals
      intro L
      refine c68_fn rfl rfl ?_
      simp only [Dk.p]
      repeat' ((fail_if_success with_reducible refine (id : E _ (ph _) → E _ (ph _)) ?_); first | ((with_reducible refine d_seq ?_); intro K hK) | ((with_reducible refine d_reg ?_); simp only [go_sem, Nat.reduceAdd, Nat.reduceEqDiff, Int.reduceToNat, Nat.reduceMul, Nat.reduceSub]) | ((first | ((with_reducible refine d_cnd ?_); refine And.intro ?_ ?_) | (with_reducible refine r_cnd ?_ ?_)); all_goals (intro hc; (try simp only [push_cast, Int.reduceEq, Int.reduceLT, Int.reduceLE, Int.reduceNe] at hc))) | ((with_reducible refine hK _ _ ?_); clear hK; clear K) | ((with_reducible first | refine d_blk ?_ | refine d_rt0 ?_ | refine d_sk0 ?_ | refine d_ex0 ?_); (try simp only [go_sem, Nat.reduceAdd, Nat.reduceEqDiff, Int.reduceToNat, Nat.reduceMul, Nat.reduceSub])) | (with_reducible refine r_rq (by first | decide | omega) ?_) | ((with_reducible refine r_nwc ?_); intro b) | ((with_reducible first | apply i_lds | apply i_ldsq | apply i_ld | apply i_ldq); exact rfl) | ((with_reducible first | apply i_ldn | apply i_ldnq); exact rfl; exact rfl; exact rfl) | (with_reducible first | refine r_ph0 ?_ | apply i_kp0) | ((with_reducible first | apply i_st | apply i_stl); (focus simp); exact rfl) | simp only [go_sem, Nat.reduceAdd, Nat.reduceEqDiff, Int.reduceToNat, Nat.reduceMul, Nat.reduceSub] | (clear hK; clear K))
      all_goals first | contradiction | (exfalso; omega) | (simp (disch := omega) only [w64]; (with_reducible first | apply i_ret0 | apply i_ret2 | apply i_ret3 | apply i_ret); exact rfl; rfl) | ((with_reducible first | apply i_ret0 | apply i_ret2 | apply i_ret3 | apply i_ret); exact rfl; rfl)
theorem f29 (D : Dk) (h : D.ok) (keep : Int) : Fq eI Try.prog 29 #[D.p, .int .u64 keep] (dkl D) (dkl (if D.chk 0 = 0 then D.off keep else D)) (D.chk 0) := by
  by_cases h0 : D.chk 0 = 0 <;> simp only [h0, if_true, if_false]
  all_goals
    intro L
    refine c29_fn rfl rfl ?_
    simp only [Dk.p]
    repeat' ((fail_if_success with_reducible refine (id : E _ (ph _) → E _ (ph _)) ?_); first | ((with_reducible refine d_seq ?_); intro K hK) | ((with_reducible refine d_reg ?_); simp only [go_sem, Nat.reduceAdd, Nat.reduceEqDiff, Int.reduceToNat, Nat.reduceMul, Nat.reduceSub]) | ((first | ((with_reducible refine d_cnd ?_); refine And.intro ?_ ?_) | (with_reducible refine r_cnd ?_ ?_)); all_goals (intro hc; (try simp only [push_cast, Int.reduceEq, Int.reduceLT, Int.reduceLE, Int.reduceNe] at hc))) | ((with_reducible refine hK _ _ ?_); clear hK; clear K) | ((with_reducible first | refine d_blk ?_ | refine d_rt0 ?_ | refine d_sk0 ?_ | refine d_ex0 ?_); (try simp only [go_sem, Nat.reduceAdd, Nat.reduceEqDiff, Int.reduceToNat, Nat.reduceMul, Nat.reduceSub])) | (with_reducible refine r_rq (by first | decide | omega) ?_) | ((with_reducible refine r_nwc ?_); intro b) | ((with_reducible first | apply i_lds | apply i_ldsq | apply i_ld | apply i_ldq); exact rfl) | ((with_reducible first | apply i_ldn | apply i_ldnq); exact rfl; exact rfl; exact rfl) | (with_reducible first | refine r_ph0 ?_ | apply i_kp0) | ((with_reducible first | apply i_st | apply i_stl); (focus simp); exact rfl) | simp only [go_sem, Nat.reduceAdd, Nat.reduceEqDiff, Int.reduceToNat, Nat.reduceMul, Nat.reduceSub] | (clear hK; clear K))
    refine i_clp (f67 D h 0) ?_
    try simp only [h0]
    repeat' ((fail_if_success with_reducible refine (id : E _ (ph _) → E _ (ph _)) ?_); first | ((with_reducible refine d_seq ?_); intro K hK) | ((with_reducible refine d_reg ?_); simp only [go_sem, Nat.reduceAdd, Nat.reduceEqDiff, Int.reduceToNat, Nat.reduceMul, Nat.reduceSub]) | ((first | ((with_reducible refine d_cnd ?_); refine And.intro ?_ ?_) | (with_reducible refine r_cnd ?_ ?_)); all_goals (intro hc; (try simp only [push_cast, Int.reduceEq, Int.reduceLT, Int.reduceLE, Int.reduceNe] at hc))) | ((with_reducible refine hK _ _ ?_); clear hK; clear K) | ((with_reducible first | refine d_blk ?_ | refine d_rt0 ?_ | refine d_sk0 ?_ | refine d_ex0 ?_); (try simp only [go_sem, Nat.reduceAdd, Nat.reduceEqDiff, Int.reduceToNat, Nat.reduceMul, Nat.reduceSub])) | (with_reducible refine r_rq (by first | decide | omega) ?_) | ((with_reducible refine r_nwc ?_); intro b) | ((with_reducible first | apply i_lds | apply i_ldsq | apply i_ld | apply i_ldq); exact rfl) | ((with_reducible first | apply i_ldn | apply i_ldnq); exact rfl; exact rfl; exact rfl) | (with_reducible first | refine r_ph0 ?_ | apply i_kp0) | ((with_reducible first | apply i_st | apply i_stl); (focus simp); exact rfl) | simp only [go_sem, Nat.reduceAdd, Nat.reduceEqDiff, Int.reduceToNat, Nat.reduceMul, Nat.reduceSub] | (clear hK; clear K))
    all_goals try contradiction
  · refine i_clq (f70 D h h.len keep) ?_
    repeat' (first | ((with_reducible refine d_seq ?_); intro K hK) | ((with_reducible refine d_reg ?_); simp only [go_sem, Nat.reduceAdd, Nat.reduceEqDiff, Int.reduceToNat, Nat.reduceMul, Nat.reduceSub]) | ((first | ((with_reducible refine d_cnd ?_); refine And.intro ?_ ?_) | (with_reducible refine r_cnd ?_ ?_)); all_goals (intro hc; (try simp only [push_cast, Int.reduceEq, Int.reduceLT, Int.reduceLE, Int.reduceNe] at hc))) | ((with_reducible refine hK _ _ ?_); clear hK; clear K) | ((with_reducible first | refine d_blk ?_ | refine d_rt0 ?_ | refine d_sk0 ?_ | refine d_ex0 ?_); (try simp only [go_sem, Nat.reduceAdd, Nat.reduceEqDiff, Int.reduceToNat, Nat.reduceMul, Nat.reduceSub])) | (with_reducible refine r_rq (by first | decide | omega) ?_) | ((with_reducible refine r_nwc ?_); intro b) | ((with_reducible first | apply i_lds | apply i_ldsq | apply i_ld | apply i_ldq); exact rfl) | ((with_reducible first | apply i_ldn | apply i_ldnq); exact rfl; exact rfl; exact rfl) | (with_reducible first | refine r_ph0 ?_ | apply i_kp0) | ((with_reducible first | apply i_st | apply i_stl); (focus simp); exact rfl) | simp only [go_sem, Nat.reduceAdd, Nat.reduceEqDiff, Int.reduceToNat, Nat.reduceMul, Nat.reduceSub] | (clear hK; clear K))
    (with_reducible first | apply i_ret0 | apply i_ret2 | apply i_ret3 | apply i_ret); exact rfl
    rfl
  · (with_reducible first | apply i_ret0 | apply i_ret2 | apply i_ret3 | apply i_ret); exact rfl
    rfl
def Dk.put (D : Dk) (i : Int) (s : List UInt8) : Dk := { D with es := pk D.es i s D.c, c := ck D.es i D.c }
/-- A write. -/
def Dk.write (D : Dk) (i : Int) (s : List UInt8) : Int × Dk :=
  if D.chk i = 0 then (if 64 < s.length then (3, D) else if D.act.1 = 0 then (0, D.act.2.put i (wh s)) else (D.act.1, D.act.2)) else (D.chk i, D)
theorem f27 (D : Dk) (h : D.ok) (i : Int) (s : List UInt8) : Fq eI Try.prog 27 #[D.p, .int .i64 i, str s] (dkl D) (dkl (D.write i s).2) (D.write i s).1 := by
  unfold Dk.write
  by_cases h0 : D.chk i = 0
  · simp only [h0, if_true]
    by_cases h1 : 64 < s.length
    · simp only [h1, if_true]
      intro L
      refine c27_fn rfl rfl ?_
      simp only [Dk.p]
      repeat' ((fail_if_success with_reducible refine (id : E _ (ph _) → E _ (ph _)) ?_); first | ((with_reducible refine d_seq ?_); intro K hK) | ((with_reducible refine d_reg ?_); simp only [go_sem, Nat.reduceAdd, Nat.reduceEqDiff, Int.reduceToNat, Nat.reduceMul, Nat.reduceSub]) | ((first | ((with_reducible refine d_cnd ?_); refine And.intro ?_ ?_) | (with_reducible refine r_cnd ?_ ?_)); all_goals (intro hc; (try simp only [push_cast, Int.reduceEq, Int.reduceLT, Int.reduceLE, Int.reduceNe] at hc))) | ((with_reducible refine hK _ _ ?_); clear hK; clear K) | ((with_reducible first | refine d_blk ?_ | refine d_rt0 ?_ | refine d_sk0 ?_ | refine d_ex0 ?_); (try simp only [go_sem, Nat.reduceAdd, Nat.reduceEqDiff, Int.reduceToNat, Nat.reduceMul, Nat.reduceSub])) | (with_reducible refine r_rq (by first | decide | omega) ?_) | ((with_reducible refine r_nwc ?_); intro b) | ((with_reducible first | apply i_lds | apply i_ldsq | apply i_ld | apply i_ldq); exact rfl) | ((with_reducible first | apply i_ldn | apply i_ldnq); exact rfl; exact rfl; exact rfl) | (with_reducible first | refine r_ph0 ?_ | apply i_kp0) | ((with_reducible first | apply i_st | apply i_stl); (focus simp); exact rfl) | simp only [go_sem, Nat.reduceAdd, Nat.reduceEqDiff, Int.reduceToNat, Nat.reduceMul, Nat.reduceSub] | (clear hK; clear K))
      refine i_clp (f67 D h i) ?_
      try simp only [h0]
      repeat' ((fail_if_success with_reducible refine (id : E _ (ph _) → E _ (ph _)) ?_); first | ((with_reducible refine d_seq ?_); intro K hK) | ((with_reducible refine d_reg ?_); simp only [go_sem, Nat.reduceAdd, Nat.reduceEqDiff, Int.reduceToNat, Nat.reduceMul, Nat.reduceSub]) | ((first | ((with_reducible refine d_cnd ?_); refine And.intro ?_ ?_) | (with_reducible refine r_cnd ?_ ?_)); all_goals (intro hc; (try simp only [push_cast, Int.reduceEq, Int.reduceLT, Int.reduceLE, Int.reduceNe] at hc))) | ((with_reducible refine hK _ _ ?_); clear hK; clear K) | ((with_reducible first | refine d_blk ?_ | refine d_rt0 ?_ | refine d_sk0 ?_ | refine d_ex0 ?_); (try simp only [go_sem, Nat.reduceAdd, Nat.reduceEqDiff, Int.reduceToNat, Nat.reduceMul, Nat.reduceSub])) | (with_reducible refine r_rq (by first | decide | omega) ?_) | ((with_reducible refine r_nwc ?_); intro b) | ((with_reducible first | apply i_lds | apply i_ldsq | apply i_ld | apply i_ldq); exact rfl) | ((with_reducible first | apply i_ldn | apply i_ldnq); exact rfl; exact rfl; exact rfl) | (with_reducible first | refine r_ph0 ?_ | apply i_kp0) | ((with_reducible first | apply i_st | apply i_stl); (focus simp); exact rfl) | simp only [go_sem, Nat.reduceAdd, Nat.reduceEqDiff, Int.reduceToNat, Nat.reduceMul, Nat.reduceSub] | (clear hK; clear K))
      all_goals first | contradiction | omega | ((with_reducible first | apply i_ret0 | apply i_ret2 | apply i_ret3 | apply i_ret); exact rfl; rfl)
    · simp only [h1, if_false]
      by_cases h2 : D.act.1 = 0 <;> simp only [h2, if_true, if_false]
      all_goals
        intro L
        refine c27_fn rfl rfl ?_
        simp only [Dk.p]
        repeat' ((fail_if_success with_reducible refine (id : E _ (ph _) → E _ (ph _)) ?_); first | ((with_reducible refine d_seq ?_); intro K hK) | ((with_reducible refine d_reg ?_); simp only [go_sem, Nat.reduceAdd, Nat.reduceEqDiff, Int.reduceToNat, Nat.reduceMul, Nat.reduceSub]) | ((first | ((with_reducible refine d_cnd ?_); refine And.intro ?_ ?_) | (with_reducible refine r_cnd ?_ ?_)); all_goals (intro hc; (try simp only [push_cast, Int.reduceEq, Int.reduceLT, Int.reduceLE, Int.reduceNe] at hc))) | ((with_reducible refine hK _ _ ?_); clear hK; clear K) | ((with_reducible first | refine d_blk ?_ | refine d_rt0 ?_ | refine d_sk0 ?_ | refine d_ex0 ?_); (try simp only [go_sem, Nat.reduceAdd, Nat.reduceEqDiff, Int.reduceToNat, Nat.reduceMul, Nat.reduceSub])) | (with_reducible refine r_rq (by first | decide | omega) ?_) | ((with_reducible refine r_nwc ?_); intro b) | ((with_reducible first | apply i_lds | apply i_ldsq | apply i_ld | apply i_ldq); exact rfl) | ((with_reducible first | apply i_ldn | apply i_ldnq); exact rfl; exact rfl; exact rfl) | (with_reducible first | refine r_ph0 ?_ | apply i_kp0) | ((with_reducible first | apply i_st | apply i_stl); (focus simp); exact rfl) | simp only [go_sem, Nat.reduceAdd, Nat.reduceEqDiff, Int.reduceToNat, Nat.reduceMul, Nat.reduceSub] | (clear hK; clear K))
        refine i_clp (f67 D h i) ?_
        try simp only [h0]
        repeat' ((fail_if_success with_reducible refine (id : E _ (ph _) → E _ (ph _)) ?_); first | ((with_reducible refine d_seq ?_); intro K hK) | ((with_reducible refine d_reg ?_); simp only [go_sem, Nat.reduceAdd, Nat.reduceEqDiff, Int.reduceToNat, Nat.reduceMul, Nat.reduceSub]) | ((first | ((with_reducible refine d_cnd ?_); refine And.intro ?_ ?_) | (with_reducible refine r_cnd ?_ ?_)); all_goals (intro hc; (try simp only [push_cast, Int.reduceEq, Int.reduceLT, Int.reduceLE, Int.reduceNe] at hc))) | ((with_reducible refine hK _ _ ?_); clear hK; clear K) | ((with_reducible first | refine d_blk ?_ | refine d_rt0 ?_ | refine d_sk0 ?_ | refine d_ex0 ?_); (try simp only [go_sem, Nat.reduceAdd, Nat.reduceEqDiff, Int.reduceToNat, Nat.reduceMul, Nat.reduceSub])) | (with_reducible refine r_rq (by first | decide | omega) ?_) | ((with_reducible refine r_nwc ?_); intro b) | ((with_reducible first | apply i_lds | apply i_ldsq | apply i_ld | apply i_ldq); exact rfl) | ((with_reducible first | apply i_ldn | apply i_ldnq); exact rfl; exact rfl; exact rfl) | (with_reducible first | refine r_ph0 ?_ | apply i_kp0) | ((with_reducible first | apply i_st | apply i_stl); (focus simp); exact rfl) | simp only [go_sem, Nat.reduceAdd, Nat.reduceEqDiff, Int.reduceToNat, Nat.reduceMul, Nat.reduceSub] | (clear hK; clear K))
        all_goals try (first | contradiction | (exfalso; omega))
        refine i_clq (f68 D h) ?_
        try simp only [h2]
        repeat' ((fail_if_success with_reducible refine (id : E _ (ph _) → E _ (ph _)) ?_); first | ((with_reducible refine d_seq ?_); intro K hK) | ((with_reducible refine d_reg ?_); simp only [go_sem, Nat.reduceAdd, Nat.reduceEqDiff, Int.reduceToNat, Nat.reduceMul, Nat.reduceSub]) | ((first | ((with_reducible refine d_cnd ?_); refine And.intro ?_ ?_) | (with_reducible refine r_cnd ?_ ?_)); all_goals (intro hc; (try simp only [push_cast, Int.reduceEq, Int.reduceLT, Int.reduceLE, Int.reduceNe] at hc))) | ((with_reducible refine hK _ _ ?_); clear hK; clear K) | ((with_reducible first | refine d_blk ?_ | refine d_rt0 ?_ | refine d_sk0 ?_ | refine d_ex0 ?_); (try simp only [go_sem, Nat.reduceAdd, Nat.reduceEqDiff, Int.reduceToNat, Nat.reduceMul, Nat.reduceSub])) | (with_reducible refine r_rq (by first | decide | omega) ?_) | ((with_reducible refine r_nwc ?_); intro b) | ((with_reducible first | apply i_lds | apply i_ldsq | apply i_ld | apply i_ldq); exact rfl) | ((with_reducible first | apply i_ldn | apply i_ldnq); exact rfl; exact rfl; exact rfl) | (with_reducible first | refine r_ph0 ?_ | apply i_kp0) | ((with_reducible first | apply i_st | apply i_stl); (focus simp); exact rfl) | simp only [go_sem, Nat.reduceAdd, Nat.reduceEqDiff, Int.reduceToNat, Nat.reduceMul, Nat.reduceSub] | (clear hK; clear K))
        all_goals try (first | contradiction | (exfalso; omega))
      · have hsb := Dk.act_sb D
        generalize D.act.2 = A at *
        rw [← hsb]
        repeat' (first | ((with_reducible refine d_seq ?_); intro K hK) | ((with_reducible refine d_reg ?_); simp only [go_sem, Nat.reduceAdd, Nat.reduceEqDiff, Int.reduceToNat, Nat.reduceMul, Nat.reduceSub]) | ((first | ((with_reducible refine d_cnd ?_); refine And.intro ?_ ?_) | (with_reducible refine r_cnd ?_ ?_)); all_goals (intro hc; (try simp only [push_cast, Int.reduceEq, Int.reduceLT, Int.reduceLE, Int.reduceNe] at hc))) | ((with_reducible refine hK _ _ ?_); clear hK; clear K) | ((with_reducible first | refine d_blk ?_ | refine d_rt0 ?_ | refine d_sk0 ?_ | refine d_ex0 ?_); (try simp only [go_sem, Nat.reduceAdd, Nat.reduceEqDiff, Int.reduceToNat, Nat.reduceMul, Nat.reduceSub])) | (with_reducible refine r_rq (by first | decide | omega) ?_) | ((with_reducible refine r_nwc ?_); intro b) | ((with_reducible first | apply i_lds | apply i_ldsq | apply i_ld | apply i_ldq); exact rfl) | ((with_reducible first | apply i_ldn | apply i_ldnq); exact rfl; exact rfl; exact rfl) | (with_reducible first | refine r_ph0 ?_ | apply i_kp0) | ((with_reducible first | apply i_st | apply i_stl); (focus simp); exact rfl) | simp only [go_sem, Nat.reduceAdd, Nat.reduceEqDiff, Int.reduceToNat, Nat.reduceMul, Nat.reduceSub] | (clear hK; clear K))
        refine i_clp (f69 s (by omega)) ?_
        repeat' (first | ((with_reducible refine d_seq ?_); intro K hK) | ((with_reducible refine d_reg ?_); simp only [go_sem, Nat.reduceAdd, Nat.reduceEqDiff, Int.reduceToNat, Nat.reduceMul, Nat.reduceSub]) | ((first | ((with_reducible refine d_cnd ?_); refine And.intro ?_ ?_) | (with_reducible refine r_cnd ?_ ?_)); all_goals (intro hc; (try simp only [push_cast, Int.reduceEq, Int.reduceLT, Int.reduceLE, Int.reduceNe] at hc))) | ((with_reducible refine hK _ _ ?_); clear hK; clear K) | ((with_reducible first | refine d_blk ?_ | refine d_rt0 ?_ | refine d_sk0 ?_ | refine d_ex0 ?_); (try simp only [go_sem, Nat.reduceAdd, Nat.reduceEqDiff, Int.reduceToNat, Nat.reduceMul, Nat.reduceSub])) | (with_reducible refine r_rq (by first | decide | omega) ?_) | ((with_reducible refine r_nwc ?_); intro b) | ((with_reducible first | apply i_lds | apply i_ldsq | apply i_ld | apply i_ldq); exact rfl) | ((with_reducible first | apply i_ldn | apply i_ldnq); exact rfl; exact rfl; exact rfl) | (with_reducible first | refine r_ph0 ?_ | apply i_kp0) | ((with_reducible first | apply i_st | apply i_stl); (focus simp); exact rfl) | simp only [go_sem, Nat.reduceAdd, Nat.reduceEqDiff, Int.reduceToNat, Nat.reduceMul, Nat.reduceSub] | (clear hK; clear K))
        refine i_mu (ε := eS) (v := wh s) [] rfl (by kernel_rfl) ?_
        repeat' (first | ((with_reducible refine d_seq ?_); intro K hK) | ((with_reducible refine d_reg ?_); simp only [go_sem, Nat.reduceAdd, Nat.reduceEqDiff, Int.reduceToNat, Nat.reduceMul, Nat.reduceSub]) | ((first | ((with_reducible refine d_cnd ?_); refine And.intro ?_ ?_) | (with_reducible refine r_cnd ?_ ?_)); all_goals (intro hc; (try simp only [push_cast, Int.reduceEq, Int.reduceLT, Int.reduceLE, Int.reduceNe] at hc))) | ((with_reducible refine hK _ _ ?_); clear hK; clear K) | ((with_reducible first | refine d_blk ?_ | refine d_rt0 ?_ | refine d_sk0 ?_ | refine d_ex0 ?_); (try simp only [go_sem, Nat.reduceAdd, Nat.reduceEqDiff, Int.reduceToNat, Nat.reduceMul, Nat.reduceSub])) | (with_reducible refine r_rq (by first | decide | omega) ?_) | ((with_reducible refine r_nwc ?_); intro b) | ((with_reducible first | apply i_lds | apply i_ldsq | apply i_ld | apply i_ldq); exact rfl) | ((with_reducible first | apply i_ldn | apply i_ldnq); exact rfl; exact rfl; exact rfl) | (with_reducible first | refine r_ph0 ?_ | apply i_kp0) | ((with_reducible first | apply i_st | apply i_stl); (focus simp); exact rfl) | simp only [go_sem, Nat.reduceAdd, Nat.reduceEqDiff, Int.reduceToNat, Nat.reduceMul, Nat.reduceSub] | (clear hK; clear K))
        simp only [Dk.put]
        (with_reducible first | apply i_ret0 | apply i_ret2 | apply i_ret3 | apply i_ret); exact rfl
        rfl
      · (with_reducible first | apply i_ret0 | apply i_ret2 | apply i_ret3 | apply i_ret); exact rfl
        rfl
  · simp only [h0, if_false]
    intro L
    refine c27_fn rfl rfl ?_
    simp only [Dk.p]
    repeat' ((fail_if_success with_reducible refine (id : E _ (ph _) → E _ (ph _)) ?_); first | ((with_reducible refine d_seq ?_); intro K hK) | ((with_reducible refine d_reg ?_); simp only [go_sem, Nat.reduceAdd, Nat.reduceEqDiff, Int.reduceToNat, Nat.reduceMul, Nat.reduceSub]) | ((first | ((with_reducible refine d_cnd ?_); refine And.intro ?_ ?_) | (with_reducible refine r_cnd ?_ ?_)); all_goals (intro hc; (try simp only [push_cast, Int.reduceEq, Int.reduceLT, Int.reduceLE, Int.reduceNe] at hc))) | ((with_reducible refine hK _ _ ?_); clear hK; clear K) | ((with_reducible first | refine d_blk ?_ | refine d_rt0 ?_ | refine d_sk0 ?_ | refine d_ex0 ?_); (try simp only [go_sem, Nat.reduceAdd, Nat.reduceEqDiff, Int.reduceToNat, Nat.reduceMul, Nat.reduceSub])) | (with_reducible refine r_rq (by first | decide | omega) ?_) | ((with_reducible refine r_nwc ?_); intro b) | ((with_reducible first | apply i_lds | apply i_ldsq | apply i_ld | apply i_ldq); exact rfl) | ((with_reducible first | apply i_ldn | apply i_ldnq); exact rfl; exact rfl; exact rfl) | (with_reducible first | refine r_ph0 ?_ | apply i_kp0) | ((with_reducible first | apply i_st | apply i_stl); (focus simp); exact rfl) | simp only [go_sem, Nat.reduceAdd, Nat.reduceEqDiff, Int.reduceToNat, Nat.reduceMul, Nat.reduceSub] | (clear hK; clear K))
    refine i_clp (f67 D h i) ?_
    repeat' ((fail_if_success with_reducible refine (id : E _ (ph _) → E _ (ph _)) ?_); first | ((with_reducible refine d_seq ?_); intro K hK) | ((with_reducible refine d_reg ?_); simp only [go_sem, Nat.reduceAdd, Nat.reduceEqDiff, Int.reduceToNat, Nat.reduceMul, Nat.reduceSub]) | ((first | ((with_reducible refine d_cnd ?_); refine And.intro ?_ ?_) | (with_reducible refine r_cnd ?_ ?_)); all_goals (intro hc; (try simp only [push_cast, Int.reduceEq, Int.reduceLT, Int.reduceLE, Int.reduceNe] at hc))) | ((with_reducible refine hK _ _ ?_); clear hK; clear K) | ((with_reducible first | refine d_blk ?_ | refine d_rt0 ?_ | refine d_sk0 ?_ | refine d_ex0 ?_); (try simp only [go_sem, Nat.reduceAdd, Nat.reduceEqDiff, Int.reduceToNat, Nat.reduceMul, Nat.reduceSub])) | (with_reducible refine r_rq (by first | decide | omega) ?_) | ((with_reducible refine r_nwc ?_); intro b) | ((with_reducible first | apply i_lds | apply i_ldsq | apply i_ld | apply i_ldq); exact rfl) | ((with_reducible first | apply i_ldn | apply i_ldnq); exact rfl; exact rfl; exact rfl) | (with_reducible first | refine r_ph0 ?_ | apply i_kp0) | ((with_reducible first | apply i_st | apply i_stl); (focus simp); exact rfl) | simp only [go_sem, Nat.reduceAdd, Nat.reduceEqDiff, Int.reduceToNat, Nat.reduceMul, Nat.reduceSub] | (clear hK; clear K))
    all_goals first | contradiction | omega | ((with_reducible first | apply i_ret0 | apply i_ret2 | apply i_ret3 | apply i_ret); exact rfl; rfl)
end Go.Sp
/- The disk: what was written last lasts. -/
namespace Go.Sp
open Go Go.Proofs
set_option linter.unusedSimpArgs false
set_option linter.unusedVariables false
set_option maxRecDepth 10000
theorem toN1 {a : Int} {j : Nat} (h : a = (j : Int)) : a.toNat = j := by omega
theorem toN2 {a : Int} {j : Nat} (h0 : 0 ≤ a) (h : ¬ a = (j : Int)) : a.toNat ≠ j := by omega
theorem toN3 {a : Int} {n : Nat} (h0 : 0 ≤ a ∧ a < (n : Int)) : a.toNat < n := by omega
theorem pk_keys (es : Ents eI eS) (k : Int) (v : List UInt8) (c : Nat) : (pk es k v c).map (·.1) = if gk es k = none then es.map (·.1) ++ [k] else es.map (·.1) := by
  induction es with
  | nil => simp [pk, gk]
  | cons x r ih =>
    by_cases h : x.1 = k
    · simp [pk, gk, h]
    · simp only [pk, gk, h, if_false, List.map_cons, ih]
      split <;> simp
theorem pk_born (es : Ents eI eS) (k : Int) (v : List UInt8) (c : Nat) : (pk es k v c).map (·.2.2) = if gk es k = none then es.map (·.2.2) ++ [c] else es.map (·.2.2) := by
  induction es with
  | nil => simp [pk, gk]
  | cons x r ih =>
    by_cases h : x.1 = k
    · simp [pk, gk, h]
    · simp only [pk, gk, h, if_false, List.map_cons, ih]
      split <;> simp
theorem pk_mem {es : Ents eI eS} {k : Int} {v : List UInt8} {c : Nat} {x : Int × List UInt8 × Nat} (h : x ∈ pk es k v c) : x ∈ es ∨ (x.1 = k ∧ x.2.1 = v) := by
  induction es with
  | nil => simp [pk] at h; right; simp [h]
  | cons y r ih =>
    unfold pk at h
    split at h
    · rcases List.mem_cons.1 h with rfl | h
      · right; simp
      · left; simp [h]
    · rcases List.mem_cons.1 h with rfl | h
      · left; simp
      · rcases ih h with h | h
        · left; simp [h]
        · right; exact h
theorem gk_some {es : Ents eI eS} {k : Int} (h : ¬ gk es k = none) : k ∈ es.map (·.1) := by
  cases hg : gk es k with
  | none => exact absurd hg h
  | some v => obtain ⟨x, hx, e, _⟩ := gk_mem hg; exact List.mem_map.2 ⟨x, hx, e⟩
theorem Dk.put_ok {D : Dk} (h : D.ok) {i : Int} (h0 : 0 ≤ i) (h1 : i < D.sure.length) {s : List UInt8} (hs : s.length = 64) : (D.put i s).ok := by
  obtain ⟨g1, g2, g3, g4, g5, g6, g7, g8, g9, g10⟩ := h
  have hb : ∀ b ∈ (pk D.es i s D.c).map (·.2.2), b < ck D.es i D.c := by
    intro b hb
    rw [pk_born] at hb
    unfold ck
    split at hb
    · rename_i hn
      rw [if_pos hn]
      rcases List.mem_append.1 hb with hb | hb
      · obtain ⟨x, hx, rfl⟩ := List.mem_map.1 hb
        have := g6 x hx; omega
      · simp at hb; omega
    · rename_i hn
      rw [if_neg hn]
      obtain ⟨x, hx, rfl⟩ := List.mem_map.1 hb
      exact g6 x hx
  refine ⟨g1, g2, g3, ?_, ?_, fun x hx => hb _ (List.mem_map.2 ⟨x, hx, rfl⟩), ?_, ?_, g9, g10⟩
  · intro x hx
    rcases pk_mem hx with hx | ⟨_, rfl⟩
    · exact g4 x hx
    · exact hs
  · intro x hx
    rcases pk_mem hx with hx | ⟨rfl, _⟩
    · exact g5 x hx
    · exact ⟨h0, h1⟩
  · refine (congrArg List.Nodup (pk_keys D.es i s D.c)).mpr ?_
    split
    · rename_i hn
      rw [List.nodup_append]
      refine ⟨g7, by simp, ?_⟩
      intro a ha b hb' e
      simp at hb'
      obtain ⟨x, hx, rfl⟩ := List.mem_map.1 ha
      exact gk_none hn x hx (e.trans hb')
    · exact g7
  · refine (congrArg List.Nodup (pk_born D.es i s D.c)).mpr ?_
    split
    · rw [List.nodup_append]
      refine ⟨g8, by simp, ?_⟩
      intro a ha b hb' e
      simp at hb'
      obtain ⟨x, hx, rfl⟩ := List.mem_map.1 ha
      have := g6 x hx
      omega
    · exact g8
theorem Dk.act_len (D : Dk) : D.act.2.sure.length = D.sure.length := by
  unfold Dk.act
  split
  · exact Dk.cutn_len D _ _
  · rfl
theorem Dk.write_ok {D : Dk} (h : D.ok) (i : Int) (s : List UInt8) : (D.write i s).2.ok := by
  unfold Dk.write
  split
  · rename_i h0
    have := Dk.chk_ok h0
    split
    · exact h
    · split
      · exact Dk.put_ok (Dk.act_ok h) this.2.1 (by rw [Dk.act_len]; exact this.2.2) (wh_len (by omega))
      · exact Dk.act_ok h
  · exact h
/-- Sectors written one by one. -/
def sy (S : Ents eI eS) (l : List (List UInt8)) : List (List UInt8) := S.foldl (fun s x => s.set x.1.toNat x.2.1) l
theorem sy_snoc (S : Ents eI eS) (x : Int × List UInt8 × Nat) (l : List (List UInt8)) : sy (S ++ [x]) l = (sy S l).set x.1.toNat x.2.1 := by simp [sy]
theorem sy_len (S : Ents eI eS) (l : List (List UInt8)) : (sy S l).length = l.length := by
  induction S generalizing l with
  | nil => rfl
  | cons x r ih => show (sy r (l.set x.1.toNat x.2.1)).length = _; rw [ih]; simp
theorem sy_get (S : Ents eI eS) : ∀ (l : List (List UInt8)) (_ : (S.map (·.1)).Nodup) (_ : ∀ x ∈ S, 0 ≤ x.1 ∧ x.1 < (l.length : Int)) (j : Nat) (_ : j < l.length), (sy S l)[j]? = some ((gk S (j : Int)).getD (l.getD j [])) := by
  induction S with
  | nil => intro l _ _ j hj; simp [sy, gk, hj]
  | cons x r ih =>
    intro l hn hr j hj
    rw [List.map_cons, List.nodup_cons] at hn
    show (sy r (l.set x.1.toNat x.2.1))[j]? = _
    rw [ih _ hn.2 (fun y hy => by simpa using hr y (by simp [hy])) j (by simpa using hj)]
    have hx : (0 : Int) ≤ x.1 ∧ (x.1 : Int) < (l.length : Int) := hr x (by simp)
    by_cases h : x.1 = (j : Int)
    · have hg : gk r (j : Int) = none := by
        cases hg : gk r (j : Int) with
        | none => rfl
        | some v => exact absurd (h ▸ gk_some (by rw [hg]; simp)) hn.1
      have : x.1.toNat = j := toN1 h
      simp [gk, h, hg, hj]
    · have : x.1.toNat ≠ j := toN2 hx.1 h
      simp [gk, h, this]
theorem gk_perm {S es : Ents eI eS} (h : S.Perm es) (hn : (es.map (·.1)).Nodup) (k : Int) : gk S k = gk es k := by
  have hn' : (S.map (·.1)).Nodup := (h.map _).nodup_iff.2 hn
  have key : ∀ {A : Ents eI eS} {x : Int × List UInt8 × Nat}, (A.map (·.1)).Nodup → x ∈ A → gk A x.1 = some x.2.1 := by
    intro A x hA hx
    induction A with
    | nil => cases hx
    | cons y r ih =>
      rw [List.map_cons, List.nodup_cons] at hA
      by_cases e : y.1 = x.1
      · cases hx with
        | head => simp [gk]
        | tail _ hx => exact absurd (List.mem_map.2 ⟨x, hx, e.symm⟩) hA.1
      · cases hx with
        | head => exact absurd rfl e
        | tail _ hx => simp only [gk, e, if_false]; exact ih hA.2 hx
  cases hg : gk es k with
  | none =>
    cases hs : gk S k with
    | none => rfl
    | some v =>
      obtain ⟨x, hx, e, _⟩ := gk_mem hs
      exact absurd e (gk_none hg x (h.mem_iff.1 hx))
  | some v =>
    obtain ⟨x, hx, rfl, rfl⟩ := gk_mem hg
    exact key hn' (h.mem_iff.2 hx)
/-- All that was written last, lasting. -/
def Dk.flush (D : Dk) : Dk := { D with sure := sy D.es D.sure, es := [] }
theorem sy_perm {S es : Ents eI eS} {l : List (List UInt8)} (h : S.Perm es) (hn : (es.map (·.1)).Nodup) (hr : ∀ x ∈ es, 0 ≤ x.1 ∧ x.1 < (l.length : Int)) : sy S l = sy es l := by
  apply List.ext_getElem?
  intro j
  by_cases hj : j < l.length
  · rw [sy_get S l ((h.map _).nodup_iff.2 hn) (fun x hx => hr x (h.mem_iff.1 hx)) j hj, sy_get es l hn hr j hj, gk_perm h hn]
  · rw [List.getElem?_eq_none (by rw [sy_len]; omega), List.getElem?_eq_none (by rw [sy_len]; omega)]
def Dk.sync (D : Dk) : Int × Dk := if D.chk 0 = 0 then (if D.act.1 = 0 then (0, D.act.2.flush) else (D.act.1, D.act.2)) else (D.chk 0, D)
theorem f28 (D : Dk) (h : D.ok) : Fq eI Try.prog 28 #[D.p] (dkl D) (dkl D.sync.2) D.sync.1 := by
  unfold Dk.sync
  by_cases h0 : D.chk 0 = 0
  · simp only [h0, if_true]
    by_cases h2 : D.act.1 = 0 <;> simp only [h2, if_true, if_false]
    all_goals
      intro L
      refine c28_fn rfl rfl ?_
      simp only [Dk.p]
      repeat' ((fail_if_success with_reducible refine (id : E _ (ph _) → E _ (ph _)) ?_); first | ((with_reducible refine d_seq ?_); intro K hK) | ((with_reducible refine d_reg ?_); simp only [go_sem, Nat.reduceAdd, Nat.reduceEqDiff, Int.reduceToNat, Nat.reduceMul, Nat.reduceSub]) | ((first | ((with_reducible refine d_cnd ?_); refine And.intro ?_ ?_) | (with_reducible refine r_cnd ?_ ?_)); all_goals (intro hc; (try simp only [push_cast, Int.reduceEq, Int.reduceLT, Int.reduceLE, Int.reduceNe] at hc))) | ((with_reducible refine hK _ _ ?_); clear hK; clear K) | ((with_reducible first | refine d_blk ?_ | refine d_rt0 ?_ | refine d_sk0 ?_ | refine d_ex0 ?_); (try simp only [go_sem, Nat.reduceAdd, Nat.reduceEqDiff, Int.reduceToNat, Nat.reduceMul, Nat.reduceSub])) | (with_reducible refine r_rq (by first | decide | omega) ?_) | ((with_reducible refine r_nwc ?_); intro b) | ((with_reducible first | apply i_lds | apply i_ldsq | apply i_ld | apply i_ldq); exact rfl) | ((with_reducible first | apply i_ldn | apply i_ldnq); exact rfl; exact rfl; exact rfl) | (with_reducible first | refine r_ph0 ?_ | apply i_kp0) | ((with_reducible first | apply i_st | apply i_stl); (focus simp); exact rfl) | simp only [go_sem, Nat.reduceAdd, Nat.reduceEqDiff, Int.reduceToNat, Nat.reduceMul, Nat.reduceSub] | (clear hK; clear K))
      refine i_clp (f67 D h 0) ?_
      simp only [h0]
      repeat' ((fail_if_success with_reducible refine (id : E _ (ph _) → E _ (ph _)) ?_); first | ((with_reducible refine d_seq ?_); intro K hK) | ((with_reducible refine d_reg ?_); simp only [go_sem, Nat.reduceAdd, Nat.reduceEqDiff, Int.reduceToNat, Nat.reduceMul, Nat.reduceSub]) | ((first | ((with_reducible refine d_cnd ?_); refine And.intro ?_ ?_) | (with_reducible refine r_cnd ?_ ?_)); all_goals (intro hc; (try simp only [push_cast, Int.reduceEq, Int.reduceLT, Int.reduceLE, Int.reduceNe] at hc))) | ((with_reducible refine hK _ _ ?_); clear hK; clear K) | ((with_reducible first | refine d_blk ?_ | refine d_rt0 ?_ | refine d_sk0 ?_ | refine d_ex0 ?_); (try simp only [go_sem, Nat.reduceAdd, Nat.reduceEqDiff, Int.reduceToNat, Nat.reduceMul, Nat.reduceSub])) | (with_reducible refine r_rq (by first | decide | omega) ?_) | ((with_reducible refine r_nwc ?_); intro b) | ((with_reducible first | apply i_lds | apply i_ldsq | apply i_ld | apply i_ldq); exact rfl) | ((with_reducible first | apply i_ldn | apply i_ldnq); exact rfl; exact rfl; exact rfl) | (with_reducible first | refine r_ph0 ?_ | apply i_kp0) | ((with_reducible first | apply i_st | apply i_stl); (focus simp); exact rfl) | simp only [go_sem, Nat.reduceAdd, Nat.reduceEqDiff, Int.reduceToNat, Nat.reduceMul, Nat.reduceSub] | (clear hK; clear K))
      all_goals try (first | contradiction | (exfalso; omega))
      refine i_clq (f68 D h) ?_
      try simp only [h2]
      repeat' ((fail_if_success with_reducible refine (id : E _ (ph _) → E _ (ph _)) ?_); first | ((with_reducible refine d_seq ?_); intro K hK) | ((with_reducible refine d_reg ?_); simp only [go_sem, Nat.reduceAdd, Nat.reduceEqDiff, Int.reduceToNat, Nat.reduceMul, Nat.reduceSub]) | ((first | ((with_reducible refine d_cnd ?_); refine And.intro ?_ ?_) | (with_reducible refine r_cnd ?_ ?_)); all_goals (intro hc; (try simp only [push_cast, Int.reduceEq, Int.reduceLT, Int.reduceLE, Int.reduceNe] at hc))) | ((with_reducible refine hK _ _ ?_); clear hK; clear K) | ((with_reducible first | refine d_blk ?_ | refine d_rt0 ?_ | refine d_sk0 ?_ | refine d_ex0 ?_); (try simp only [go_sem, Nat.reduceAdd, Nat.reduceEqDiff, Int.reduceToNat, Nat.reduceMul, Nat.reduceSub])) | (with_reducible refine r_rq (by first | decide | omega) ?_) | ((with_reducible refine r_nwc ?_); intro b) | ((with_reducible first | apply i_lds | apply i_ldsq | apply i_ld | apply i_ldq); exact rfl) | ((with_reducible first | apply i_ldn | apply i_ldnq); exact rfl; exact rfl; exact rfl) | (with_reducible first | refine r_ph0 ?_ | apply i_kp0) | ((with_reducible first | apply i_st | apply i_stl); (focus simp); exact rfl) | simp only [go_sem, Nat.reduceAdd, Nat.reduceEqDiff, Int.reduceToNat, Nat.reduceMul, Nat.reduceSub] | (clear hK; clear K))
      all_goals try (first | contradiction | (exfalso; omega))
    · have hsb := Dk.act_sb D
      have hA := Dk.act_ok h
      generalize D.act.2 = A at *
      simp only [← hsb]
      repeat' (first | ((with_reducible refine d_seq ?_); intro K hK) | ((with_reducible refine d_reg ?_); simp only [go_sem, Nat.reduceAdd, Nat.reduceEqDiff, Int.reduceToNat, Nat.reduceMul, Nat.reduceSub]) | ((first | ((with_reducible refine d_cnd ?_); refine And.intro ?_ ?_) | (with_reducible refine r_cnd ?_ ?_)); all_goals (intro hc; (try simp only [push_cast, Int.reduceEq, Int.reduceLT, Int.reduceLE, Int.reduceNe] at hc))) | ((with_reducible refine hK _ _ ?_); clear hK; clear K) | ((with_reducible first | refine d_blk ?_ | refine d_rt0 ?_ | refine d_sk0 ?_ | refine d_ex0 ?_); (try simp only [go_sem, Nat.reduceAdd, Nat.reduceEqDiff, Int.reduceToNat, Nat.reduceMul, Nat.reduceSub])) | (with_reducible refine r_rq (by first | decide | omega) ?_) | ((with_reducible refine r_nwc ?_); intro b) | ((with_reducible first | apply i_lds | apply i_ldsq | apply i_ld | apply i_ldq); exact rfl) | ((with_reducible first | apply i_ldn | apply i_ldnq); exact rfl; exact rfl; exact rfl) | (with_reducible first | refine r_ph0 ?_ | apply i_kp0) | ((with_reducible first | apply i_st | apply i_stl); (focus simp); exact rfl) | simp only [go_sem, Nat.reduceAdd, Nat.reduceEqDiff, Int.reduceToNat, Nat.reduceMul, Nat.reduceSub] | (clear hK; clear K))
      refine i_mrng (κ := eI) (ε := eS) (a := 3) (b := 9) (by kernel_rfl) fun it => ?_
      repeat' (first | ((with_reducible refine d_seq ?_); intro K hK) | ((with_reducible refine d_reg ?_); simp only [go_sem, Nat.reduceAdd, Nat.reduceEqDiff, Int.reduceToNat, Nat.reduceMul, Nat.reduceSub]) | ((first | ((with_reducible refine d_cnd ?_); refine And.intro ?_ ?_) | (with_reducible refine r_cnd ?_ ?_)); all_goals (intro hc; (try simp only [push_cast, Int.reduceEq, Int.reduceLT, Int.reduceLE, Int.reduceNe] at hc))) | ((with_reducible refine hK _ _ ?_); clear hK; clear K) | ((with_reducible first | refine d_blk ?_ | refine d_rt0 ?_ | refine d_sk0 ?_ | refine d_ex0 ?_); (try simp only [go_sem, Nat.reduceAdd, Nat.reduceEqDiff, Int.reduceToNat, Nat.reduceMul, Nat.reduceSub])) | (with_reducible refine r_rq (by first | decide | omega) ?_) | ((with_reducible refine r_nwc ?_); intro b) | ((with_reducible first | apply i_lds | apply i_ldsq | apply i_ld | apply i_ldq); exact rfl) | ((with_reducible first | apply i_ldn | apply i_ldnq); exact rfl; exact rfl; exact rfl) | (with_reducible first | refine r_ph0 ?_ | apply i_kp0) | ((with_reducible first | apply i_st | apply i_stl); (focus simp); exact rfl) | simp only [go_sem, Nat.reduceAdd, Nat.reduceEqDiff, Int.reduceToNat, Nat.reduceMul, Nat.reduceSub] | (clear hK; clear K))
      refine d_lp [0, 21] (fun s : Ents eI eS × Ents eI eS => [(0, .pointer (some ⟨A.sb, 0, none⟩)), (21, .pointer (some ⟨it, 0, none⟩))])
        (fun s => blk it (.mapIter (some A.mb) A.c (sn s.1) A.c) :: ar A.sb 59 A.hd :: ar A.bb 9 ((sy s.1 A.sure).map fun s => str s) :: mp eI eS A.mb A.es A.c :: L) (fun s => Rg A.es s.1 s.2) (fun s => s.2.length) ([], A.es) rfl ?_ (Rg.start _) ?_
      · show Sub (blk it (.mapIter (some A.mb) A.c #[] A.c) :: (dkl A ++ L)) _
        exact SX.p
      rintro ⟨S, R⟩ hR
      dsimp only at hR ⊢
      repeat' (first | ((with_reducible refine d_seq ?_); intro K hK) | ((with_reducible refine d_reg ?_); simp only [go_sem, Nat.reduceAdd, Nat.reduceEqDiff, Int.reduceToNat, Nat.reduceMul, Nat.reduceSub]) | ((first | ((with_reducible refine d_cnd ?_); refine And.intro ?_ ?_) | (with_reducible refine r_cnd ?_ ?_)); all_goals (intro hc; (try simp only [push_cast, Int.reduceEq, Int.reduceLT, Int.reduceLE, Int.reduceNe] at hc))) | ((with_reducible refine hK _ _ ?_); clear hK; clear K) | ((with_reducible first | refine d_blk ?_ | refine d_rt0 ?_ | refine d_sk0 ?_ | refine d_ex0 ?_); (try simp only [go_sem, Nat.reduceAdd, Nat.reduceEqDiff, Int.reduceToNat, Nat.reduceMul, Nat.reduceSub])) | (with_reducible refine r_rq (by first | decide | omega) ?_) | ((with_reducible refine r_nwc ?_); intro b) | ((with_reducible first | apply i_lds | apply i_ldsq | apply i_ld | apply i_ldq); exact rfl) | ((with_reducible first | apply i_ldn | apply i_ldnq); exact rfl; exact rfl; exact rfl) | (with_reducible first | refine r_ph0 ?_ | apply i_kp0) | ((with_reducible first | apply i_st | apply i_stl); (focus simp); exact rfl) | simp only [go_sem, Nat.reduceAdd, Nat.reduceEqDiff, Int.reduceToNat, Nat.reduceMul, Nat.reduceSub] | (clear hK; clear K))
      refine i_mnx (κ := eI) (ε := eS) hA.ec (Nat.le_refl _) (fun ha => ?_) fun x hx hn => ?_
      · repeat' (first | ((with_reducible refine d_seq ?_); intro K hK) | ((with_reducible refine d_reg ?_); simp only [go_sem, Nat.reduceAdd, Nat.reduceEqDiff, Int.reduceToNat, Nat.reduceMul, Nat.reduceSub]) | ((first | ((with_reducible refine d_cnd ?_); refine And.intro ?_ ?_) | (with_reducible refine r_cnd ?_ ?_)); all_goals (intro hc; (try simp only [push_cast, Int.reduceEq, Int.reduceLT, Int.reduceLE, Int.reduceNe] at hc))) | ((with_reducible refine hK _ _ ?_); clear hK; clear K) | ((with_reducible first | refine d_blk ?_ | refine d_rt0 ?_ | refine d_sk0 ?_ | refine d_ex0 ?_); (try simp only [go_sem, Nat.reduceAdd, Nat.reduceEqDiff, Int.reduceToNat, Nat.reduceMul, Nat.reduceSub])) | (with_reducible refine r_rq (by first | decide | omega) ?_) | ((with_reducible refine r_nwc ?_); intro b) | ((with_reducible first | apply i_lds | apply i_ldsq | apply i_ld | apply i_ldq); exact rfl) | ((with_reducible first | apply i_ldn | apply i_ldnq); exact rfl; exact rfl; exact rfl) | (with_reducible first | refine r_ph0 ?_ | apply i_kp0) | ((with_reducible first | apply i_st | apply i_stl); (focus simp); exact rfl) | simp only [go_sem, Nat.reduceAdd, Nat.reduceEqDiff, Int.reduceToNat, Nat.reduceMul, Nat.reduceSub] | (clear hK; clear K))
        obtain rfl := hR.done hA.bn ha
        have hS : S.Perm A.es := by have := hR; unfold Rg at this; simpa using this
        have e := sy_perm hS hA.kn hA.ei
        refine i_mclr (κ := eI) (ε := eS) (a := 3) (b := 9) (by kernel_rfl) ?_
        repeat' (first | ((with_reducible refine d_seq ?_); intro K hK) | ((with_reducible refine d_reg ?_); simp only [go_sem, Nat.reduceAdd, Nat.reduceEqDiff, Int.reduceToNat, Nat.reduceMul, Nat.reduceSub]) | ((first | ((with_reducible refine d_cnd ?_); refine And.intro ?_ ?_) | (with_reducible refine r_cnd ?_ ?_)); all_goals (intro hc; (try simp only [push_cast, Int.reduceEq, Int.reduceLT, Int.reduceLE, Int.reduceNe] at hc))) | ((with_reducible refine hK _ _ ?_); clear hK; clear K) | ((with_reducible first | refine d_blk ?_ | refine d_rt0 ?_ | refine d_sk0 ?_ | refine d_ex0 ?_); (try simp only [go_sem, Nat.reduceAdd, Nat.reduceEqDiff, Int.reduceToNat, Nat.reduceMul, Nat.reduceSub])) | (with_reducible refine r_rq (by first | decide | omega) ?_) | ((with_reducible refine r_nwc ?_); intro b) | ((with_reducible first | apply i_lds | apply i_ldsq | apply i_ld | apply i_ldq); exact rfl) | ((with_reducible first | apply i_ldn | apply i_ldnq); exact rfl; exact rfl; exact rfl) | (with_reducible first | refine r_ph0 ?_ | apply i_kp0) | ((with_reducible first | apply i_st | apply i_stl); (focus simp); exact rfl) | simp only [go_sem, Nat.reduceAdd, Nat.reduceEqDiff, Int.reduceToNat, Nat.reduceMul, Nat.reduceSub] | (clear hK; clear K))
        simp only [Dk.flush, dkl, Dk.hd, sy_len]
        rw [e]
        (with_reducible first | apply i_ret0 | apply i_ret2 | apply i_ret3 | apply i_ret); exact rfl
        rfl
      · repeat' (first | ((with_reducible refine d_seq ?_); intro K hK) | ((with_reducible refine d_reg ?_); simp only [go_sem, Nat.reduceAdd, Nat.reduceEqDiff, Int.reduceToNat, Nat.reduceMul, Nat.reduceSub]) | ((first | ((with_reducible refine d_cnd ?_); refine And.intro ?_ ?_) | (with_reducible refine r_cnd ?_ ?_)); all_goals (intro hc; (try simp only [push_cast, Int.reduceEq, Int.reduceLT, Int.reduceLE, Int.reduceNe] at hc))) | ((with_reducible refine hK _ _ ?_); clear hK; clear K) | ((with_reducible first | refine d_blk ?_ | refine d_rt0 ?_ | refine d_sk0 ?_ | refine d_ex0 ?_); (try simp only [go_sem, Nat.reduceAdd, Nat.reduceEqDiff, Int.reduceToNat, Nat.reduceMul, Nat.reduceSub])) | (with_reducible refine r_rq (by first | decide | omega) ?_) | ((with_reducible refine r_nwc ?_); intro b) | ((with_reducible first | apply i_lds | apply i_ldsq | apply i_ld | apply i_ldq); exact rfl) | ((with_reducible first | apply i_ldn | apply i_ldnq); exact rfl; exact rfl; exact rfl) | (with_reducible first | refine r_ph0 ?_ | apply i_kp0) | ((with_reducible first | apply i_st | apply i_stl); (focus simp); exact rfl) | simp only [go_sem, Nat.reduceAdd, Nat.reduceEqDiff, Int.reduceToNat, Nat.reduceMul, Nat.reduceSub] | (clear hK; clear K))
        rw [sn_push]
        refine i_ment hx hA.bn ?_
        have hi : (0 : Int) ≤ x.1 ∧ (x.1 : Int) < (A.sure.length : Int) := hA.ei x hx
        have hl := sy_len S A.sure
        obtain ⟨R', hlt, hst⟩ := hR.step hx hn
        repeat' (first | ((with_reducible refine d_seq ?_); intro K hK) | ((with_reducible refine d_reg ?_); simp only [go_sem, Nat.reduceAdd, Nat.reduceEqDiff, Int.reduceToNat, Nat.reduceMul, Nat.reduceSub]) | ((first | ((with_reducible refine d_cnd ?_); refine And.intro ?_ ?_) | (with_reducible refine r_cnd ?_ ?_)); all_goals (intro hc; (try simp only [push_cast, Int.reduceEq, Int.reduceLT, Int.reduceLE, Int.reduceNe] at hc))) | ((with_reducible refine hK _ _ ?_); clear hK; clear K) | ((with_reducible first | refine d_blk ?_ | refine d_rt0 ?_ | refine d_sk0 ?_ | refine d_ex0 ?_); (try simp only [go_sem, Nat.reduceAdd, Nat.reduceEqDiff, Int.reduceToNat, Nat.reduceMul, Nat.reduceSub])) | (with_reducible refine r_rq (by first | decide | omega) ?_) | ((with_reducible refine r_nwc ?_); intro b) | ((with_reducible first | apply i_lds | apply i_ldsq | apply i_ld | apply i_ldq); exact rfl) | ((with_reducible first | apply i_ldn | apply i_ldnq); exact rfl; exact rfl; exact rfl) | (with_reducible first | refine r_ph0 ?_ | apply i_kp0) | ((with_reducible first | apply i_st | apply i_stl); (focus simp); exact rfl) | simp only [go_sem, Nat.reduceAdd, Nat.reduceEqDiff, Int.reduceToNat, Nat.reduceMul, Nat.reduceSub] | (clear hK; clear K))
        refine i_st (by rw [List.length_map, hl]; exact toN3 hi) rfl ?_
        rw [← List.map_set, ← sy_snoc]
        repeat' (first | ((with_reducible refine d_seq ?_); intro K hK) | ((with_reducible refine d_reg ?_); simp only [go_sem, Nat.reduceAdd, Nat.reduceEqDiff, Int.reduceToNat, Nat.reduceMul, Nat.reduceSub]) | ((first | ((with_reducible refine d_cnd ?_); refine And.intro ?_ ?_) | (with_reducible refine r_cnd ?_ ?_)); all_goals (intro hc; (try simp only [push_cast, Int.reduceEq, Int.reduceLT, Int.reduceLE, Int.reduceNe] at hc))) | ((with_reducible refine hK _ _ ?_); clear hK; clear K) | ((with_reducible first | refine d_blk ?_ | refine d_rt0 ?_ | refine d_sk0 ?_ | refine d_ex0 ?_); (try simp only [go_sem, Nat.reduceAdd, Nat.reduceEqDiff, Int.reduceToNat, Nat.reduceMul, Nat.reduceSub])) | (with_reducible refine r_rq (by first | decide | omega) ?_) | ((with_reducible refine r_nwc ?_); intro b) | ((with_reducible first | apply i_lds | apply i_ldsq | apply i_ld | apply i_ldq); exact rfl) | ((with_reducible first | apply i_ldn | apply i_ldnq); exact rfl; exact rfl; exact rfl) | (with_reducible first | refine r_ph0 ?_ | apply i_kp0) | ((with_reducible first | apply i_st | apply i_stl); (focus simp); exact rfl) | simp only [go_sem, Nat.reduceAdd, Nat.reduceEqDiff, Int.reduceToNat, Nat.reduceMul, Nat.reduceSub] | (clear hK; clear K))
        exact i_bk (S ++ [x], R') rfl hst hlt
    · (with_reducible first | apply i_ret0 | apply i_ret2 | apply i_ret3 | apply i_ret); exact rfl
      rfl
  · simp only [h0, if_false]
    intro L
    refine c28_fn rfl rfl ?_
    simp only [Dk.p]
    repeat' ((fail_if_success with_reducible refine (id : E _ (ph _) → E _ (ph _)) ?_); first | ((with_reducible refine d_seq ?_); intro K hK) | ((with_reducible refine d_reg ?_); simp only [go_sem, Nat.reduceAdd, Nat.reduceEqDiff, Int.reduceToNat, Nat.reduceMul, Nat.reduceSub]) | ((first | ((with_reducible refine d_cnd ?_); refine And.intro ?_ ?_) | (with_reducible refine r_cnd ?_ ?_)); all_goals (intro hc; (try simp only [push_cast, Int.reduceEq, Int.reduceLT, Int.reduceLE, Int.reduceNe] at hc))) | ((with_reducible refine hK _ _ ?_); clear hK; clear K) | ((with_reducible first | refine d_blk ?_ | refine d_rt0 ?_ | refine d_sk0 ?_ | refine d_ex0 ?_); (try simp only [go_sem, Nat.reduceAdd, Nat.reduceEqDiff, Int.reduceToNat, Nat.reduceMul, Nat.reduceSub])) | (with_reducible refine r_rq (by first | decide | omega) ?_) | ((with_reducible refine r_nwc ?_); intro b) | ((with_reducible first | apply i_lds | apply i_ldsq | apply i_ld | apply i_ldq); exact rfl) | ((with_reducible first | apply i_ldn | apply i_ldnq); exact rfl; exact rfl; exact rfl) | (with_reducible first | refine r_ph0 ?_ | apply i_kp0) | ((with_reducible first | apply i_st | apply i_stl); (focus simp); exact rfl) | simp only [go_sem, Nat.reduceAdd, Nat.reduceEqDiff, Int.reduceToNat, Nat.reduceMul, Nat.reduceSub] | (clear hK; clear K))
    refine i_clp (f67 D h 0) ?_
    repeat' ((fail_if_success with_reducible refine (id : E _ (ph _) → E _ (ph _)) ?_); first | ((with_reducible refine d_seq ?_); intro K hK) | ((with_reducible refine d_reg ?_); simp only [go_sem, Nat.reduceAdd, Nat.reduceEqDiff, Int.reduceToNat, Nat.reduceMul, Nat.reduceSub]) | ((first | ((with_reducible refine d_cnd ?_); refine And.intro ?_ ?_) | (with_reducible refine r_cnd ?_ ?_)); all_goals (intro hc; (try simp only [push_cast, Int.reduceEq, Int.reduceLT, Int.reduceLE, Int.reduceNe] at hc))) | ((with_reducible refine hK _ _ ?_); clear hK; clear K) | ((with_reducible first | refine d_blk ?_ | refine d_rt0 ?_ | refine d_sk0 ?_ | refine d_ex0 ?_); (try simp only [go_sem, Nat.reduceAdd, Nat.reduceEqDiff, Int.reduceToNat, Nat.reduceMul, Nat.reduceSub])) | (with_reducible refine r_rq (by first | decide | omega) ?_) | ((with_reducible refine r_nwc ?_); intro b) | ((with_reducible first | apply i_lds | apply i_ldsq | apply i_ld | apply i_ldq); exact rfl) | ((with_reducible first | apply i_ldn | apply i_ldnq); exact rfl; exact rfl; exact rfl) | (with_reducible first | refine r_ph0 ?_ | apply i_kp0) | ((with_reducible first | apply i_st | apply i_stl); (focus simp); exact rfl) | simp only [go_sem, Nat.reduceAdd, Nat.reduceEqDiff, Int.reduceToNat, Nat.reduceMul, Nat.reduceSub] | (clear hK; clear K))
    all_goals first | contradiction | omega | ((with_reducible first | apply i_ret0 | apply i_ret2 | apply i_ret3 | apply i_ret); exact rfl; rfl)
theorem Dk.flush_ok {D : Dk} (h : D.ok) : D.flush.ok := by
  obtain ⟨g1, g2, g3, g4, g5, g6, g7, g8, g9, g10⟩ := h
  have hl := sy_len D.es D.sure
  constructor <;> simp only [Dk.flush, hl] <;> first | assumption | skip
  · intro s hs
    obtain ⟨j, hj⟩ := List.getElem?_of_mem hs
    have hj' : j < D.sure.length := by
      rw [← hl]
      rcases Nat.lt_or_ge j (sy D.es D.sure).length with h | h
      · exact h
      · rw [List.getElem?_eq_none h] at hj; cases hj
    rw [sy_get _ _ g7 g5 j hj'] at hj
    cases hg : gk D.es (j : Int) with
    | none => rw [hg] at hj; simp only [Option.getD_none, Option.some.injEq] at hj; subst hj; exact g3 _ (by simp [hj'])
    | some v =>
      obtain ⟨x, hx, _, rfl⟩ := gk_mem hg
      rw [hg] at hj
      simp only [Option.getD_some, Option.some.injEq] at hj
      subst hj
      have := g4 x hx
      omega
  all_goals simp
theorem Dk.get_len {D : Dk} (h : D.ok) {i : Int} (hi : D.chk i = 0) : (D.get i).length = 64 := by
  have hk := Dk.chk_ok hi
  unfold Dk.get
  cases hg : gk D.es i with
  | some v => obtain ⟨x, hx, _, rfl⟩ := gk_mem hg; exact h.e64 x hx
  | none =>
    have : i.toNat < D.sure.length := by omega
    exact wh_len (h.l64 _ (by simp [this]))
theorem Dk.sync_ok {D : Dk} (h : D.ok) : D.sync.2.ok := by
  unfold Dk.sync
  split
  · split
    · exact Dk.flush_ok (Dk.act_ok h)
    · exact Dk.act_ok h
  · exact h
end Go.Sp
/- What each region of the Go functions does. Written by my own generator. -/
namespace Go.Sp
open Go
set_option maxRecDepth 100000
set_option linter.unusedVariables false
open Go.Proofs
/-! gharry.gharrylaw03.awake -/
noncomputable def c24 : Cfg := { P := Try.prog, n := 63, T := TT, body := (Try.f24.body).getD .skip, res := Try.f24.results.toList, li := lk [] [(0, []), (1, []), (2, [1, 2]), (3, []), (4, [1]), (5, [1, 3, 4])], lo := lk [] [(0, []), (1, [1, 2]), (2, [1, 29]), (3, [0]), (4, [1, 3, 4]), (5, [0]), (1000000, [0])], ord := lk (false, []) [] }
@[go_sem] theorem c24_i0 : c24.li 0 = [] := rfl
@[go_sem] theorem c24_i1 : c24.li 1 = [] := rfl
@[go_sem] theorem c24_i2 : c24.li 2 = [1, 2] := rfl
@[go_sem] theorem c24_i3 : c24.li 3 = [] := rfl
@[go_sem] theorem c24_i4 : c24.li 4 = [1] := rfl
@[go_sem] theorem c24_i5 : c24.li 5 = [1, 3, 4] := rfl
@[go_sem] theorem c24_r0 (K : Env → W) : RP c24 0 [] K =
    (K []) := by kernel_rfl
@[go_sem] theorem c24_r1 (K : Env → W) : RP c24 1 [] K =
    (cal (eT2 eP eI) Try.prog 25 #[.int .i64 ((2 : Int))] fun (y1_ : ((Option Addr) × Int)) => (K [(1, .pointer y1_.1), (2, .int .i64 y1_.2)])) := by kernel_rfl
@[go_sem] theorem c24_r2 (d1 : Option Addr) (e2 : Int) (K : Env → W) : RP c24 2 [(1, .pointer d1), (2, .int .i64 e2)] K =
    (cnd ((e2 != (0 : Int))) (K [(1, .pointer d1), (29, .bool true)]) (cnd ((d1).isNone) (K [(1, .pointer d1), (29, .bool true)]) (cal eI Try.prog 27 #[.pointer d1, .int .i64 ((0 : Int)), str (([97] : List UInt8))] fun (y1_ : Int) => (cnd ((y1_ != (0 : Int))) (K [(1, .pointer d1), (29, .bool true)]) (cal eI Try.prog 29 #[.pointer d1, .int .u64 ((0 : Int))] fun (y2_ : Int) => (cnd ((y2_ != (0 : Int))) (K [(1, .pointer d1), (29, .bool true)]) (cal eI Try.prog 30 #[.pointer d1] fun (y3_ : Int) => (K [(1, .pointer d1), (29, .bool ((y3_ != (0 : Int))))])))))))) := by kernel_rfl
@[go_sem] theorem c24_r3 (K : Env → W) : RP c24 3 [] K =
    (K [(0, .bool false)]) := by kernel_rfl
@[go_sem] theorem c24_r4 (d1 : Option Addr) (K : Env → W) : RP c24 4 [(1, .pointer d1)] K =
    (cal (eT2 eS eI) Try.prog 31 #[.pointer d1, .int .i64 ((0 : Int))] fun (y1_ : ((List UInt8) × Int)) => (K [(1, .pointer d1), (3, str y1_.1), (4, .int .i64 y1_.2)])) := by kernel_rfl
@[go_sem] theorem c24_r5 (d1 : Option Addr) (s3 : List UInt8) (f4 : Int) (K : Env → W) : RP c24 5 [(1, .pointer d1), (3, str s3), (4, .int .i64 f4)] K =
    (cnd ((f4 == (0 : Int))) (cal eS Try.prog 32 #[str (([] : List UInt8))] fun (y1_ : List UInt8) => (cnd ((s3 == y1_)) (cal eI Try.prog 27 #[.pointer d1, .int .i64 ((0 : Int)), str (([97] : List UInt8))] fun (y2_ : Int) => (cnd ((y2_ == (0 : Int))) (cal eI Try.prog 29 #[.pointer d1, .int .u64 ((1 : Int))] fun (y3_ : Int) => (cnd ((y3_ == (0 : Int))) (cal eI Try.prog 30 #[.pointer d1] fun (y4_ : Int) => (cnd ((y4_ == (0 : Int))) (cal eS Try.prog 65 #[.pointer d1] fun (y5_ : List UInt8) => (cal eS Try.prog 32 #[str (([97] : List UInt8))] fun (y6_ : List UInt8) => (K [(0, .bool ((y5_ == y6_)))]))) (K [(0, .bool false)]))) (K [(0, .bool false)]))) (K [(0, .bool false)]))) (K [(0, .bool false)]))) (K [(0, .bool false)])) := by kernel_rfl
@[go_sem] theorem c24_o : c24.lo 1000000 = [0] := rfl
@[go_sem] theorem c24_e (t0 : Bool) (k : Value → W) : RTp c24 [(0, .bool t0)] k = (k (.bool t0)) := by kernel_rfl
theorem c24_ok : (c24.P.follows .mixedOrders && okc c24 c24.body) = true := by kernel_rfl
theorem c24_fn {e : Enc} {args : Array Value} {G : e.α → W} {L : List HP} {ρ : Env} (hρ : envA 0 args.toList = ρ) (hs : Nat.ble args.size 63 = true) (h : E L (D c24 (.seq (.reg 0) (.seq (.reg 1) (.seq (.seq (.reg 2) (.cond (.tmp 29) (.seq (.reg 3) (.ret)) (.skip))) (.seq (.reg 4) (.seq (.reg 5) (.ret)))))) (fnQ c24 e G) ρ)) : E L (cal e Try.prog 24 args G) :=
  d_fn (c := c24) Try.func24 (by kernel_rfl) (by kernel_rfl) (by kernel_rfl) c24_ok (by kernel_rfl) (by kernel_rfl) hρ hs h
/-! gharry.gharrylaw03.whole -/
noncomputable def c32 : Cfg := { P := Try.prog, n := 9, T := TT, body := (Try.f32.body).getD .skip, res := Try.f32.results.toList, li := lk [] [(0, [0]), (1, [0]), (2, [0]), (3, [0])], lo := lk [] [(0, [0]), (1, [0, 5]), (2, [0]), (3, [2]), (1000000, [2])], ord := lk (false, []) [] }
@[go_sem] theorem c32_i0 : c32.li 0 = [0] := rfl
@[go_sem] theorem c32_i1 : c32.li 1 = [0] := rfl
@[go_sem] theorem c32_i2 : c32.li 2 = [0] := rfl
@[go_sem] theorem c32_i3 : c32.li 3 = [0] := rfl
@[go_sem] theorem c32_r0 (s0 : List UInt8) (K : Env → W) : RP c32 0 [(0, str s0)] K =
    (K [(0, str s0)]) := by kernel_rfl
@[go_sem] theorem c32_r1 (s0 : List UInt8) (K : Env → W) : RP c32 1 [(0, str s0)] K =
    (K [(0, str s0), (5, .bool ((decide (((s0).length : Int) < (64 : Int)))))]) := by kernel_rfl
@[go_sem] theorem c32_r2 (s0 : List UInt8) (K : Env → W) : RP c32 2 [(0, str s0)] K =
    (rq (((s0).length : Int) + ((([0] : List UInt8)).length : Int) ≤ 9223372036854775807) (K [(0, str ((s0 ++ ([0] : List UInt8))))])) := by kernel_rfl
@[go_sem] theorem c32_r3 (s0 : List UInt8) (K : Env → W) : RP c32 3 [(0, str s0)] K =
    (K [(2, str s0)]) := by kernel_rfl
@[go_sem] theorem c32_o : c32.lo 1000000 = [2] := rfl
@[go_sem] theorem c32_e (t2 : List UInt8) (k : Value → W) : RTp c32 [(2, str t2)] k = (k (str t2)) := by kernel_rfl
theorem c32_ok : (c32.P.follows .mixedOrders && okc c32 c32.body) = true := by kernel_rfl
theorem c32_fn {e : Enc} {args : Array Value} {G : e.α → W} {L : List HP} {ρ : Env} (hρ : envA 0 args.toList = ρ) (hs : Nat.ble args.size 9 = true) (h : E L (D c32 (.seq (.reg 0) (.seq (.block 0 (.loop (.seq (.seq (.reg 1) (.cond (.tmp 5) (.skip) (.exit 0))) (.block 1 (.reg 2))))) (.seq (.reg 3) (.ret)))) (fnQ c32 e G) ρ)) : E L (cal e Try.prog 32 args G) :=
  d_fn (c := c32) Try.func32 (by kernel_rfl) (by kernel_rfl) (by kernel_rfl) c32_ok (by kernel_rfl) (by kernel_rfl) hρ hs h
-- loop (first region 1): live slots 0:s0, of which it writes [0]
/-! gharry.gharrylaw03.first -/
noncomputable def c65 : Cfg := { P := Try.prog, n := 11, T := TT, body := (Try.f65.body).getD .skip, res := Try.f65.results.toList, li := lk [] [(0, [0]), (1, [0]), (2, [3])], lo := lk [] [(0, [0]), (1, [3]), (2, [2]), (1000000, [2])], ord := lk (false, []) [] }
@[go_sem] theorem c65_i0 : c65.li 0 = [0] := rfl
@[go_sem] theorem c65_i1 : c65.li 1 = [0] := rfl
@[go_sem] theorem c65_i2 : c65.li 2 = [3] := rfl
@[go_sem] theorem c65_r0 (d0 : Option Addr) (K : Env → W) : RP c65 0 [(0, .pointer d0)] K =
    (K [(0, .pointer d0)]) := by kernel_rfl
@[go_sem] theorem c65_r1 (d0 : Option Addr) (K : Env → W) : RP c65 1 [(0, .pointer d0)] K =
    (cal (eT2 eS eI) Try.prog 31 #[.pointer d0, .int .i64 ((0 : Int))] fun (y1_ : ((List UInt8) × Int)) => (K [(3, str y1_.1)])) := by kernel_rfl
@[go_sem] theorem c65_r2 (s3 : List UInt8) (K : Env → W) : RP c65 2 [(3, str s3)] K =
    (K [(2, str s3)]) := by kernel_rfl
@[go_sem] theorem c65_o : c65.lo 1000000 = [2] := rfl
@[go_sem] theorem c65_e (t2 : List UInt8) (k : Value → W) : RTp c65 [(2, str t2)] k = (k (str t2)) := by kernel_rfl
theorem c65_ok : (c65.P.follows .mixedOrders && okc c65 c65.body) = true := by kernel_rfl
theorem c65_fn {e : Enc} {args : Array Value} {G : e.α → W} {L : List HP} {ρ : Env} (hρ : envA 0 args.toList = ρ) (hs : Nat.ble args.size 11 = true) (h : E L (D c65 (.seq (.reg 0) (.seq (.reg 1) (.seq (.reg 2) (.ret)))) (fnQ c65 e G) ρ)) : E L (cal e Try.prog 65 args G) :=
  d_fn (c := c65) Try.func65 (by kernel_rfl) (by kernel_rfl) (by kernel_rfl) c65_ok (by kernel_rfl) (by kernel_rfl) hρ hs h
end Go.Sp
/- The disk as one part; the layer's example. -/
namespace Go.Sp
open Go Go.Proofs
set_option linter.unusedSimpArgs false
set_option linter.unusedVariables false
set_option maxRecDepth 10000
def dk (D : Dk) : HP := HS (dkl D)
theorem fo {e : Enc} {P : Program} {f : FuncId} {args : Array Value} {x : e.α} {D D' : Dk} (h : Fq e P f args (dkl D) (dkl D') x) : Fq e P f args [dk D] [dk D'] x :=
  Fq.fold (A := dkl D) (B := dkl D') (C := []) (by simpa using h)
theorem F37 (D : Dk) (h : D.ok) : Fp eB Try.prog 37 #[D.p] [dk D] D.up := fo (f37 D h)
theorem F26 (D : Dk) (h : D.ok) : Fp eI Try.prog 26 #[D.p] [dk D] (D.sure.length : Int) := fo (f26 D h)
theorem F38 (D : Dk) (h : D.ok) : Fp eI Try.prog 38 #[D.p] [dk D] D.acts := fo (f38 D h)
theorem F39 (D : Dk) (h : D.ok) : Fp eI Try.prog 39 #[D.p] [dk D] D.downs := fo (f39 D h)
theorem F31 (D : Dk) (h : D.ok) (i : Int) : Fp (eT2 eS eI) Try.prog 31 #[D.p, .int .i64 i] [dk D] (if D.chk i = 0 then D.get i else [], D.chk i) := fo (f31 D h i)
theorem F41 (D : Dk) (h : D.ok) : Fq eN Try.prog 41 #[D.p] [dk D] [dk { D with fuse := -1 }] () := fo (f41 D h)
def Dk.on (D : Dk) : Dk := { D with up := true }
theorem Dk.on_ok {D : Dk} (h : D.ok) : D.on.ok := by
  obtain ⟨g1, g2, g3, g4, g5, g6, g7, g8, g9, g10⟩ := h
  exact ⟨g1, g2, g3, g4, g5, g6, g7, g8, g9, g10⟩
theorem F30 (D : Dk) (h : D.ok) : Fq eI Try.prog 30 #[D.p] [dk D] [dk D.on] (if D.up then 19 else 0) := fo (f30 D h)
theorem F42 (D : Dk) (h : D.ok) (n k : Int) : Fq eI Try.prog 42 #[D.p, .int .i64 n, .int .u64 k] [dk D] [dk (D.arm n k).2] (D.arm n k).1 := fo (f42 D h n k)
theorem F29 (D : Dk) (h : D.ok) (keep : Int) : Fq eI Try.prog 29 #[D.p, .int .u64 keep] [dk D] [dk (if D.chk 0 = 0 then D.off keep else D)] (D.chk 0) := fo (f29 D h keep)
theorem F27 (D : Dk) (h : D.ok) (i : Int) (s : List UInt8) : Fq eI Try.prog 27 #[D.p, .int .i64 i, str s] [dk D] [dk (D.write i s).2] (D.write i s).1 := fo (f27 D h i s)
theorem F28 (D : Dk) (h : D.ok) : Fq eI Try.prog 28 #[D.p] [dk D] [dk D.sync.2] D.sync.1 := fo (f28 D h)
theorem F25 (n : Nat) (h0 : 0 < n) (h1 : n ≤ 8192) : Fn (eT2 eP eI) Try.prog 25 #[.int .i64 (n : Int)] [] fun y X => ∃ sb bb mb, y = (some ⟨sb, 0, none⟩, 0) ∧ X = [dk (Dk.new sb bb mb n)] := fun L w hw => by
  refine (f25 n h0 h1 L w hw).mono ?_
  rintro _ w' ⟨x, he, X, ⟨sb, bb, mb, rfl, rfl⟩, hX⟩
  exact ⟨_, he, _, ⟨sb, bb, mb, rfl, rfl⟩, Holds.close hX⟩
theorem F43 (D : Dk) (h : D.ok) : Fn eSl Try.prog 43 #[D.p] [dk D] fun y X => X = [ow 3 1 y (D.keys.map fun n => .int .i64 n), dk D] ∧ y.2.1 = D.keys.length := fun L w hw => by
  refine (f43 D h h.len L w (Holds.open (show Holds w (HS (dkl D) :: L) from hw))).mono ?_
  rintro _ w' ⟨x, he, X, ⟨rfl, hl⟩, hX⟩
  refine ⟨_, he, _, ⟨rfl, hl⟩, ?_⟩
  have h1 : Holds w' (dkl D ++ ([ow 3 1 x (D.keys.map fun n => .int .i64 n)] ++ L)) := hX.sub (SX.p)
  have h2 : Holds w' (dk D :: ow 3 1 x (D.keys.map fun n => .int .i64 n) :: L) := Holds.close h1
  exact h2.sub SX.p
/-! ### The law's words -/
theorem f32 (s : List UInt8) : Fp eS Try.prog 32 #[str s] [] (wh s) := fun L => by
  refine c32_fn rfl rfl ?_
  repeat' (first | ((with_reducible refine d_seq ?_); intro K hK) | ((with_reducible refine d_reg ?_); simp only [go_sem, Nat.reduceAdd, Nat.reduceEqDiff, Int.reduceToNat, Nat.reduceMul, Nat.reduceSub]) | ((first | ((with_reducible refine d_cnd ?_); refine And.intro ?_ ?_) | (with_reducible refine r_cnd ?_ ?_)); all_goals (intro hc; (try simp only [push_cast, Int.reduceEq, Int.reduceLT, Int.reduceLE, Int.reduceNe] at hc))) | ((with_reducible refine hK _ _ ?_); clear hK; clear K) | ((with_reducible first | refine d_blk ?_ | refine d_rt0 ?_ | refine d_sk0 ?_ | refine d_ex0 ?_); (try simp only [go_sem, Nat.reduceAdd, Nat.reduceEqDiff, Int.reduceToNat, Nat.reduceMul, Nat.reduceSub])) | (with_reducible refine r_rq (by first | decide | omega) ?_) | ((with_reducible refine r_nwc ?_); intro b) | ((with_reducible first | apply i_lds | apply i_ldsq | apply i_ld | apply i_ldq); exact rfl) | ((with_reducible first | apply i_ldn | apply i_ldnq); exact rfl; exact rfl; exact rfl) | (with_reducible first | refine r_ph0 ?_ | apply i_kp0) | ((with_reducible first | apply i_st | apply i_stl); (focus simp); exact rfl) | simp only [go_sem, Nat.reduceAdd, Nat.reduceEqDiff, Int.reduceToNat, Nat.reduceMul, Nat.reduceSub] | (clear hK; clear K))
  refine d_lp [0] (fun t : List UInt8 => [(0, str t)]) (fun _ => L) (fun t => wh t = wh s) (fun t => 64 - t.length) s rfl SX.p rfl ?_
  intro t ht
  repeat' (first | ((with_reducible refine d_seq ?_); intro K hK) | ((with_reducible refine d_reg ?_); simp only [go_sem, Nat.reduceAdd, Nat.reduceEqDiff, Int.reduceToNat, Nat.reduceMul, Nat.reduceSub]) | ((first | ((with_reducible refine d_cnd ?_); refine And.intro ?_ ?_) | (with_reducible refine r_cnd ?_ ?_)); all_goals (intro hc; (try simp only [push_cast, Int.reduceEq, Int.reduceLT, Int.reduceLE, Int.reduceNe] at hc))) | ((with_reducible refine hK _ _ ?_); clear hK; clear K) | ((with_reducible first | refine d_blk ?_ | refine d_rt0 ?_ | refine d_sk0 ?_ | refine d_ex0 ?_); (try simp only [go_sem, Nat.reduceAdd, Nat.reduceEqDiff, Int.reduceToNat, Nat.reduceMul, Nat.reduceSub])) | (with_reducible refine r_rq (by first | decide | omega) ?_) | ((with_reducible refine r_nwc ?_); intro b) | ((with_reducible first | apply i_lds | apply i_ldsq | apply i_ld | apply i_ldq); exact rfl) | ((with_reducible first | apply i_ldn | apply i_ldnq); exact rfl; exact rfl; exact rfl) | (with_reducible first | refine r_ph0 ?_ | apply i_kp0) | ((with_reducible first | apply i_st | apply i_stl); (focus simp); exact rfl) | simp only [go_sem, Nat.reduceAdd, Nat.reduceEqDiff, Int.reduceToNat, Nat.reduceMul, Nat.reduceSub] | (clear hK; clear K))
  · refine r_rq (by simp only [List.length_cons, List.length_nil]; omega) ?_
    refine i_bk (t ++ [0] : List UInt8) rfl ?_ (by simp; omega)
    rw [← ht]
    have e : 64 - t.length = (64 - (t.length + 1)) + 1 := by omega
    simp only [wh, List.length_append, List.length_cons, List.length_nil, e, List.append_assoc, List.replicate_succ]
    rfl
  · (with_reducible first | apply i_ret0 | apply i_ret2 | apply i_ret3 | apply i_ret); exact rfl
    rw [← ht]
    have e : 64 - t.length = 0 := by omega
    simp [wh, e]
theorem f65 (D : Dk) (h : D.ok) : Fp eS Try.prog 65 #[D.p] [dk D] (if D.chk 0 = 0 then D.get 0 else []) := fun L => by
  refine c65_fn rfl rfl ?_
  simp only [Dk.p]
  repeat' ((fail_if_success with_reducible refine (id : E _ (ph _) → E _ (ph _)) ?_); first | ((with_reducible refine d_seq ?_); intro K hK) | ((with_reducible refine d_reg ?_); simp only [go_sem, Nat.reduceAdd, Nat.reduceEqDiff, Int.reduceToNat, Nat.reduceMul, Nat.reduceSub]) | ((first | ((with_reducible refine d_cnd ?_); refine And.intro ?_ ?_) | (with_reducible refine r_cnd ?_ ?_)); all_goals (intro hc; (try simp only [push_cast, Int.reduceEq, Int.reduceLT, Int.reduceLE, Int.reduceNe] at hc))) | ((with_reducible refine hK _ _ ?_); clear hK; clear K) | ((with_reducible first | refine d_blk ?_ | refine d_rt0 ?_ | refine d_sk0 ?_ | refine d_ex0 ?_); (try simp only [go_sem, Nat.reduceAdd, Nat.reduceEqDiff, Int.reduceToNat, Nat.reduceMul, Nat.reduceSub])) | (with_reducible refine r_rq (by first | decide | omega) ?_) | ((with_reducible refine r_nwc ?_); intro b) | ((with_reducible first | apply i_lds | apply i_ldsq | apply i_ld | apply i_ldq); exact rfl) | ((with_reducible first | apply i_ldn | apply i_ldnq); exact rfl; exact rfl; exact rfl) | (with_reducible first | refine r_ph0 ?_ | apply i_kp0) | ((with_reducible first | apply i_st | apply i_stl); (focus simp); exact rfl) | simp only [go_sem, Nat.reduceAdd, Nat.reduceEqDiff, Int.reduceToNat, Nat.reduceMul, Nat.reduceSub] | (clear hK; clear K))
  refine i_clp (F31 D h 0) ?_
  repeat' (first | ((with_reducible refine d_seq ?_); intro K hK) | ((with_reducible refine d_reg ?_); simp only [go_sem, Nat.reduceAdd, Nat.reduceEqDiff, Int.reduceToNat, Nat.reduceMul, Nat.reduceSub]) | ((first | ((with_reducible refine d_cnd ?_); refine And.intro ?_ ?_) | (with_reducible refine r_cnd ?_ ?_)); all_goals (intro hc; (try simp only [push_cast, Int.reduceEq, Int.reduceLT, Int.reduceLE, Int.reduceNe] at hc))) | ((with_reducible refine hK _ _ ?_); clear hK; clear K) | ((with_reducible first | refine d_blk ?_ | refine d_rt0 ?_ | refine d_sk0 ?_ | refine d_ex0 ?_); (try simp only [go_sem, Nat.reduceAdd, Nat.reduceEqDiff, Int.reduceToNat, Nat.reduceMul, Nat.reduceSub])) | (with_reducible refine r_rq (by first | decide | omega) ?_) | ((with_reducible refine r_nwc ?_); intro b) | ((with_reducible first | apply i_lds | apply i_ldsq | apply i_ld | apply i_ldq); exact rfl) | ((with_reducible first | apply i_ldn | apply i_ldnq); exact rfl; exact rfl; exact rfl) | (with_reducible first | refine r_ph0 ?_ | apply i_kp0) | ((with_reducible first | apply i_st | apply i_stl); (focus simp); exact rfl) | simp only [go_sem, Nat.reduceAdd, Nat.reduceEqDiff, Int.reduceToNat, Nat.reduceMul, Nat.reduceSub] | (clear hK; clear K))
  (with_reducible first | apply i_ret0 | apply i_ret2 | apply i_ret3 | apply i_ret); exact rfl
  rfl
theorem wh_wh {s : List UInt8} (h : s.length ≤ 64) : wh (wh s) = wh s := wh_full (wh_len h)
/-! ### The example's disks -/
def ex1 (sb bb mb : Nat) : Dk := ⟨sb, bb, mb, [[], []], [(0, wh [97], 0)], 1, true, -1, 0, 1, 0⟩
def ex2 (sb bb mb : Nat) : Dk := ⟨sb, bb, mb, [[], []], [], 1, true, -1, 0, 1, 1⟩
def ex3 (sb bb mb : Nat) : Dk := ⟨sb, bb, mb, [[], []], [(0, wh [97], 1)], 2, true, -1, 0, 2, 1⟩
def ex4 (sb bb mb : Nat) : Dk := ⟨sb, bb, mb, [wh [97], []], [], 2, true, -1, 0, 2, 2⟩
theorem ex_w1 (sb bb mb : Nat) : (Dk.new sb bb mb 2).write 0 [97] = (0, ex1 sb bb mb) := by
  simp [Dk.write, Dk.chk, Dk.act, Dk.put, Dk.new, pk, ck, gk, ex1, w64]
theorem ex_k1 (sb bb mb : Nat) : (ex1 sb bb mb).keys = [0] := by simp [Dk.keys, ex1]
theorem ex_k3 (sb bb mb : Nat) : (ex3 sb bb mb).keys = [0] := by simp [Dk.keys, ex3]
theorem ex_c1 (sb bb mb : Nat) : ((ex1 sb bb mb).off 0).on = ex2 sb bb mb := by
  have hb : kb 0 0 = false := by decide
  simp [Dk.on, Dk.off, ex_k1, Dk.cutn, hb]
  simp [ex1, ex2, w64]
theorem ex_w3 (sb bb mb : Nat) : (ex2 sb bb mb).write 0 [97] = (0, ex3 sb bb mb) := by
  simp [Dk.write, Dk.chk, Dk.act, Dk.put, pk, ck, gk, ex2, ex3, w64]
theorem ex_c3 (sb bb mb : Nat) : ((ex3 sb bb mb).off 1).on = ex4 sb bb mb := by
  have hb : kb 1 0 = true := by decide
  simp [Dk.on, Dk.off, ex_k3, Dk.cutn, hb]
  simp [ex3, ex4, w64, gk]
theorem f24 : Fp eB Try.prog 24 #[] [] true := fun L => by
  refine c24_fn rfl rfl ?_
  repeat' ((fail_if_success with_reducible refine (id : E _ (ph _) → E _ (ph _)) ?_); first | ((with_reducible refine d_seq ?_); intro K hK) | ((with_reducible refine d_reg ?_); simp only [go_sem, Nat.reduceAdd, Nat.reduceEqDiff, Int.reduceToNat, Nat.reduceMul, Nat.reduceSub]) | ((first | ((with_reducible refine d_cnd ?_); refine And.intro ?_ ?_) | (with_reducible refine r_cnd ?_ ?_)); all_goals (intro hc; (try simp only [push_cast, Int.reduceEq, Int.reduceLT, Int.reduceLE, Int.reduceNe] at hc))) | ((with_reducible refine hK _ _ ?_); clear hK; clear K) | ((with_reducible first | refine d_blk ?_ | refine d_rt0 ?_ | refine d_sk0 ?_ | refine d_ex0 ?_); (try simp only [go_sem, Nat.reduceAdd, Nat.reduceEqDiff, Int.reduceToNat, Nat.reduceMul, Nat.reduceSub])) | (with_reducible refine r_rq (by first | decide | omega) ?_) | ((with_reducible refine r_nwc ?_); intro b) | ((with_reducible first | apply i_lds | apply i_ldsq | apply i_ld | apply i_ldq); exact rfl) | ((with_reducible first | apply i_ldn | apply i_ldnq); exact rfl; exact rfl; exact rfl) | (with_reducible first | refine r_ph0 ?_ | apply i_kp0) | ((with_reducible first | apply i_st | apply i_stl); (focus simp); exact rfl) | simp only [go_sem, Nat.reduceAdd, Nat.reduceEqDiff, Int.reduceToNat, Nat.reduceMul, Nat.reduceSub] | (clear hK; clear K))
  refine i_cal (F25 2 (by decide) (by decide)) ?_
  rintro y X ⟨sb, bb, mb, rfl, rfl⟩
  have h0 : (Dk.new sb bb mb 2).ok := Dk.new_ok (by decide) (by decide)
  have h1 : (ex1 sb bb mb).ok := by have := Dk.write_ok h0 0 [97]; rwa [ex_w1] at this
  have h2 : (ex2 sb bb mb).ok := by rw [← ex_c1]; exact Dk.on_ok (Dk.off_ok h1 0)
  have h3 : (ex3 sb bb mb).ok := by have := Dk.write_ok h2 0 [97]; rwa [ex_w3] at this
  have h4 : (ex4 sb bb mb).ok := by rw [← ex_c3]; exact Dk.on_ok (Dk.off_ok h3 1)
  have e1 : (ex1 sb bb mb).chk 0 = 0 := rfl
  have e3 : (ex3 sb bb mb).chk 0 = 0 := rfl
  have F1 := F27 _ h0 0 [97]
  rw [ex_w1] at F1
  have F2 := F29 _ h1 0
  rw [e1, if_pos rfl] at F2
  have F3 := F30 _ (Dk.off_ok h1 0)
  rw [ex_c1, show ((ex1 sb bb mb).off 0).up = false from rfl, if_neg Bool.false_ne_true] at F3
  have F4 := F31 _ h2 0
  rw [show (ex2 sb bb mb).chk 0 = 0 from rfl, if_pos rfl, show (ex2 sb bb mb).get 0 = wh [] from rfl] at F4
  have F5 := F27 _ h2 0 [97]
  rw [ex_w3] at F5
  have F6 := F29 _ h3 1
  rw [e3, if_pos rfl] at F6
  have F7 := F30 _ (Dk.off_ok h3 1)
  rw [ex_c3, show ((ex3 sb bb mb).off 1).up = false from rfl, if_neg Bool.false_ne_true] at F7
  have F8 := f65 _ h4
  rw [show (ex4 sb bb mb).chk 0 = 0 from rfl, if_pos rfl, show (ex4 sb bb mb).get 0 = wh (wh [97]) from rfl, wh_wh (by decide)] at F8
  repeat' (first | ((with_reducible refine d_seq ?_); intro K hK) | ((with_reducible refine d_reg ?_); simp only [go_sem, Nat.reduceAdd, Nat.reduceEqDiff, Int.reduceToNat, Nat.reduceMul, Nat.reduceSub]) | ((first | ((with_reducible refine d_cnd ?_); refine And.intro ?_ ?_) | (with_reducible refine r_cnd ?_ ?_)); all_goals (intro hc; (try simp only [push_cast, Int.reduceEq, Int.reduceLT, Int.reduceLE, Int.reduceNe] at hc))) | ((with_reducible refine hK _ _ ?_); clear hK; clear K) | ((with_reducible first | refine d_blk ?_ | refine d_rt0 ?_ | refine d_sk0 ?_ | refine d_ex0 ?_); (try simp only [go_sem, Nat.reduceAdd, Nat.reduceEqDiff, Int.reduceToNat, Nat.reduceMul, Nat.reduceSub])) | (with_reducible refine r_rq (by first | decide | omega) ?_) | ((with_reducible refine r_nwc ?_); intro b) | ((with_reducible first | apply i_lds | apply i_ldsq | apply i_ld | apply i_ldq); exact rfl) | ((with_reducible first | apply i_ldn | apply i_ldnq); exact rfl; exact rfl; exact rfl) | (with_reducible first | refine r_ph0 ?_ | apply i_kp0) | ((with_reducible first | apply i_st | apply i_stl); (focus simp); exact rfl) | simp only [go_sem, Nat.reduceAdd, Nat.reduceEqDiff, Int.reduceToNat, Nat.reduceMul, Nat.reduceSub] | (clear hK; clear K))
  refine i_clq F1 ?_
  repeat' (first | ((with_reducible refine d_seq ?_); intro K hK) | ((with_reducible refine d_reg ?_); simp only [go_sem, Nat.reduceAdd, Nat.reduceEqDiff, Int.reduceToNat, Nat.reduceMul, Nat.reduceSub]) | ((first | ((with_reducible refine d_cnd ?_); refine And.intro ?_ ?_) | (with_reducible refine r_cnd ?_ ?_)); all_goals (intro hc; (try simp only [push_cast, Int.reduceEq, Int.reduceLT, Int.reduceLE, Int.reduceNe] at hc))) | ((with_reducible refine hK _ _ ?_); clear hK; clear K) | ((with_reducible first | refine d_blk ?_ | refine d_rt0 ?_ | refine d_sk0 ?_ | refine d_ex0 ?_); (try simp only [go_sem, Nat.reduceAdd, Nat.reduceEqDiff, Int.reduceToNat, Nat.reduceMul, Nat.reduceSub])) | (with_reducible refine r_rq (by first | decide | omega) ?_) | ((with_reducible refine r_nwc ?_); intro b) | ((with_reducible first | apply i_lds | apply i_ldsq | apply i_ld | apply i_ldq); exact rfl) | ((with_reducible first | apply i_ldn | apply i_ldnq); exact rfl; exact rfl; exact rfl) | (with_reducible first | refine r_ph0 ?_ | apply i_kp0) | ((with_reducible first | apply i_st | apply i_stl); (focus simp); exact rfl) | simp only [go_sem, Nat.reduceAdd, Nat.reduceEqDiff, Int.reduceToNat, Nat.reduceMul, Nat.reduceSub] | (clear hK; clear K))
  refine i_clq F2 ?_
  repeat' (first | ((with_reducible refine d_seq ?_); intro K hK) | ((with_reducible refine d_reg ?_); simp only [go_sem, Nat.reduceAdd, Nat.reduceEqDiff, Int.reduceToNat, Nat.reduceMul, Nat.reduceSub]) | ((first | ((with_reducible refine d_cnd ?_); refine And.intro ?_ ?_) | (with_reducible refine r_cnd ?_ ?_)); all_goals (intro hc; (try simp only [push_cast, Int.reduceEq, Int.reduceLT, Int.reduceLE, Int.reduceNe] at hc))) | ((with_reducible refine hK _ _ ?_); clear hK; clear K) | ((with_reducible first | refine d_blk ?_ | refine d_rt0 ?_ | refine d_sk0 ?_ | refine d_ex0 ?_); (try simp only [go_sem, Nat.reduceAdd, Nat.reduceEqDiff, Int.reduceToNat, Nat.reduceMul, Nat.reduceSub])) | (with_reducible refine r_rq (by first | decide | omega) ?_) | ((with_reducible refine r_nwc ?_); intro b) | ((with_reducible first | apply i_lds | apply i_ldsq | apply i_ld | apply i_ldq); exact rfl) | ((with_reducible first | apply i_ldn | apply i_ldnq); exact rfl; exact rfl; exact rfl) | (with_reducible first | refine r_ph0 ?_ | apply i_kp0) | ((with_reducible first | apply i_st | apply i_stl); (focus simp); exact rfl) | simp only [go_sem, Nat.reduceAdd, Nat.reduceEqDiff, Int.reduceToNat, Nat.reduceMul, Nat.reduceSub] | (clear hK; clear K))
  refine i_clq F3 ?_
  repeat' (first | ((with_reducible refine d_seq ?_); intro K hK) | ((with_reducible refine d_reg ?_); simp only [go_sem, Nat.reduceAdd, Nat.reduceEqDiff, Int.reduceToNat, Nat.reduceMul, Nat.reduceSub]) | ((first | ((with_reducible refine d_cnd ?_); refine And.intro ?_ ?_) | (with_reducible refine r_cnd ?_ ?_)); all_goals (intro hc; (try simp only [push_cast, Int.reduceEq, Int.reduceLT, Int.reduceLE, Int.reduceNe] at hc))) | ((with_reducible refine hK _ _ ?_); clear hK; clear K) | ((with_reducible first | refine d_blk ?_ | refine d_rt0 ?_ | refine d_sk0 ?_ | refine d_ex0 ?_); (try simp only [go_sem, Nat.reduceAdd, Nat.reduceEqDiff, Int.reduceToNat, Nat.reduceMul, Nat.reduceSub])) | (with_reducible refine r_rq (by first | decide | omega) ?_) | ((with_reducible refine r_nwc ?_); intro b) | ((with_reducible first | apply i_lds | apply i_ldsq | apply i_ld | apply i_ldq); exact rfl) | ((with_reducible first | apply i_ldn | apply i_ldnq); exact rfl; exact rfl; exact rfl) | (with_reducible first | refine r_ph0 ?_ | apply i_kp0) | ((with_reducible first | apply i_st | apply i_stl); (focus simp); exact rfl) | simp only [go_sem, Nat.reduceAdd, Nat.reduceEqDiff, Int.reduceToNat, Nat.reduceMul, Nat.reduceSub] | (clear hK; clear K))
  refine i_clp F4 ?_
  repeat' (first | ((with_reducible refine d_seq ?_); intro K hK) | ((with_reducible refine d_reg ?_); simp only [go_sem, Nat.reduceAdd, Nat.reduceEqDiff, Int.reduceToNat, Nat.reduceMul, Nat.reduceSub]) | ((first | ((with_reducible refine d_cnd ?_); refine And.intro ?_ ?_) | (with_reducible refine r_cnd ?_ ?_)); all_goals (intro hc; (try simp only [push_cast, Int.reduceEq, Int.reduceLT, Int.reduceLE, Int.reduceNe] at hc))) | ((with_reducible refine hK _ _ ?_); clear hK; clear K) | ((with_reducible first | refine d_blk ?_ | refine d_rt0 ?_ | refine d_sk0 ?_ | refine d_ex0 ?_); (try simp only [go_sem, Nat.reduceAdd, Nat.reduceEqDiff, Int.reduceToNat, Nat.reduceMul, Nat.reduceSub])) | (with_reducible refine r_rq (by first | decide | omega) ?_) | ((with_reducible refine r_nwc ?_); intro b) | ((with_reducible first | apply i_lds | apply i_ldsq | apply i_ld | apply i_ldq); exact rfl) | ((with_reducible first | apply i_ldn | apply i_ldnq); exact rfl; exact rfl; exact rfl) | (with_reducible first | refine r_ph0 ?_ | apply i_kp0) | ((with_reducible first | apply i_st | apply i_stl); (focus simp); exact rfl) | simp only [go_sem, Nat.reduceAdd, Nat.reduceEqDiff, Int.reduceToNat, Nat.reduceMul, Nat.reduceSub] | (clear hK; clear K))
  refine i_clp (f32 []) ?_
  repeat' (first | ((with_reducible refine d_seq ?_); intro K hK) | ((with_reducible refine d_reg ?_); simp only [go_sem, Nat.reduceAdd, Nat.reduceEqDiff, Int.reduceToNat, Nat.reduceMul, Nat.reduceSub]) | ((first | ((with_reducible refine d_cnd ?_); refine And.intro ?_ ?_) | (with_reducible refine r_cnd ?_ ?_)); all_goals (intro hc; (try simp only [push_cast, Int.reduceEq, Int.reduceLT, Int.reduceLE, Int.reduceNe] at hc))) | ((with_reducible refine hK _ _ ?_); clear hK; clear K) | ((with_reducible first | refine d_blk ?_ | refine d_rt0 ?_ | refine d_sk0 ?_ | refine d_ex0 ?_); (try simp only [go_sem, Nat.reduceAdd, Nat.reduceEqDiff, Int.reduceToNat, Nat.reduceMul, Nat.reduceSub])) | (with_reducible refine r_rq (by first | decide | omega) ?_) | ((with_reducible refine r_nwc ?_); intro b) | ((with_reducible first | apply i_lds | apply i_ldsq | apply i_ld | apply i_ldq); exact rfl) | ((with_reducible first | apply i_ldn | apply i_ldnq); exact rfl; exact rfl; exact rfl) | (with_reducible first | refine r_ph0 ?_ | apply i_kp0) | ((with_reducible first | apply i_st | apply i_stl); (focus simp); exact rfl) | simp only [go_sem, Nat.reduceAdd, Nat.reduceEqDiff, Int.reduceToNat, Nat.reduceMul, Nat.reduceSub] | (clear hK; clear K))
  refine i_clq F5 ?_
  repeat' (first | ((with_reducible refine d_seq ?_); intro K hK) | ((with_reducible refine d_reg ?_); simp only [go_sem, Nat.reduceAdd, Nat.reduceEqDiff, Int.reduceToNat, Nat.reduceMul, Nat.reduceSub]) | ((first | ((with_reducible refine d_cnd ?_); refine And.intro ?_ ?_) | (with_reducible refine r_cnd ?_ ?_)); all_goals (intro hc; (try simp only [push_cast, Int.reduceEq, Int.reduceLT, Int.reduceLE, Int.reduceNe] at hc))) | ((with_reducible refine hK _ _ ?_); clear hK; clear K) | ((with_reducible first | refine d_blk ?_ | refine d_rt0 ?_ | refine d_sk0 ?_ | refine d_ex0 ?_); (try simp only [go_sem, Nat.reduceAdd, Nat.reduceEqDiff, Int.reduceToNat, Nat.reduceMul, Nat.reduceSub])) | (with_reducible refine r_rq (by first | decide | omega) ?_) | ((with_reducible refine r_nwc ?_); intro b) | ((with_reducible first | apply i_lds | apply i_ldsq | apply i_ld | apply i_ldq); exact rfl) | ((with_reducible first | apply i_ldn | apply i_ldnq); exact rfl; exact rfl; exact rfl) | (with_reducible first | refine r_ph0 ?_ | apply i_kp0) | ((with_reducible first | apply i_st | apply i_stl); (focus simp); exact rfl) | simp only [go_sem, Nat.reduceAdd, Nat.reduceEqDiff, Int.reduceToNat, Nat.reduceMul, Nat.reduceSub] | (clear hK; clear K))
  refine i_clq F6 ?_
  repeat' (first | ((with_reducible refine d_seq ?_); intro K hK) | ((with_reducible refine d_reg ?_); simp only [go_sem, Nat.reduceAdd, Nat.reduceEqDiff, Int.reduceToNat, Nat.reduceMul, Nat.reduceSub]) | ((first | ((with_reducible refine d_cnd ?_); refine And.intro ?_ ?_) | (with_reducible refine r_cnd ?_ ?_)); all_goals (intro hc; (try simp only [push_cast, Int.reduceEq, Int.reduceLT, Int.reduceLE, Int.reduceNe] at hc))) | ((with_reducible refine hK _ _ ?_); clear hK; clear K) | ((with_reducible first | refine d_blk ?_ | refine d_rt0 ?_ | refine d_sk0 ?_ | refine d_ex0 ?_); (try simp only [go_sem, Nat.reduceAdd, Nat.reduceEqDiff, Int.reduceToNat, Nat.reduceMul, Nat.reduceSub])) | (with_reducible refine r_rq (by first | decide | omega) ?_) | ((with_reducible refine r_nwc ?_); intro b) | ((with_reducible first | apply i_lds | apply i_ldsq | apply i_ld | apply i_ldq); exact rfl) | ((with_reducible first | apply i_ldn | apply i_ldnq); exact rfl; exact rfl; exact rfl) | (with_reducible first | refine r_ph0 ?_ | apply i_kp0) | ((with_reducible first | apply i_st | apply i_stl); (focus simp); exact rfl) | simp only [go_sem, Nat.reduceAdd, Nat.reduceEqDiff, Int.reduceToNat, Nat.reduceMul, Nat.reduceSub] | (clear hK; clear K))
  refine i_clq F7 ?_
  repeat' (first | ((with_reducible refine d_seq ?_); intro K hK) | ((with_reducible refine d_reg ?_); simp only [go_sem, Nat.reduceAdd, Nat.reduceEqDiff, Int.reduceToNat, Nat.reduceMul, Nat.reduceSub]) | ((first | ((with_reducible refine d_cnd ?_); refine And.intro ?_ ?_) | (with_reducible refine r_cnd ?_ ?_)); all_goals (intro hc; (try simp only [push_cast, Int.reduceEq, Int.reduceLT, Int.reduceLE, Int.reduceNe] at hc))) | ((with_reducible refine hK _ _ ?_); clear hK; clear K) | ((with_reducible first | refine d_blk ?_ | refine d_rt0 ?_ | refine d_sk0 ?_ | refine d_ex0 ?_); (try simp only [go_sem, Nat.reduceAdd, Nat.reduceEqDiff, Int.reduceToNat, Nat.reduceMul, Nat.reduceSub])) | (with_reducible refine r_rq (by first | decide | omega) ?_) | ((with_reducible refine r_nwc ?_); intro b) | ((with_reducible first | apply i_lds | apply i_ldsq | apply i_ld | apply i_ldq); exact rfl) | ((with_reducible first | apply i_ldn | apply i_ldnq); exact rfl; exact rfl; exact rfl) | (with_reducible first | refine r_ph0 ?_ | apply i_kp0) | ((with_reducible first | apply i_st | apply i_stl); (focus simp); exact rfl) | simp only [go_sem, Nat.reduceAdd, Nat.reduceEqDiff, Int.reduceToNat, Nat.reduceMul, Nat.reduceSub] | (clear hK; clear K))
  refine i_clp F8 ?_
  repeat' (first | ((with_reducible refine d_seq ?_); intro K hK) | ((with_reducible refine d_reg ?_); simp only [go_sem, Nat.reduceAdd, Nat.reduceEqDiff, Int.reduceToNat, Nat.reduceMul, Nat.reduceSub]) | ((first | ((with_reducible refine d_cnd ?_); refine And.intro ?_ ?_) | (with_reducible refine r_cnd ?_ ?_)); all_goals (intro hc; (try simp only [push_cast, Int.reduceEq, Int.reduceLT, Int.reduceLE, Int.reduceNe] at hc))) | ((with_reducible refine hK _ _ ?_); clear hK; clear K) | ((with_reducible first | refine d_blk ?_ | refine d_rt0 ?_ | refine d_sk0 ?_ | refine d_ex0 ?_); (try simp only [go_sem, Nat.reduceAdd, Nat.reduceEqDiff, Int.reduceToNat, Nat.reduceMul, Nat.reduceSub])) | (with_reducible refine r_rq (by first | decide | omega) ?_) | ((with_reducible refine r_nwc ?_); intro b) | ((with_reducible first | apply i_lds | apply i_ldsq | apply i_ld | apply i_ldq); exact rfl) | ((with_reducible first | apply i_ldn | apply i_ldnq); exact rfl; exact rfl; exact rfl) | (with_reducible first | refine r_ph0 ?_ | apply i_kp0) | ((with_reducible first | apply i_st | apply i_stl); (focus simp); exact rfl) | simp only [go_sem, Nat.reduceAdd, Nat.reduceEqDiff, Int.reduceToNat, Nat.reduceMul, Nat.reduceSub] | (clear hK; clear K))
  refine i_clp (f32 [97]) ?_
  repeat' (first | ((with_reducible refine d_seq ?_); intro K hK) | ((with_reducible refine d_reg ?_); simp only [go_sem, Nat.reduceAdd, Nat.reduceEqDiff, Int.reduceToNat, Nat.reduceMul, Nat.reduceSub]) | ((first | ((with_reducible refine d_cnd ?_); refine And.intro ?_ ?_) | (with_reducible refine r_cnd ?_ ?_)); all_goals (intro hc; (try simp only [push_cast, Int.reduceEq, Int.reduceLT, Int.reduceLE, Int.reduceNe] at hc))) | ((with_reducible refine hK _ _ ?_); clear hK; clear K) | ((with_reducible first | refine d_blk ?_ | refine d_rt0 ?_ | refine d_sk0 ?_ | refine d_ex0 ?_); (try simp only [go_sem, Nat.reduceAdd, Nat.reduceEqDiff, Int.reduceToNat, Nat.reduceMul, Nat.reduceSub])) | (with_reducible refine r_rq (by first | decide | omega) ?_) | ((with_reducible refine r_nwc ?_); intro b) | ((with_reducible first | apply i_lds | apply i_ldsq | apply i_ld | apply i_ldq); exact rfl) | ((with_reducible first | apply i_ldn | apply i_ldnq); exact rfl; exact rfl; exact rfl) | (with_reducible first | refine r_ph0 ?_ | apply i_kp0) | ((with_reducible first | apply i_st | apply i_stl); (focus simp); exact rfl) | simp only [go_sem, Nat.reduceAdd, Nat.reduceEqDiff, Int.reduceToNat, Nat.reduceMul, Nat.reduceSub] | (clear hK; clear K))
  (with_reducible first | apply i_ret0 | apply i_ret2 | apply i_ret3 | apply i_ret); exact rfl
  simp
theorem Dk.write_go {D : Dk} {i : Int} {s : List UInt8} (h0 : D.chk i = 0) (hs : s.length ≤ 64) (hf : D.fuse < 0) : D.write i s = (0, Dk.put { D with acts := IntKind.wrap .i64 (D.acts + 1) } i (wh s)) := by
  have e : D.act = (0, { D with acts := IntKind.wrap .i64 (D.acts + 1) }) := by
    unfold Dk.act
    rw [if_neg (by omega), if_neg (by omega)]
  unfold Dk.write
  rw [if_pos h0, if_neg (by omega), e, if_pos rfl]
end Go.Sp
/- The disk: what is read behind writes, syncs and losses. -/
namespace Go.Sp
open Go Go.Proofs
set_option linter.unusedSimpArgs false
set_option linter.unusedVariables false
theorem gk_pk (es : Ents eI eS) (i j : Int) (v : List UInt8) (c : Nat) : gk (pk es i v c) j = if i = j then some v else gk es j := by
  induction es with
  | nil => simp [pk, gk]
  | cons x r ih =>
    by_cases h : x.1 = i
    · simp only [pk, h, if_true, gk]
      by_cases hj : i = j
      · simp [hj]
      · simp [hj]
    · simp only [pk, h, if_false, gk, ih]
      by_cases hx : x.1 = j
      · have : ¬ i = j := fun e => h (hx.trans e.symm)
        simp [hx, this]
      · simp [hx]
theorem Dk.get_put (D : Dk) (i j : Int) (s : List UInt8) : (D.put i s).get j = if i = j then s else D.get j := by
  simp only [Dk.get, Dk.put, gk_pk]
  by_cases h : i = j <;> simp [h]
theorem Dk.sync_go {D : Dk} (h0 : D.chk 0 = 0) (hf : D.fuse < 0) : D.sync = (0, Dk.flush { D with acts := IntKind.wrap .i64 (D.acts + 1) }) := by
  have e : D.act = (0, { D with acts := IntKind.wrap .i64 (D.acts + 1) }) := by
    unfold Dk.act
    rw [if_neg (by omega), if_neg (by omega)]
  unfold Dk.sync
  rw [if_pos h0, e, if_pos rfl]
theorem Dk.flush_get {D : Dk} (h : D.ok) {j : Nat} (hj : j < D.sure.length) : D.flush.get (j : Int) = D.get (j : Int) := by
  have e : (sy D.es D.sure).getD j [] = (gk D.es (j : Int)).getD (D.sure.getD j []) := by
    rw [List.getD_eq_getElem?_getD, sy_get D.es D.sure h.kn h.ei j hj]
    rfl
  simp only [Dk.get, Dk.flush, gk, Option.getD_none, Int.toNat_natCast]
  rw [e]
  cases hg : gk D.es (j : Int) with
  | none => rfl
  | some v =>
    obtain ⟨x, hx, _, rfl⟩ := gk_mem hg
    exact wh_full (h.e64 x hx)
/-- Behind a loss each sector is as it was synced, or as it was written last. -/
theorem Dk.cut_or {D : Dk} (h : D.ok) (keep : Int) : ∀ (n : Nat) (_ : n ≤ D.keys.length) (j : Nat), (D.cutn keep n).getD j [] = D.sure.getD j [] ∨ gk D.es (j : Int) = some ((D.cutn keep n).getD j [])
  | 0, _, _ => .inl rfl
  | n + 1, hn, j => by
    have ih := Dk.cut_or h keep n (by omega) j
    unfold Dk.cutn
    split
    · have hk := Dk.keys_in h (n := n) (by omega)
      have hm : D.keys.getD n 0 ∈ D.es.map (·.1) := by
        rw [List.getD_eq_getElem?_getD, List.getElem?_eq_getElem (by omega)]
        exact (List.mergeSort_perm _ _).mem_iff.1 (List.getElem_mem _)
      generalize D.keys.getD n 0 = k at *
      by_cases hkj : k.toNat = j
      · right
        have hkj' : k = (j : Int) := by omega
        have hlt : j < (D.cutn keep n).length := by rw [Dk.cutn_len]; omega
        cases hg : gk D.es k with
        | none =>
          obtain ⟨x, hx, e⟩ := List.mem_map.1 hm
          exact absurd e (gk_none hg x hx)
        | some v =>
          subst hkj
          rw [← hkj', hg]
          simp [hlt]
      · have e : ((D.cutn keep n).set k.toNat ((gk D.es k).getD [])).getD j [] = (D.cutn keep n).getD j [] := by
          simp [List.getD_eq_getElem?_getD, List.getElem?_set, hkj]
        rw [e]
        exact ih
    · exact ih
end Go.Sp
/- The disk: many writes, a sync, many writes, a loss of power. -/
namespace Go.Sp
open Go Go.Proofs
set_option linter.unusedSimpArgs false
set_option linter.unusedVariables false
/-- The first texts of a list are written, each that has room. -/
def Dk.wr (D : Dk) (l : List (List UInt8)) : Nat → Dk
  | 0 => D
  | i + 1 => if (l.getD i []).length ≤ 64 then ((D.wr l i).write (i : Int) (l.getD i [])).2 else D.wr l i
/-- A disk that nothing lets go. -/
structure Dk.calm (D : Dk) (sb : Nat) (n : Nat) : Prop where
  ok : D.ok
  sb : D.sb = sb
  up : D.up = true
  fu : D.fuse < 0
  n : D.sure.length = n
theorem Dk.calm.chk {D : Dk} {sb n : Nat} (h : D.calm sb n) {i : Nat} (hi : i < n) : D.chk (i : Int) = 0 := by
  unfold Dk.chk
  rw [h.up, h.n, if_neg (by simp), if_neg (by omega)]
theorem Dk.calm.write {D : Dk} {sb n : Nat} (h : D.calm sb n) {i : Nat} (hi : i < n) {s : List UInt8} (hs : s.length ≤ 64) :
    (D.write (i : Int) s).1 = 0 ∧ (D.write (i : Int) s).2.calm sb n ∧ (D.write (i : Int) s).2.sure = D.sure ∧ (D.write (i : Int) s).2.downs = D.downs ∧ ∀ j : Int, gk (D.write (i : Int) s).2.es j = if (i : Int) = j then some (wh s) else gk D.es j := by
  have hok := Dk.write_ok h.ok (i : Int) s
  rw [Dk.write_go (h.chk hi) hs h.fu] at hok ⊢
  exact ⟨rfl, ⟨hok, h.sb, h.up, h.fu, h.n⟩, rfl, rfl, fun j => gk_pk _ _ _ _ _⟩
theorem Dk.calm.wr {D : Dk} {sb n : Nat} (h : D.calm sb n) (l : List (List UInt8)) : ∀ i, i ≤ n → (D.wr l i).calm sb n ∧ (D.wr l i).sure = D.sure ∧ ∀ j : Nat, gk (D.wr l i).es (j : Int) = if j < i ∧ (l.getD j []).length ≤ 64 then some (wh (l.getD j [])) else gk D.es (j : Int)
  | 0, _ => ⟨h, rfl, fun j => by simp [Dk.wr]⟩
  | i + 1, hi => by
    obtain ⟨h1, h2, h3⟩ := Dk.calm.wr h l i (by omega)
    unfold Dk.wr
    split
    · rename_i hs
      obtain ⟨_, w2, w3, _, w5⟩ := h1.write (by omega : i < n) hs
      refine ⟨w2, w3.trans h2, fun j => ?_⟩
      rw [w5, h3]
      by_cases hj : i = j
      · subst hj
        rw [if_pos rfl, if_pos ⟨by omega, hs⟩]
      · rw [if_neg (by omega)]
        by_cases hc : j < i ∧ (l.getD j []).length ≤ 64
        · rw [if_pos hc, if_pos ⟨by omega, hc.2⟩]
        · rw [if_neg hc, if_neg (fun hc' => hc ⟨by omega, hc'.2⟩)]
    · rename_i hs
      refine ⟨h1, h2, fun j => ?_⟩
      rw [h3]
      by_cases hj : i = j
      · subst hj
        rw [if_neg (by omega), if_neg (fun hc => hs hc.2)]
      · by_cases hc : j < i ∧ (l.getD j []).length ≤ 64
        · rw [if_pos hc, if_pos ⟨by omega, hc.2⟩]
        · rw [if_neg hc, if_neg (fun hc' => hc ⟨by omega, hc'.2⟩)]
theorem Dk.calm.sync {D : Dk} {sb n : Nat} (h : D.calm sb n) (hn : 0 < n) : D.sync.1 = 0 ∧ D.sync.2.calm sb n ∧ D.sync.2.es = [] ∧ D.sync.2.downs = D.downs ∧ ∀ j : Nat, j < n → D.sync.2.get (j : Int) = D.get (j : Int) := by
  have hok := Dk.sync_ok h.ok
  have hc := h.chk hn
  rw [Dk.sync_go hc h.fu] at hok ⊢
  have hA : ({ D with acts := IntKind.wrap .i64 (D.acts + 1) } : Dk).ok := by
    obtain ⟨g1, g2, g3, g4, g5, g6, g7, g8, g9, g10⟩ := h.ok
    exact ⟨g1, g2, g3, g4, g5, g6, g7, g8, g9, g10⟩
  refine ⟨rfl, ⟨hok, h.sb, h.up, h.fu, ?_⟩, rfl, rfl, fun j hj => ?_⟩
  · show (sy D.es D.sure).length = n
    rw [sy_len]; exact h.n
  · exact Dk.flush_get hA (by rw [← h.n] at hj; exact hj)
theorem Dk.calm.new {sb bb mb n : Nat} (h0 : 0 < n) (h1 : n ≤ 8192) : (Dk.new sb bb mb n).calm sb n := ⟨Dk.new_ok h0 h1, rfl, rfl, (by decide : (-1 : Int) < 0), by simp [Dk.new]⟩
theorem Dk.calm.off {D : Dk} {sb n : Nat} (h : D.calm sb n) (keep : Int) : (D.off keep).on.calm sb n ∧ (D.off keep).up = false ∧ (D.off keep).ok ∧ (D.off keep).sb = sb ∧
    ∀ j : Nat, (D.off keep).on.get (j : Int) = wh (D.sure.getD j []) ∨ ∃ v, gk D.es (j : Int) = some v ∧ v.length = 64 ∧ (D.off keep).on.get (j : Int) = v := by
  have hok := Dk.off_ok h.ok keep
  refine ⟨⟨Dk.on_ok hok, h.sb, rfl, (by decide : (-1 : Int) < 0), ?_⟩, rfl, hok, h.sb, fun j => ?_⟩
  · show (D.cutn keep D.keys.length).length = n
    rw [Dk.cutn_len]; exact h.n
  · have e : (D.off keep).on.get (j : Int) = wh ((D.cutn keep D.keys.length).getD j []) := rfl
    rw [e]
    rcases Dk.cut_or h.ok keep D.keys.length (Nat.le_refl _) j with h1 | h1
    · left; rw [h1]
    · right
      obtain ⟨x, hx, _, hv⟩ := gk_mem h1
      have h64 := h.ok.e64 x hx
      rw [hv] at h64
      exact ⟨_, h1, h64, wh_full h64⟩
/-- What is to be read of a list's place. -/
def was (l : List (List UInt8)) (j : Nat) : List UInt8 := if j < l.length ∧ (l.getD j []).length ≤ 64 then wh (l.getD j []) else wh []
theorem wh_len64 (s : List UInt8) : 64 ≤ (wh s).length := by simp [wh]; omega
theorem was_get {D : Dk} {sb n : Nat} (h : D.calm sb n) (he : D.es = []) (hs : D.sure = List.replicate n []) (l : List (List UInt8)) {k : Nat} (hk : k ≤ n) (hl : k = min l.length n) {j : Nat} (hj : j < n) : (D.wr l k).get (j : Int) = was l j := by
  obtain ⟨h1, h2, h3⟩ := h.wr l k hk
  unfold Dk.get was
  rw [h3, h2, he, hs]
  by_cases hc : j < l.length ∧ (l.getD j []).length ≤ 64
  · rw [if_pos hc, if_pos ⟨by omega, hc.2⟩]; rfl
  · rw [if_neg hc, if_neg (fun hc' => hc ⟨by omega, hc'.2⟩)]
    simp [gk, hj]
theorem lasts {D : Dk} {sb n : Nat} (h : D.calm sb n) (he : D.es = []) (hn : 0 < n) (m : List (List UInt8)) {k : Nat} (hk : k ≤ n) (hm : k ≤ m.length) (keep : Int) {j : Nat} (hj : j < n) :
    ((D.wr m k).off keep).on.get (j : Int) = D.get (j : Int) ∨ (j < m.length ∧ (m.getD j []).length ≤ 64 ∧ ((D.wr m k).off keep).on.get (j : Int) = wh (m.getD j [])) := by
  obtain ⟨h1, h2, h3⟩ := h.wr m k hk
  obtain ⟨_, _, _, _, h4⟩ := h1.off keep
  rcases h4 j with h5 | ⟨v, h5, h6, h7⟩
  · left
    rw [h5, h2]
    unfold Dk.get
    rw [he]
    simp [gk]
  · right
    rw [h3] at h5
    by_cases hc : j < k ∧ (m.getD j []).length ≤ 64
    · rw [if_pos hc] at h5
      exact ⟨by omega, hc.2, by rw [h7]; simpa using h5.symm⟩
    · rw [if_neg hc, he] at h5
      cases h5
theorem Dk.write_sb (D : Dk) (i : Int) (s : List UInt8) : (D.write i s).2.sb = D.sb := by
  have := Dk.act_sb D
  unfold Dk.write
  split
  · split
    · rfl
    · split
      · exact this
      · exact this
  · rfl
theorem Dk.sync_sb (D : Dk) : D.sync.2.sb = D.sb := by
  have := Dk.act_sb D
  unfold Dk.sync
  split
  · split
    · exact this
    · exact this
  · rfl
end Go.Sp
/- An owned slice opened as a block of cells, and closed again. -/
namespace Go.Sp
open Go
section
variable {L L' R : List HP} {G : W} {t : TypeId} {sz n c : Nat} {xs cs : List Value}
/-- What is owned and has something is a block: its cells, and some behind them. -/
theorem i_owar {p : Option Addr} (hn : n ≠ 0) [ho : O1 L t sz (p, n, c) xs L'] (h : ∀ g tl, p = some ⟨g, 0, none⟩ → xs.length = n * sz → n ≤ c → c ≤ maxLen → (xs ++ tl).length = c * sz → E (ar g t (xs ++ tl) :: L') G) : E L G := fun w hw => by
  have hw' := ho.p.hs hw
  obtain ⟨a, r, d, sa, sr, ⟨h1, h2⟩, hL⟩ := hw'
  rcases h2 with h2 | ⟨g, cap, cur, hs, hg, hle, hm, hcs, ht⟩
  · simp only [Prod.mk.injEq] at h2
    exact absurd h2.2.1 hn
  · simp only [Prod.mk.injEq, true_and] at hs
    obtain ⟨rfl, rfl⟩ := hs
    have e : cur.toList = xs ++ cur.toList.drop (n * sz) := by rw [← ht, List.take_append_drop]
    refine h g (cur.toList.drop (n * sz)) rfl h1 hle hm (by rw [← e]; simpa using hcs) w ⟨a, r, d, sa, sr, ?_, hL⟩
    show a (g + 1) = _
    rw [hg, ← e]
/-- And back. -/
theorem i_arow {g : Nat} {tl : List Value} [ha : A1 L g t cs L'] (e : cs = xs ++ tl) (hl : xs.length = n * sz) (hn : n ≤ c) (hc : c ≤ maxLen) (hcl : (xs ++ tl).length = c * sz)
    (h : E (ow t sz (some ⟨g, 0, none⟩, n, c) xs :: L') G) : E L G := by
  subst e
  exact r_arow ha.p hcl hn hc (by rw [← hl]; simp) h
theorem i_snq {α : Type} {cel : α → List Value} {A : HP} {a : Addr} {n c sz i : Nat} {xs : List α} {x : α} {e : Enc} {R : List HP} {k : e.α → W} {y : e.α} (hR : Rs A (some a, n, c) sz (xs.flatMap cel)) (hc : ∀ x, (cel x).length = sz) (hx : xs[i]? = some x) [ha : AX R A L'] (he : e.enc y = .agg (cel x).toArray) (h : E L (k y)) : E L (ldnq (HW R) e sz (a.add (i * sz)) k) :=
  r_snq hR hc hx ha.p he h
theorem i_sn {α : Type} {cel : α → List Value} {A : HP} {a : Addr} {n c sz i : Nat} {xs : List α} {x : α} {e : Enc} {k : e.α → W} {y : e.α} (hR : Rs A (some a, n, c) sz (xs.flatMap cel)) (hc : ∀ x, (cel x).length = sz) (hx : xs[i]? = some x) [ha : AX L A L'] (he : e.enc y = .agg (cel x).toArray) (h : E L (k y)) : E L (ldn e sz (a.add (i * sz)) k) :=
  r_sn hR hc hx ha.p he h
end
/-! Texts as arguments. -/
abbrev cS (s : List UInt8) : List Value := [str s]
theorem cS_len (s : List UInt8) : (cS s).length = 1 := rfl
theorem i_s0 {e : Enc} {L L' : List HP} {A : HP} {α : Type} {cel : α → List Value} {a : Addr} {n c sz i : Nat} {xs : List α} {x : α} {k : e.α → W} {y : e.α} (hR : Rs A (some a, n, c) sz (xs.flatMap cel)) (hc : ∀ x, (cel x).length = sz) (hx : xs[i]? = some x) [ha : AX L A L'] (hv : (cel x)[0]? = some (e.enc y)) (h : E L (k y)) : E L (ld e (a.add (i * sz)) k) :=
  r_s0 hR hc hx ha.p hv h
theorem i_s1 {L L' : List HP} {A : HP} {a : Addr} {n c i : Nat} {xs : List (List UInt8)} {k : List UInt8 → W} (hR : Rs A (some a, n, c) 1 (xs.flatMap cS)) (hi : i < xs.length) [ha : AX L A L'] (h : E L (k (xs.getD i []))) : E L (ld eS (a.add i) k) := by
  have := r_s0 (e := eS) (y := xs.getD i []) hR cS_len (x := xs.getD i []) (i := i) (by simp [hi]) ha.p rfl h
  rwa [Nat.mul_one] at this
abbrev cN (n : Int) : List Value := [.int .i64 n]
theorem cN_len (n : Int) : (cN n).length = 1 := rfl
theorem i_n1 {L L' : List HP} {A : HP} {a : Addr} {n c i : Nat} {xs : List Int} {k : Int → W} (hR : Rs A (some a, n, c) 1 (xs.flatMap cN)) (hi : i < xs.length) [ha : AX L A L'] (h : E L (k (xs.getD i 0))) : E L (ld eI (a.add i) k) := by
  have := r_s0 (e := eI) (y := xs.getD i 0) hR cN_len (x := xs.getD i 0) (i := i) (by simp [hi]) ha.p rfl h
  rwa [Nat.mul_one] at this
theorem num_of {cs : List Value} (h : lfs [.i .i64] cs) : ∃ x : Int, cs = cN x ∧ wf64 x := by
  rcases cs with _ | ⟨v0, _ | ⟨v1, r⟩⟩ <;> try (simp [lfs] at h; done)
  obtain ⟨⟨k, rfl, hk⟩, _⟩ := h
  exact ⟨k, rfl, by simpa [Lit.wf, IntKind.min, IntKind.max, IntKind.signed, IntKind.bits, wf64] using hk⟩
theorem txt_of {cs : List Value} (h : lfs [.s] cs) : ∃ x : List UInt8, cs = cS x ∧ True := by
  rcases cs with _ | ⟨v0, _ | ⟨v1, r⟩⟩ <;> try (simp [lfs] at h; done)
  obtain ⟨⟨k, rfl, _⟩, _⟩ := h
  exact ⟨k, rfl, trivial⟩
end Go.Sp
/- The disk: its calls where nothing lets it go. -/
namespace Go.Sp
open Go Go.Proofs
set_option linter.unusedSimpArgs false
set_option linter.unusedVariables false
set_option maxRecDepth 10000
theorem Dk.calm.p {D : Dk} {sb n : Nat} (h : D.calm sb n) : D.p = .pointer (some ⟨sb, 0, none⟩) := by simp only [Dk.p, h.sb]
theorem calm_w {D : Dk} {sb n : Nat} (h : D.calm sb n) {i : Nat} (hi : i < n) {s : List UInt8} (hs : s.length ≤ 64) : Fq eI Try.prog 27 #[.pointer (some ⟨sb, 0, none⟩), .int .i64 (i : Int), str s] [dk D] [dk (D.write (i : Int) s).2] 0 := by
  have := F27 D h.ok (i : Int) s
  rw [(h.write hi hs).1, h.p] at this
  exact this
theorem calm_s {D : Dk} {sb n : Nat} (h : D.calm sb n) (hn : 0 < n) : Fq eI Try.prog 28 #[.pointer (some ⟨sb, 0, none⟩)] [dk D] [dk D.sync.2] 0 := by
  have := F28 D h.ok
  rw [(h.sync hn).1, h.p] at this
  exact this
theorem calm_c {D : Dk} {sb n : Nat} (h : D.calm sb n) (hn : 0 < n) (keep : Int) : Fq eI Try.prog 29 #[.pointer (some ⟨sb, 0, none⟩), .int .u64 keep] [dk D] [dk (D.off keep)] 0 := by
  have := F29 D h.ok keep
  have e := h.chk hn
  rw [show ((0 : Nat) : Int) = 0 from rfl] at e
  rw [e, h.p, if_pos rfl] at this
  exact this
theorem calm_o {D : Dk} {sb n : Nat} (h : D.calm sb n) (keep : Int) : Fq eI Try.prog 30 #[.pointer (some ⟨sb, 0, none⟩)] [dk (D.off keep)] [dk (D.off keep).on] 0 := by
  obtain ⟨h1, h2, h3, h4, h5⟩ := h.off keep
  have := F30 (D.off keep) h3
  rw [h2, if_neg Bool.false_ne_true] at this
  simp only [Dk.p, h4] at this
  exact this
theorem calm_r {D : Dk} {sb n : Nat} (h : D.calm sb n) {i : Nat} (hi : i < n) : Fp (eT2 eS eI) Try.prog 31 #[.pointer (some ⟨sb, 0, none⟩), .int .i64 (i : Int)] [dk D] (D.get (i : Int), 0) := by
  have := F31 D h.ok (i : Int)
  rw [h.chk hi, if_pos rfl, h.p] at this
  exact this
theorem calm_r0 {Z : Dk} {sb n : Nat} (h : Z.calm sb n) (hn : 0 < n) : Fp (eT2 eS eI) Try.prog 31 #[.pointer (some ⟨sb, 0, none⟩), .int .i64 0] [dk Z] (Z.get 0, 0) := calm_r h (i := 0) hn
theorem calm_0 {Z : Dk} {sb n : Nat} (h : Z.calm sb n) (hn : 0 < n) : Z.chk 0 = 0 := h.chk (i := 0) hn
theorem f42a {Z : Dk} {sb n : Nat} (h : Z.calm sb n) (hn : 0 < n) {a k : Int} (ha : 0 ≤ a) : Fq eI Try.prog 42 #[.pointer (some ⟨sb, 0, none⟩), .int .i64 a, .int .u64 k] [dk Z] [dk { Z with fuse := a, keep := k }] 0 := by
  have F := F42 Z h.ok a k
  unfold Dk.arm at F
  rw [if_pos (calm_0 h hn), if_neg (by omega), h.p] at F
  exact F
theorem f30o {Z : Dk} (h : Z.ok) (hu : Z.up = false) {sb : Nat} (hs : Z.sb = sb) : Fq eI Try.prog 30 #[.pointer (some ⟨sb, 0, none⟩)] [dk Z] [dk Z.on] 0 := by
  have := F30 Z h
  rw [hu, if_neg Bool.false_ne_true] at this
  simp only [Dk.p, hs] at this
  exact this
theorem f43e {Z : Dk} (h : Z.ok) (he : Z.es = []) : Fn eSl Try.prog 43 #[.pointer (some ⟨Z.sb, 0, none⟩)] [dk Z] fun y X => X = [dk Z] ∧ y.2.1 = 0 := fun L w hw => by
  have F := F43 Z h
  simp only [Dk.p] at F
  refine (F L w hw).mono ?_
  rintro _ w' ⟨y, he', X, ⟨rfl, h2⟩, hX⟩
  have hk : Z.keys = [] := by
    unfold Dk.keys
    rw [he]
    simp
  rw [hk] at h2
  exact ⟨y, he', [dk Z], ⟨rfl, h2⟩, HS.tl hX⟩
theorem f43k {Z : Dk} (h : Z.ok) : Fn eSl Try.prog 43 #[.pointer (some ⟨Z.sb, 0, none⟩)] [dk Z] fun y X => X = [dk Z] ∧ y.2.1 = Z.keys.length := fun L w hw => by
  have F := F43 Z h
  simp only [Dk.p] at F
  refine (F L w hw).mono ?_
  rintro _ w' ⟨y, he', X, ⟨rfl, h2⟩, hX⟩
  exact ⟨y, he', [dk Z], ⟨rfl, h2⟩, HS.tl hX⟩
end Go.Sp
/- What each region of the Go functions does. Written by my own generator. -/
namespace Go.Sp
open Go
set_option maxRecDepth 100000
set_option linter.unusedVariables false
open Go.Proofs
/-! (*gharry.store.Store).Write -/
noncomputable def c46 : Cfg := { P := Try.prog, n := 62, T := TT, body := (Try.f46.body).getD .skip, res := Try.f46.results.toList, li := lk [] [(0, [0, 1, 2, 3]), (1, [0, 1, 2, 3]), (2, [0, 1, 2, 3, 9]), (3, [9]), (4, [0, 1, 2, 3]), (5, []), (6, [0, 1, 2, 3]), (7, [0, 1, 2, 10, 11]), (8, [11]), (9, [0, 1, 2, 10]), (10, [0, 1, 2, 10, 32]), (11, [0, 1, 2, 10, 32]), (12, [0, 1, 2, 10, 12, 32]), (13, [0, 1, 2, 10, 13, 32]), (14, [13]), (15, [0, 1, 2, 10, 32]), (16, [])], lo := lk [] [(0, [0, 1, 2, 3]), (1, [0, 1, 2, 3, 9]), (2, [0, 1, 2, 3, 9, 18]), (3, [8]), (4, [0, 1, 2, 3, 22]), (5, [8]), (6, [0, 1, 2, 10, 11]), (7, [0, 1, 2, 10, 11, 30]), (8, [8]), (9, [0, 1, 2, 10, 32]), (10, [0, 1, 2, 10, 32, 33]), (11, [0, 1, 2, 10, 12, 32]), (12, [0, 1, 2, 10, 13, 32]), (13, [0, 1, 2, 10, 13, 32, 59]), (14, [8]), (15, [0, 1, 2, 10, 32]), (16, [8]), (1000000, [8])], ord := lk (false, []) [(12, (true, [(0, 1), (1, 1), (2, 1), (3, 0), (4, 1), (5, 1), (6, 1), (7, 0), (8, 1), (9, 1), (10, 1), (11, 1), (12, 1), (13, 1), (14, 1), (15, 1), (16, 1), (17, 1), (18, 1), (19, 1), (20, 1), (21, 1), (22, 4), (23, 1)]))] }
@[go_sem] theorem c46_i0 : c46.li 0 = [0, 1, 2, 3] := rfl
@[go_sem] theorem c46_i1 : c46.li 1 = [0, 1, 2, 3] := rfl
@[go_sem] theorem c46_i2 : c46.li 2 = [0, 1, 2, 3, 9] := rfl
@[go_sem] theorem c46_i3 : c46.li 3 = [9] := rfl
@[go_sem] theorem c46_i4 : c46.li 4 = [0, 1, 2, 3] := rfl
@[go_sem] theorem c46_i5 : c46.li 5 = [] := rfl
@[go_sem] theorem c46_i6 : c46.li 6 = [0, 1, 2, 3] := rfl
@[go_sem] theorem c46_i7 : c46.li 7 = [0, 1, 2, 10, 11] := rfl
@[go_sem] theorem c46_i8 : c46.li 8 = [11] := rfl
@[go_sem] theorem c46_i9 : c46.li 9 = [0, 1, 2, 10] := rfl
@[go_sem] theorem c46_i10 : c46.li 10 = [0, 1, 2, 10, 32] := rfl
@[go_sem] theorem c46_i11 : c46.li 11 = [0, 1, 2, 10, 32] := rfl
@[go_sem] theorem c46_i12 : c46.li 12 = [0, 1, 2, 10, 12, 32] := rfl
@[go_sem] theorem c46_i13 : c46.li 13 = [0, 1, 2, 10, 13, 32] := rfl
@[go_sem] theorem c46_i14 : c46.li 14 = [13] := rfl
@[go_sem] theorem c46_i15 : c46.li 15 = [0, 1, 2, 10, 32] := rfl
@[go_sem] theorem c46_i16 : c46.li 16 = [] := rfl
@[go_sem] theorem c46_r0 (s0 : Option Addr) (id1 : Int) (text2 : List UInt8) (lsn3 : Int) (K : Env → W) : RP c46 0 [(0, .pointer s0), (1, .int .i64 id1), (2, str text2), (3, .int .i64 lsn3)] K =
    (K [(0, .pointer s0), (1, .int .i64 id1), (2, str text2), (3, .int .i64 lsn3)]) := by kernel_rfl
@[go_sem] theorem c46_r1 (s0 : Option Addr) (id1 : Int) (text2 : List UInt8) (lsn3 : Int) (K : Env → W) : RP c46 1 [(0, .pointer s0), (1, .int .i64 id1), (2, str text2), (3, .int .i64 lsn3)] K =
    (cal eI Try.prog 82 #[.pointer s0, .int .i64 id1] fun (y1_ : Int) => (K [(0, .pointer s0), (1, .int .i64 id1), (2, str text2), (3, .int .i64 lsn3), (9, .int .i64 y1_)])) := by kernel_rfl
@[go_sem] theorem c46_r2 (s0 : Option Addr) (id1 : Int) (text2 : List UInt8) (lsn3 : Int) (e9 : Int) (K : Env → W) : RP c46 2 [(0, .pointer s0), (1, .int .i64 id1), (2, str text2), (3, .int .i64 lsn3), (9, .int .i64 e9)] K =
    (K [(0, .pointer s0), (1, .int .i64 id1), (2, str text2), (3, .int .i64 lsn3), (9, .int .i64 e9), (18, .bool ((e9 != (0 : Int))))]) := by kernel_rfl
@[go_sem] theorem c46_r3 (e9 : Int) (K : Env → W) : RP c46 3 [(9, .int .i64 e9)] K =
    (K [(8, .int .i64 e9)]) := by kernel_rfl
@[go_sem] theorem c46_r4 (s0 : Option Addr) (id1 : Int) (text2 : List UInt8) (lsn3 : Int) (K : Env → W) : RP c46 4 [(0, .pointer s0), (1, .int .i64 id1), (2, str text2), (3, .int .i64 lsn3)] K =
    (K [(0, .pointer s0), (1, .int .i64 id1), (2, str text2), (3, .int .i64 lsn3), (22, .bool ((((text2).length : Int) != (224 : Int))))]) := by kernel_rfl
@[go_sem] theorem c46_r5 (K : Env → W) : RP c46 5 [] K =
    (K [(8, .int .i64 ((4 : Int)))]) := by kernel_rfl
@[go_sem] theorem c46_r6 (s0 : Option Addr) (id1 : Int) (text2 : List UInt8) (lsn3 : Int) (K : Env → W) : RP c46 6 [(0, .pointer s0), (1, .int .i64 id1), (2, str text2), (3, .int .i64 lsn3)] K =
    (cal (eT2 eS eI) Try.prog 83 #[.pointer s0, .int .i64 lsn3] fun (y1_ : ((List UInt8) × Int)) => (K [(0, .pointer s0), (1, .int .i64 id1), (2, str text2), (10, str y1_.1), (11, .int .i64 y1_.2)])) := by kernel_rfl
@[go_sem] theorem c46_r7 (s0 : Option Addr) (id1 : Int) (text2 : List UInt8) (m10 : List UInt8) (e11 : Int) (K : Env → W) : RP c46 7 [(0, .pointer s0), (1, .int .i64 id1), (2, str text2), (10, str m10), (11, .int .i64 e11)] K =
    (K [(0, .pointer s0), (1, .int .i64 id1), (2, str text2), (10, str m10), (11, .int .i64 e11), (30, .bool ((e11 != (0 : Int))))]) := by kernel_rfl
@[go_sem] theorem c46_r8 (e11 : Int) (K : Env → W) : RP c46 8 [(11, .int .i64 e11)] K =
    (K [(8, .int .i64 e11)]) := by kernel_rfl
@[go_sem] theorem c46_r9 (s0 : Option Addr) (id1 : Int) (text2 : List UInt8) (m10 : List UInt8) (K : Env → W) : RP c46 9 [(0, .pointer s0), (1, .int .i64 id1), (2, str text2), (10, str m10)] K =
    (K [(0, .pointer s0), (1, .int .i64 id1), (2, str text2), (10, str m10), (32, .int .i64 ((0 : Int)))]) := by kernel_rfl
@[go_sem] theorem c46_r10 (s0 : Option Addr) (id1 : Int) (text2 : List UInt8) (m10 : List UInt8) (t32 : Int) (K : Env → W) : RP c46 10 [(0, .pointer s0), (1, .int .i64 id1), (2, str text2), (10, str m10), (32, .int .i64 t32)] K =
    (K [(0, .pointer s0), (1, .int .i64 id1), (2, str text2), (10, str m10), (32, .int .i64 t32), (33, .bool ((decide (t32 < (4 : Int)))))]) := by kernel_rfl
@[go_sem] theorem c46_r11 (s0 : Option Addr) (id1 : Int) (text2 : List UInt8) (m10 : List UInt8) (t32 : Int) (K : Env → W) : RP c46 11 [(0, .pointer s0), (1, .int .i64 id1), (2, str text2), (10, str m10), (32, .int .i64 t32)] K =
    (K [(0, .pointer s0), (1, .int .i64 id1), (2, str text2), (10, str m10), (12, .int .i64 t32), (32, .int .i64 t32)]) := by kernel_rfl
@[go_sem] theorem c46_r12 (s0 : Option Addr) (id1 : Int) (text2 : List UInt8) (m10 : List UInt8) (i12 : Int) (t32 : Int) (K : Env → W) : RP c46 12 [(0, .pointer s0), (1, .int .i64 id1), (2, str text2), (10, str m10), (12, .int .i64 i12), (32, .int .i64 t32)] K =
    (ph fun S0 => (nn s0 fun y1_ => (ldq S0 eP y1_ fun (y2_ : Option Addr) => (nn s0 fun y3_ => (ldq S0 eI ((y3_.add 1)) fun (y4_ : Int) => (rq (0 ≤ ((IntKind.wrap .i64 (i12 * (56 : Int))) : Int) ∧ (IntKind.wrap .i64 (i12 * (56 : Int))) ≤ (IntKind.wrap .i64 ((IntKind.wrap .i64 (i12 + (1 : Int))) * (56 : Int))) ∧ (IntKind.wrap .i64 ((IntKind.wrap .i64 (i12 + (1 : Int))) * (56 : Int))) ≤ ((text2).length : Int)) (rq (((m10).length : Int) + (((ss text2 ((IntKind.wrap .i64 (i12 * (56 : Int)))) ((IntKind.wrap .i64 ((IntKind.wrap .i64 (i12 + (1 : Int))) * (56 : Int)))))).length : Int) ≤ 9223372036854775807) (cal eI Try.prog 27 #[.pointer y2_, .int .i64 ((IntKind.wrap .i64 ((IntKind.wrap .i64 (y4_ + (IntKind.wrap .i64 ((4 : Int) * id1)))) + i12))), str ((m10 ++ (ss text2 ((IntKind.wrap .i64 (i12 * (56 : Int)))) ((IntKind.wrap .i64 ((IntKind.wrap .i64 (i12 + (1 : Int))) * (56 : Int)))))))] fun (y5_ : Int) => (K [(0, .pointer s0), (1, .int .i64 id1), (2, str text2), (10, str m10), (13, .int .i64 y5_), (32, .int .i64 t32)]))))))))) := by kernel_rfl
@[go_sem] theorem c46_r13 (s0 : Option Addr) (id1 : Int) (text2 : List UInt8) (m10 : List UInt8) (e13 : Int) (t32 : Int) (K : Env → W) : RP c46 13 [(0, .pointer s0), (1, .int .i64 id1), (2, str text2), (10, str m10), (13, .int .i64 e13), (32, .int .i64 t32)] K =
    (K [(0, .pointer s0), (1, .int .i64 id1), (2, str text2), (10, str m10), (13, .int .i64 e13), (32, .int .i64 t32), (59, .bool ((e13 != (0 : Int))))]) := by kernel_rfl
@[go_sem] theorem c46_r14 (e13 : Int) (K : Env → W) : RP c46 14 [(13, .int .i64 e13)] K =
    (K [(8, .int .i64 e13)]) := by kernel_rfl
@[go_sem] theorem c46_r15 (s0 : Option Addr) (id1 : Int) (text2 : List UInt8) (m10 : List UInt8) (t32 : Int) (K : Env → W) : RP c46 15 [(0, .pointer s0), (1, .int .i64 id1), (2, str text2), (10, str m10), (32, .int .i64 t32)] K =
    (K [(0, .pointer s0), (1, .int .i64 id1), (2, str text2), (10, str m10), (32, .int .i64 ((IntKind.wrap .i64 (t32 + (1 : Int)))))]) := by kernel_rfl
@[go_sem] theorem c46_r16 (K : Env → W) : RP c46 16 [] K =
    (K [(8, .int .i64 ((0 : Int)))]) := by kernel_rfl
@[go_sem] theorem c46_o : c46.lo 1000000 = [8] := rfl
@[go_sem] theorem c46_e (t8 : Int) (k : Value → W) : RTp c46 [(8, .int .i64 t8)] k = (k (.int .i64 t8)) := by kernel_rfl
theorem c46_ok : (c46.P.follows .mixedOrders && okc c46 c46.body) = true := by kernel_rfl
theorem c46_fn {e : Enc} {args : Array Value} {G : e.α → W} {L : List HP} {ρ : Env} (hρ : envA 0 args.toList = ρ) (hs : Nat.ble args.size 62 = true) (h : E L (D c46 (.seq (.reg 0) (.seq (.seq (.reg 1) (.seq (.reg 2) (.cond (.tmp 18) (.seq (.reg 3) (.ret)) (.skip)))) (.seq (.seq (.reg 4) (.cond (.tmp 22) (.seq (.reg 5) (.ret)) (.skip))) (.seq (.reg 6) (.seq (.seq (.reg 7) (.cond (.tmp 30) (.seq (.reg 8) (.ret)) (.skip))) (.seq (.seq (.reg 9) (.block 0 (.loop (.seq (.reg 10) (.seq (.cond (.tmp 33) (.skip) (.exit 0)) (.seq (.block 1 (.seq (.reg 11) (.seq (.reg 12) (.seq (.reg 13) (.cond (.tmp 59) (.seq (.reg 14) (.ret)) (.skip)))))) (.reg 15))))))) (.seq (.reg 16) (.ret)))))))) (fnQ c46 e G) ρ)) : E L (cal e Try.prog 46 args G) :=
  d_fn (c := c46) Try.func46 (by kernel_rfl) (by kernel_rfl) (by kernel_rfl) c46_ok (by kernel_rfl) (by kernel_rfl) hρ hs h
-- loop (first region 10): live slots 0:s0 1:id1 2:text2 10:m10 32:t32, of which it writes [32]
/-! (*gharry.store.Store).Sync -/
noncomputable def c48 : Cfg := { P := Try.prog, n := 17, T := TT, body := (Try.f48.body).getD .skip, res := Try.f48.results.toList, li := lk [] [(0, [0]), (1, [0]), (2, []), (3, [0])], lo := lk [] [(0, [0]), (1, [0, 11]), (2, [2]), (3, [2]), (1000000, [2])], ord := lk (false, []) [] }
@[go_sem] theorem c48_i0 : c48.li 0 = [0] := rfl
@[go_sem] theorem c48_i1 : c48.li 1 = [0] := rfl
@[go_sem] theorem c48_i2 : c48.li 2 = [] := rfl
@[go_sem] theorem c48_i3 : c48.li 3 = [0] := rfl
@[go_sem] theorem c48_r0 (s0 : Option Addr) (K : Env → W) : RP c48 0 [(0, .pointer s0)] K =
    (K [(0, .pointer s0)]) := by kernel_rfl
@[go_sem] theorem c48_r1 (s0 : Option Addr) (K : Env → W) : RP c48 1 [(0, .pointer s0)] K =
    (cnd ((s0).isNone) (K [(0, .pointer s0), (11, .bool true)]) (nn s0 fun y1_ => (ld eP y1_ fun (y2_ : Option Addr) => (K [(0, .pointer s0), (11, .bool ((y2_).isNone))])))) := by kernel_rfl
@[go_sem] theorem c48_r2 (K : Env → W) : RP c48 2 [] K =
    (K [(2, .int .i64 ((11 : Int)))]) := by kernel_rfl
@[go_sem] theorem c48_r3 (s0 : Option Addr) (K : Env → W) : RP c48 3 [(0, .pointer s0)] K =
    (nn s0 fun y1_ => (ld eP y1_ fun (y2_ : Option Addr) => (cal eI Try.prog 28 #[.pointer y2_] fun (y3_ : Int) => (K [(2, .int .i64 y3_)])))) := by kernel_rfl
@[go_sem] theorem c48_o : c48.lo 1000000 = [2] := rfl
@[go_sem] theorem c48_e (t2 : Int) (k : Value → W) : RTp c48 [(2, .int .i64 t2)] k = (k (.int .i64 t2)) := by kernel_rfl
theorem c48_ok : (c48.P.follows .mixedOrders && okc c48 c48.body) = true := by kernel_rfl
theorem c48_fn {e : Enc} {args : Array Value} {G : e.α → W} {L : List HP} {ρ : Env} (hρ : envA 0 args.toList = ρ) (hs : Nat.ble args.size 17 = true) (h : E L (D c48 (.seq (.reg 0) (.seq (.seq (.reg 1) (.cond (.tmp 11) (.seq (.reg 2) (.ret)) (.skip))) (.seq (.reg 3) (.ret)))) (fnQ c48 e G) ρ)) : E L (cal e Try.prog 48 args G) :=
  d_fn (c := c48) Try.func48 (by kernel_rfl) (by kernel_rfl) (by kernel_rfl) c48_ok (by kernel_rfl) (by kernel_rfl) hρ hs h
/-! (*gharry.store.Store).Read -/
noncomputable def c49 : Cfg := { P := Try.prog, n := 87, T := TT, body := (Try.f49.body).getD .skip, res := Try.f49.results.toList, li := lk [] [(0, [0, 1]), (1, [0, 1]), (2, [0, 1, 7]), (3, [7]), (4, [0, 1]), (5, [0, 1, 8, 9]), (6, [0, 1, 8, 9, 10, 11]), (7, [0, 1, 8, 9, 10, 11, 23]), (8, [0, 1, 8, 9, 10, 11, 23]), (9, [0, 1, 8, 9, 10, 11, 12, 23]), (10, [0, 1, 8, 9, 10, 11, 12, 13, 14, 23]), (11, [14]), (12, [0, 1, 8, 9, 10, 11, 12, 13, 23]), (13, [0, 1, 8, 10, 11, 13, 23]), (14, [0, 1, 8, 9, 10, 11, 13, 23]), (15, [0, 1, 8, 9, 10, 11, 13, 15, 23]), (16, [0, 1, 8, 9, 10, 11, 13, 23]), (17, [0, 1, 8, 9, 10, 11, 13, 23]), (18, [0, 1, 8, 9, 10, 11, 23]), (19, [8, 9, 10, 11]), (20, []), (21, [8, 9, 11]), (22, []), (23, [8, 9]), (24, [8, 16]), (25, [8, 16])], lo := lk [] [(0, [0, 1]), (1, [0, 1, 7]), (2, [0, 1, 7, 21]), (3, [4, 5, 6]), (4, [0, 1, 8, 9]), (5, [0, 1, 8, 9, 10, 11]), (6, [0, 1, 8, 9, 10, 11, 23]), (7, [0, 1, 8, 9, 10, 11, 23, 24]), (8, [0, 1, 8, 9, 10, 11, 12, 23]), (9, [0, 1, 8, 9, 10, 11, 12, 13, 14, 23]), (10, [0, 1, 8, 9, 10, 11, 12, 13, 14, 23, 44]), (11, [4, 5, 6]), (12, [0, 1, 8, 9, 10, 11, 13, 23, 47]), (13, [0, 1, 8, 9, 10, 11, 13, 23]), (14, [0, 1, 8, 9, 10, 11, 13, 15, 23]), (15, [0, 1, 8, 9, 10, 11, 13, 23]), (16, [0, 1, 8, 9, 10, 11, 13, 23]), (17, [0, 1, 8, 9, 10, 11, 23]), (18, [0, 1, 8, 9, 10, 11, 23]), (19, [8, 9, 11, 74]), (20, [4, 5, 6]), (21, [8, 9, 77]), (22, [4, 5, 6]), (23, [8, 16]), (24, [8, 16]), (25, [4, 5, 6]), (1000000, [4, 5, 6])], ord := lk (false, []) [(9, (true, [(0, 1), (1, 1), (2, 1), (3, 0), (4, 1), (5, 1), (6, 1), (7, 0), (8, 1), (9, 1), (10, 1), (11, 1), (12, 1), (13, 4), (14, 1), (15, 1), (16, 1), (17, 1), (18, 1)])), (15, (true, [(0, 1), (1, 1), (2, 1), (4, 1), (5, 1), (6, 1), (7, 0), (3, 2), (8, 1), (9, 1), (10, 1)]))] }
@[go_sem] theorem c49_i0 : c49.li 0 = [0, 1] := rfl
@[go_sem] theorem c49_i1 : c49.li 1 = [0, 1] := rfl
@[go_sem] theorem c49_i2 : c49.li 2 = [0, 1, 7] := rfl
@[go_sem] theorem c49_i3 : c49.li 3 = [7] := rfl
@[go_sem] theorem c49_i4 : c49.li 4 = [0, 1] := rfl
@[go_sem] theorem c49_i5 : c49.li 5 = [0, 1, 8, 9] := rfl
@[go_sem] theorem c49_i6 : c49.li 6 = [0, 1, 8, 9, 10, 11] := rfl
@[go_sem] theorem c49_i7 : c49.li 7 = [0, 1, 8, 9, 10, 11, 23] := rfl
@[go_sem] theorem c49_i8 : c49.li 8 = [0, 1, 8, 9, 10, 11, 23] := rfl
@[go_sem] theorem c49_i9 : c49.li 9 = [0, 1, 8, 9, 10, 11, 12, 23] := rfl
@[go_sem] theorem c49_i10 : c49.li 10 = [0, 1, 8, 9, 10, 11, 12, 13, 14, 23] := rfl
@[go_sem] theorem c49_i11 : c49.li 11 = [14] := rfl
@[go_sem] theorem c49_i12 : c49.li 12 = [0, 1, 8, 9, 10, 11, 12, 13, 23] := rfl
@[go_sem] theorem c49_i13 : c49.li 13 = [0, 1, 8, 10, 11, 13, 23] := rfl
@[go_sem] theorem c49_i14 : c49.li 14 = [0, 1, 8, 9, 10, 11, 13, 23] := rfl
@[go_sem] theorem c49_i15 : c49.li 15 = [0, 1, 8, 9, 10, 11, 13, 15, 23] := rfl
@[go_sem] theorem c49_i16 : c49.li 16 = [0, 1, 8, 9, 10, 11, 13, 23] := rfl
@[go_sem] theorem c49_i17 : c49.li 17 = [0, 1, 8, 9, 10, 11, 13, 23] := rfl
@[go_sem] theorem c49_i18 : c49.li 18 = [0, 1, 8, 9, 10, 11, 23] := rfl
@[go_sem] theorem c49_i19 : c49.li 19 = [8, 9, 10, 11] := rfl
@[go_sem] theorem c49_i20 : c49.li 20 = [] := rfl
@[go_sem] theorem c49_i21 : c49.li 21 = [8, 9, 11] := rfl
@[go_sem] theorem c49_i22 : c49.li 22 = [] := rfl
@[go_sem] theorem c49_i23 : c49.li 23 = [8, 9] := rfl
@[go_sem] theorem c49_i24 : c49.li 24 = [8, 16] := rfl
@[go_sem] theorem c49_i25 : c49.li 25 = [8, 16] := rfl
@[go_sem] theorem c49_r0 (s0 : Option Addr) (id1 : Int) (K : Env → W) : RP c49 0 [(0, .pointer s0), (1, .int .i64 id1)] K =
    (K [(0, .pointer s0), (1, .int .i64 id1)]) := by kernel_rfl
@[go_sem] theorem c49_r1 (s0 : Option Addr) (id1 : Int) (K : Env → W) : RP c49 1 [(0, .pointer s0), (1, .int .i64 id1)] K =
    (cal eI Try.prog 82 #[.pointer s0, .int .i64 id1] fun (y1_ : Int) => (K [(0, .pointer s0), (1, .int .i64 id1), (7, .int .i64 y1_)])) := by kernel_rfl
@[go_sem] theorem c49_r2 (s0 : Option Addr) (id1 : Int) (e7 : Int) (K : Env → W) : RP c49 2 [(0, .pointer s0), (1, .int .i64 id1), (7, .int .i64 e7)] K =
    (K [(0, .pointer s0), (1, .int .i64 id1), (7, .int .i64 e7), (21, .bool ((e7 != (0 : Int))))]) := by kernel_rfl
@[go_sem] theorem c49_r3 (e7 : Int) (K : Env → W) : RP c49 3 [(7, .int .i64 e7)] K =
    (K [(4, str (([] : List UInt8))), (5, .int .i64 ((0 : Int))), (6, .int .i64 e7)]) := by kernel_rfl
@[go_sem] theorem c49_r4 (s0 : Option Addr) (id1 : Int) (K : Env → W) : RP c49 4 [(0, .pointer s0), (1, .int .i64 id1)] K =
    (K [(0, .pointer s0), (1, .int .i64 id1), (8, str (([] : List UInt8))), (9, str (([] : List UInt8)))]) := by kernel_rfl
@[go_sem] theorem c49_r5 (s0 : Option Addr) (id1 : Int) (text8 : List UInt8) (first9 : List UInt8) (K : Env → W) : RP c49 5 [(0, .pointer s0), (1, .int .i64 id1), (8, str text8), (9, str first9)] K =
    (K [(0, .pointer s0), (1, .int .i64 id1), (8, str text8), (9, str first9), (10, .bool false), (11, .bool true)]) := by kernel_rfl
@[go_sem] theorem c49_r6 (s0 : Option Addr) (id1 : Int) (text8 : List UInt8) (first9 : List UInt8) (some10 : Bool) (whole11 : Bool) (K : Env → W) : RP c49 6 [(0, .pointer s0), (1, .int .i64 id1), (8, str text8), (9, str first9), (10, .bool some10), (11, .bool whole11)] K =
    (K [(0, .pointer s0), (1, .int .i64 id1), (8, str text8), (9, str first9), (10, .bool some10), (11, .bool whole11), (23, .int .i64 ((0 : Int)))]) := by kernel_rfl
@[go_sem] theorem c49_r7 (s0 : Option Addr) (id1 : Int) (text8 : List UInt8) (first9 : List UInt8) (some10 : Bool) (whole11 : Bool) (t23 : Int) (K : Env → W) : RP c49 7 [(0, .pointer s0), (1, .int .i64 id1), (8, str text8), (9, str first9), (10, .bool some10), (11, .bool whole11), (23, .int .i64 t23)] K =
    (K [(0, .pointer s0), (1, .int .i64 id1), (8, str text8), (9, str first9), (10, .bool some10), (11, .bool whole11), (23, .int .i64 t23), (24, .bool ((decide (t23 < (4 : Int)))))]) := by kernel_rfl
@[go_sem] theorem c49_r8 (s0 : Option Addr) (id1 : Int) (text8 : List UInt8) (first9 : List UInt8) (some10 : Bool) (whole11 : Bool) (t23 : Int) (K : Env → W) : RP c49 8 [(0, .pointer s0), (1, .int .i64 id1), (8, str text8), (9, str first9), (10, .bool some10), (11, .bool whole11), (23, .int .i64 t23)] K =
    (K [(0, .pointer s0), (1, .int .i64 id1), (8, str text8), (9, str first9), (10, .bool some10), (11, .bool whole11), (12, .int .i64 t23), (23, .int .i64 t23)]) := by kernel_rfl
@[go_sem] theorem c49_r9 (s0 : Option Addr) (id1 : Int) (text8 : List UInt8) (first9 : List UInt8) (some10 : Bool) (whole11 : Bool) (i12 : Int) (t23 : Int) (K : Env → W) : RP c49 9 [(0, .pointer s0), (1, .int .i64 id1), (8, str text8), (9, str first9), (10, .bool some10), (11, .bool whole11), (12, .int .i64 i12), (23, .int .i64 t23)] K =
    (ph fun S0 => (nn s0 fun y1_ => (ldq S0 eP y1_ fun (y2_ : Option Addr) => (nn s0 fun y3_ => (ldq S0 eI ((y3_.add 1)) fun (y4_ : Int) => (cal (eT2 eS eI) Try.prog 31 #[.pointer y2_, .int .i64 ((IntKind.wrap .i64 ((IntKind.wrap .i64 (y4_ + (IntKind.wrap .i64 ((4 : Int) * id1)))) + i12)))] fun (y5_ : ((List UInt8) × Int)) => (K [(0, .pointer s0), (1, .int .i64 id1), (8, str text8), (9, str first9), (10, .bool some10), (11, .bool whole11), (12, .int .i64 i12), (13, str y5_.1), (14, .int .i64 y5_.2), (23, .int .i64 t23)]))))))) := by kernel_rfl
@[go_sem] theorem c49_r10 (s0 : Option Addr) (id1 : Int) (text8 : List UInt8) (first9 : List UInt8) (some10 : Bool) (whole11 : Bool) (i12 : Int) (b13 : List UInt8) (e14 : Int) (t23 : Int) (K : Env → W) : RP c49 10 [(0, .pointer s0), (1, .int .i64 id1), (8, str text8), (9, str first9), (10, .bool some10), (11, .bool whole11), (12, .int .i64 i12), (13, str b13), (14, .int .i64 e14), (23, .int .i64 t23)] K =
    (K [(0, .pointer s0), (1, .int .i64 id1), (8, str text8), (9, str first9), (10, .bool some10), (11, .bool whole11), (12, .int .i64 i12), (13, str b13), (14, .int .i64 e14), (23, .int .i64 t23), (44, .bool ((e14 != (0 : Int))))]) := by kernel_rfl
@[go_sem] theorem c49_r11 (e14 : Int) (K : Env → W) : RP c49 11 [(14, .int .i64 e14)] K =
    (K [(4, str (([] : List UInt8))), (5, .int .i64 ((0 : Int))), (6, .int .i64 e14)]) := by kernel_rfl
@[go_sem] theorem c49_r12 (s0 : Option Addr) (id1 : Int) (text8 : List UInt8) (first9 : List UInt8) (some10 : Bool) (whole11 : Bool) (i12 : Int) (b13 : List UInt8) (t23 : Int) (K : Env → W) : RP c49 12 [(0, .pointer s0), (1, .int .i64 id1), (8, str text8), (9, str first9), (10, .bool some10), (11, .bool whole11), (12, .int .i64 i12), (13, str b13), (23, .int .i64 t23)] K =
    (K [(0, .pointer s0), (1, .int .i64 id1), (8, str text8), (9, str first9), (10, .bool some10), (11, .bool whole11), (13, str b13), (23, .int .i64 t23), (47, .bool ((i12 == (0 : Int))))]) := by kernel_rfl
@[go_sem] theorem c49_r13 (s0 : Option Addr) (id1 : Int) (text8 : List UInt8) (some10 : Bool) (whole11 : Bool) (b13 : List UInt8) (t23 : Int) (K : Env → W) : RP c49 13 [(0, .pointer s0), (1, .int .i64 id1), (8, str text8), (10, .bool some10), (11, .bool whole11), (13, str b13), (23, .int .i64 t23)] K =
    (rq (0 ≤ (0 : Int) ∧ 0 ≤ (8 : Int) ∧ (8 : Int) ≤ ((b13).length : Int)) (K [(0, .pointer s0), (1, .int .i64 id1), (8, str text8), (9, str ((ss b13 0 ((8 : Int))))), (10, .bool some10), (11, .bool whole11), (13, str b13), (23, .int .i64 t23)])) := by kernel_rfl
@[go_sem] theorem c49_r14 (s0 : Option Addr) (id1 : Int) (text8 : List UInt8) (first9 : List UInt8) (some10 : Bool) (whole11 : Bool) (b13 : List UInt8) (t23 : Int) (K : Env → W) : RP c49 14 [(0, .pointer s0), (1, .int .i64 id1), (8, str text8), (9, str first9), (10, .bool some10), (11, .bool whole11), (13, str b13), (23, .int .i64 t23)] K =
    (cal eP Try.prog 72 #[str b13] fun (y1_ : Option Addr) => (K [(0, .pointer s0), (1, .int .i64 id1), (8, str text8), (9, str first9), (10, .bool some10), (11, .bool whole11), (13, str b13), (15, .pointer y1_), (23, .int .i64 t23)])) := by kernel_rfl
@[go_sem] theorem c49_r15 (s0 : Option Addr) (id1 : Int) (text8 : List UInt8) (first9 : List UInt8) (some10 : Bool) (whole11 : Bool) (b13 : List UInt8) (r15 : Option Addr) (t23 : Int) (K : Env → W) : RP c49 15 [(0, .pointer s0), (1, .int .i64 id1), (8, str text8), (9, str first9), (10, .bool some10), (11, .bool whole11), (13, str b13), (15, .pointer r15), (23, .int .i64 t23)] K =
    (ph fun S0 => (cnd some10 (kpn S0 fun S1 => (K [(0, .pointer s0), (1, .int .i64 id1), (8, str text8), (9, str first9), (10, .bool true), (11, .bool whole11), (13, str b13), (23, .int .i64 t23)])) (nn s0 fun y1_ => (ldq S0 eI ((y1_.add 3)) fun (y2_ : Int) => (cal eI Try.prog 75 #[.pointer r15, .int .i64 ((2 : Int))] fun (y3_ : Int) => (kpn S0 fun S2 => (K [(0, .pointer s0), (1, .int .i64 id1), (8, str text8), (9, str first9), (10, .bool ((y3_ == y2_))), (11, .bool whole11), (13, str b13), (23, .int .i64 t23)]))))))) := by kernel_rfl
@[go_sem] theorem c49_r16 (s0 : Option Addr) (id1 : Int) (text8 : List UInt8) (first9 : List UInt8) (some10 : Bool) (whole11 : Bool) (b13 : List UInt8) (t23 : Int) (K : Env → W) : RP c49 16 [(0, .pointer s0), (1, .int .i64 id1), (8, str text8), (9, str first9), (10, .bool some10), (11, .bool whole11), (13, str b13), (23, .int .i64 t23)] K =
    (cnd whole11 (rq (0 ≤ (0 : Int) ∧ 0 ≤ (8 : Int) ∧ (8 : Int) ≤ ((b13).length : Int)) (K [(0, .pointer s0), (1, .int .i64 id1), (8, str text8), (9, str first9), (10, .bool some10), (11, .bool (((ss b13 0 ((8 : Int))) == first9))), (13, str b13), (23, .int .i64 t23)])) (K [(0, .pointer s0), (1, .int .i64 id1), (8, str text8), (9, str first9), (10, .bool some10), (11, .bool false), (13, str b13), (23, .int .i64 t23)])) := by kernel_rfl
@[go_sem] theorem c49_r17 (s0 : Option Addr) (id1 : Int) (text8 : List UInt8) (first9 : List UInt8) (some10 : Bool) (whole11 : Bool) (b13 : List UInt8) (t23 : Int) (K : Env → W) : RP c49 17 [(0, .pointer s0), (1, .int .i64 id1), (8, str text8), (9, str first9), (10, .bool some10), (11, .bool whole11), (13, str b13), (23, .int .i64 t23)] K =
    (rq (0 ≤ ((8 : Int) : Int) ∧ (8 : Int) ≤ ((b13).length : Int) ∧ ((b13).length : Int) ≤ ((b13).length : Int)) (rq (((text8).length : Int) + (((ss b13 ((8 : Int)) (((b13).length : Int)))).length : Int) ≤ 9223372036854775807) (K [(0, .pointer s0), (1, .int .i64 id1), (8, str ((text8 ++ (ss b13 ((8 : Int)) (((b13).length : Int)))))), (9, str first9), (10, .bool some10), (11, .bool whole11), (23, .int .i64 t23)]))) := by kernel_rfl
@[go_sem] theorem c49_r18 (s0 : Option Addr) (id1 : Int) (text8 : List UInt8) (first9 : List UInt8) (some10 : Bool) (whole11 : Bool) (t23 : Int) (K : Env → W) : RP c49 18 [(0, .pointer s0), (1, .int .i64 id1), (8, str text8), (9, str first9), (10, .bool some10), (11, .bool whole11), (23, .int .i64 t23)] K =
    (K [(0, .pointer s0), (1, .int .i64 id1), (8, str text8), (9, str first9), (10, .bool some10), (11, .bool whole11), (23, .int .i64 ((IntKind.wrap .i64 (t23 + (1 : Int)))))]) := by kernel_rfl
@[go_sem] theorem c49_r19 (text8 : List UInt8) (first9 : List UInt8) (some10 : Bool) (whole11 : Bool) (K : Env → W) : RP c49 19 [(8, str text8), (9, str first9), (10, .bool some10), (11, .bool whole11)] K =
    (K [(8, str text8), (9, str first9), (11, .bool whole11), (74, .bool ((!some10)))]) := by kernel_rfl
@[go_sem] theorem c49_r20 (K : Env → W) : RP c49 20 [] K =
    (K [(4, str (([] : List UInt8))), (5, .int .i64 ((0 : Int))), (6, .int .i64 ((8 : Int)))]) := by kernel_rfl
@[go_sem] theorem c49_r21 (text8 : List UInt8) (first9 : List UInt8) (whole11 : Bool) (K : Env → W) : RP c49 21 [(8, str text8), (9, str first9), (11, .bool whole11)] K =
    (K [(8, str text8), (9, str first9), (77, .bool ((!whole11)))]) := by kernel_rfl
@[go_sem] theorem c49_r22 (K : Env → W) : RP c49 22 [] K =
    (K [(4, str (([] : List UInt8))), (5, .int .i64 ((0 : Int))), (6, .int .i64 ((10 : Int)))]) := by kernel_rfl
@[go_sem] theorem c49_r23 (text8 : List UInt8) (first9 : List UInt8) (K : Env → W) : RP c49 23 [(8, str text8), (9, str first9)] K =
    (cal eP Try.prog 72 #[str first9] fun (y1_ : Option Addr) => (K [(8, str text8), (16, .pointer y1_)])) := by kernel_rfl
@[go_sem] theorem c49_r24 (text8 : List UInt8) (r16 : Option Addr) (K : Env → W) : RP c49 24 [(8, str text8), (16, .pointer r16)] K =
    (cal eI Try.prog 75 #[.pointer r16, .int .i64 ((2 : Int))] fun (y1_ : Int) => (K [(8, str text8), (16, .pointer r16)])) := by kernel_rfl
@[go_sem] theorem c49_r25 (text8 : List UInt8) (r16 : Option Addr) (K : Env → W) : RP c49 25 [(8, str text8), (16, .pointer r16)] K =
    (cal eI Try.prog 75 #[.pointer r16, .int .i64 ((6 : Int))] fun (y1_ : Int) => (K [(4, str text8), (5, .int .i64 y1_), (6, .int .i64 ((0 : Int)))])) := by kernel_rfl
@[go_sem] theorem c49_o : c49.lo 1000000 = [4, 5, 6] := rfl
@[go_sem] theorem c49_e (t4 : List UInt8) (t5 : Int) (t6 : Int) (k : Value → W) : RTp c49 [(4, str t4), (5, .int .i64 t5), (6, .int .i64 t6)] k = (k (.tuple #[str t4, .int .i64 t5, .int .i64 t6])) := by kernel_rfl
theorem c49_ok : (c49.P.follows .mixedOrders && okc c49 c49.body) = true := by kernel_rfl
theorem c49_fn {e : Enc} {args : Array Value} {G : e.α → W} {L : List HP} {ρ : Env} (hρ : envA 0 args.toList = ρ) (hs : Nat.ble args.size 87 = true) (h : E L (D c49 (.seq (.reg 0) (.seq (.seq (.reg 1) (.seq (.reg 2) (.cond (.tmp 21) (.seq (.reg 3) (.ret)) (.skip)))) (.seq (.reg 4) (.seq (.reg 5) (.seq (.seq (.reg 6) (.block 0 (.loop (.seq (.reg 7) (.seq (.cond (.tmp 24) (.skip) (.exit 0)) (.seq (.block 1 (.seq (.reg 8) (.seq (.reg 9) (.seq (.seq (.reg 10) (.cond (.tmp 44) (.seq (.reg 11) (.ret)) (.skip))) (.seq (.seq (.reg 12) (.cond (.tmp 47) (.reg 13) (.skip))) (.seq (.reg 14) (.seq (.reg 15) (.seq (.reg 16) (.reg 17))))))))) (.reg 18))))))) (.seq (.block 2 (.seq (.reg 19) (.cond (.tmp 74) (.seq (.reg 20) (.ret)) (.seq (.reg 21) (.cond (.tmp 77) (.seq (.reg 22) (.ret)) (.skip)))))) (.seq (.reg 23) (.seq (.reg 24) (.seq (.reg 25) (.ret)))))))))) (fnQ c49 e G) ρ)) : E L (cal e Try.prog 49 args G) :=
  d_fn (c := c49) Try.func49 (by kernel_rfl) (by kernel_rfl) (by kernel_rfl) c49_ok (by kernel_rfl) (by kernel_rfl) hρ hs h
-- loop (first region 7): live slots 0:s0 1:id1 8:text8 9:first9 10:some10 11:whole11 23:t23, of which it writes [8, 9, 10, 11, 23]
/-! gharry.store.New -/
noncomputable def c51 : Cfg := { P := Try.prog, n := 53, T := TT, body := (Try.f51.body).getD .skip, res := Try.f51.results.toList, li := lk [] [(0, [0, 1, 2, 3]), (1, [0, 1, 2, 3]), (2, []), (3, [0, 1, 2, 3]), (4, []), (5, [0, 1, 2, 3])], lo := lk [] [(0, [0, 1, 2, 3]), (1, [0, 1, 2, 3, 10]), (2, [8, 9]), (3, [0, 1, 2, 3, 33]), (4, [8, 9]), (5, [8, 9]), (1000000, [8, 9])], ord := lk (false, []) [] }
@[go_sem] theorem c51_i0 : c51.li 0 = [0, 1, 2, 3] := rfl
@[go_sem] theorem c51_i1 : c51.li 1 = [0, 1, 2, 3] := rfl
@[go_sem] theorem c51_i2 : c51.li 2 = [] := rfl
@[go_sem] theorem c51_i3 : c51.li 3 = [0, 1, 2, 3] := rfl
@[go_sem] theorem c51_i4 : c51.li 4 = [] := rfl
@[go_sem] theorem c51_i5 : c51.li 5 = [0, 1, 2, 3] := rfl
@[go_sem] theorem c51_r0 (d0 : Option Addr) (base1 : Int) (pages2 : Int) (gen3 : Int) (K : Env → W) : RP c51 0 [(0, .pointer d0), (1, .int .i64 base1), (2, .int .i64 pages2), (3, .int .i64 gen3)] K =
    (K [(0, .pointer d0), (1, .int .i64 base1), (2, .int .i64 pages2), (3, .int .i64 gen3)]) := by kernel_rfl
@[go_sem] theorem c51_r1 (d0 : Option Addr) (base1 : Int) (pages2 : Int) (gen3 : Int) (K : Env → W) : RP c51 1 [(0, .pointer d0), (1, .int .i64 base1), (2, .int .i64 pages2), (3, .int .i64 gen3)] K =
    (cnd ((d0).isNone) (K [(0, .pointer d0), (1, .int .i64 base1), (2, .int .i64 pages2), (3, .int .i64 gen3), (10, .bool true)]) (cnd ((decide (gen3 < (1 : Int)))) (K [(0, .pointer d0), (1, .int .i64 base1), (2, .int .i64 pages2), (3, .int .i64 gen3), (10, .bool true)]) (cnd ((decide ((65536 : Int) ≤ gen3))) (K [(0, .pointer d0), (1, .int .i64 base1), (2, .int .i64 pages2), (3, .int .i64 gen3), (10, .bool true)]) (cnd ((decide (base1 < (0 : Int)))) (K [(0, .pointer d0), (1, .int .i64 base1), (2, .int .i64 pages2), (3, .int .i64 gen3), (10, .bool true)]) (cnd ((decide (pages2 < (1 : Int)))) (K [(0, .pointer d0), (1, .int .i64 base1), (2, .int .i64 pages2), (3, .int .i64 gen3), (10, .bool true)]) (K [(0, .pointer d0), (1, .int .i64 base1), (2, .int .i64 pages2), (3, .int .i64 gen3), (10, .bool ((decide ((200 : Int) < pages2))))])))))) := by kernel_rfl
@[go_sem] theorem c51_r2 (K : Env → W) : RP c51 2 [] K =
    (K [(8, .pointer none), (9, .int .i64 ((1 : Int)))]) := by kernel_rfl
@[go_sem] theorem c51_r3 (d0 : Option Addr) (base1 : Int) (pages2 : Int) (gen3 : Int) (K : Env → W) : RP c51 3 [(0, .pointer d0), (1, .int .i64 base1), (2, .int .i64 pages2), (3, .int .i64 gen3)] K =
    (cal eI Try.prog 26 #[.pointer d0] fun (y1_ : Int) => (cnd ((decide (y1_ < base1))) (K [(0, .pointer d0), (1, .int .i64 base1), (2, .int .i64 pages2), (3, .int .i64 gen3), (33, .bool true)]) (cal eI Try.prog 26 #[.pointer d0] fun (y2_ : Int) => (K [(0, .pointer d0), (1, .int .i64 base1), (2, .int .i64 pages2), (3, .int .i64 gen3), (33, .bool ((decide ((IntKind.wrap .i64 (y2_ - base1)) < (IntKind.wrap .i64 (pages2 * (4 : Int)))))))])))) := by kernel_rfl
@[go_sem] theorem c51_r4 (K : Env → W) : RP c51 4 [] K =
    (K [(8, .pointer none), (9, .int .i64 ((6 : Int)))]) := by kernel_rfl
@[go_sem] theorem c51_r5 (d0 : Option Addr) (base1 : Int) (pages2 : Int) (gen3 : Int) (K : Env → W) : RP c51 5 [(0, .pointer d0), (1, .int .i64 base1), (2, .int .i64 pages2), (3, .int .i64 gen3)] K =
    (nwc #[.pointer (((⟨d0, base1, pages2, gen3⟩ : store_Store)).disk), .int .i64 (((⟨d0, base1, pages2, gen3⟩ : store_Store)).base), .int .i64 (((⟨d0, base1, pages2, gen3⟩ : store_Store)).pages), .int .i64 (((⟨d0, base1, pages2, gen3⟩ : store_Store)).gen)] 124 fun y1_ => (K [(8, .pointer (some y1_)), (9, .int .i64 ((0 : Int)))])) := by kernel_rfl
@[go_sem] theorem c51_o : c51.lo 1000000 = [8, 9] := rfl
@[go_sem] theorem c51_e (t8 : Option Addr) (t9 : Int) (k : Value → W) : RTp c51 [(8, .pointer t8), (9, .int .i64 t9)] k = (k (.tuple #[.pointer t8, .int .i64 t9])) := by kernel_rfl
theorem c51_ok : (c51.P.follows .mixedOrders && okc c51 c51.body) = true := by kernel_rfl
theorem c51_fn {e : Enc} {args : Array Value} {G : e.α → W} {L : List HP} {ρ : Env} (hρ : envA 0 args.toList = ρ) (hs : Nat.ble args.size 53 = true) (h : E L (D c51 (.seq (.reg 0) (.seq (.block 0 (.seq (.reg 1) (.cond (.tmp 10) (.seq (.reg 2) (.ret)) (.seq (.reg 3) (.cond (.tmp 33) (.seq (.reg 4) (.ret)) (.skip)))))) (.seq (.reg 5) (.ret)))) (fnQ c51 e G) ρ)) : E L (cal e Try.prog 51 args G) :=
  d_fn (c := c51) Try.func51 (by kernel_rfl) (by kernel_rfl) (by kernel_rfl) c51_ok (by kernel_rfl) (by kernel_rfl) hρ hs h
/-! (*gharry.store.Store).Is -/
noncomputable def c53 : Cfg := { P := Try.prog, n := 24, T := TT, body := (Try.f53.body).getD .skip, res := Try.f53.results.toList, li := lk [] [(0, [0, 1, 2]), (1, [0, 1, 2]), (2, [2, 8, 9])], lo := lk [] [(0, [0, 1, 2]), (1, [2, 8, 9]), (2, [6]), (1000000, [6])], ord := lk (false, []) [] }
@[go_sem] theorem c53_i0 : c53.li 0 = [0, 1, 2] := rfl
@[go_sem] theorem c53_i1 : c53.li 1 = [0, 1, 2] := rfl
@[go_sem] theorem c53_i2 : c53.li 2 = [2, 8, 9] := rfl
@[go_sem] theorem c53_r0 (s0 : Option Addr) (id1 : Int) (lsn2 : Int) (K : Env → W) : RP c53 0 [(0, .pointer s0), (1, .int .i64 id1), (2, .int .i64 lsn2)] K =
    (K [(0, .pointer s0), (1, .int .i64 id1), (2, .int .i64 lsn2)]) := by kernel_rfl
@[go_sem] theorem c53_r1 (s0 : Option Addr) (id1 : Int) (lsn2 : Int) (K : Env → W) : RP c53 1 [(0, .pointer s0), (1, .int .i64 id1), (2, .int .i64 lsn2)] K =
    (cal (eT3 eS eI eI) Try.prog 49 #[.pointer s0, .int .i64 id1] fun (y1_ : ((List UInt8) × Int × Int)) => (K [(2, .int .i64 lsn2), (8, .int .i64 y1_.2.1), (9, .int .i64 y1_.2.2)])) := by kernel_rfl
@[go_sem] theorem c53_r2 (lsn2 : Int) (n8 : Int) (e9 : Int) (K : Env → W) : RP c53 2 [(2, .int .i64 lsn2), (8, .int .i64 n8), (9, .int .i64 e9)] K =
    (cnd ((e9 == (0 : Int))) (K [(6, .bool ((n8 == lsn2)))]) (K [(6, .bool false)])) := by kernel_rfl
@[go_sem] theorem c53_o : c53.lo 1000000 = [6] := rfl
@[go_sem] theorem c53_e (t6 : Bool) (k : Value → W) : RTp c53 [(6, .bool t6)] k = (k (.bool t6)) := by kernel_rfl
theorem c53_ok : (c53.P.follows .mixedOrders && okc c53 c53.body) = true := by kernel_rfl
theorem c53_fn {e : Enc} {args : Array Value} {G : e.α → W} {L : List HP} {ρ : Env} (hρ : envA 0 args.toList = ρ) (hs : Nat.ble args.size 24 = true) (h : E L (D c53 (.seq (.reg 0) (.seq (.reg 1) (.seq (.reg 2) (.ret)))) (fnQ c53 e G) ρ)) : E L (cal e Try.prog 53 args G) :=
  d_fn (c := c53) Try.func53 (by kernel_rfl) (by kernel_rfl) (by kernel_rfl) c53_ok (by kernel_rfl) (by kernel_rfl) hρ hs h
/-! (*gharry.store.Store).Pages -/
noncomputable def c57 : Cfg := { P := Try.prog, n := 9, T := TT, body := (Try.f57.body).getD .skip, res := Try.f57.results.toList, li := lk [] [(0, [0]), (1, [0]), (2, []), (3, [0])], lo := lk [] [(0, [0]), (1, [0, 4]), (2, [2]), (3, [2]), (1000000, [2])], ord := lk (false, []) [] }
@[go_sem] theorem c57_i0 : c57.li 0 = [0] := rfl
@[go_sem] theorem c57_i1 : c57.li 1 = [0] := rfl
@[go_sem] theorem c57_i2 : c57.li 2 = [] := rfl
@[go_sem] theorem c57_i3 : c57.li 3 = [0] := rfl
@[go_sem] theorem c57_r0 (s0 : Option Addr) (K : Env → W) : RP c57 0 [(0, .pointer s0)] K =
    (K [(0, .pointer s0)]) := by kernel_rfl
@[go_sem] theorem c57_r1 (s0 : Option Addr) (K : Env → W) : RP c57 1 [(0, .pointer s0)] K =
    (K [(0, .pointer s0), (4, .bool ((s0).isNone))]) := by kernel_rfl
@[go_sem] theorem c57_r2 (K : Env → W) : RP c57 2 [] K =
    (K [(2, .int .i64 ((0 : Int)))]) := by kernel_rfl
@[go_sem] theorem c57_r3 (s0 : Option Addr) (K : Env → W) : RP c57 3 [(0, .pointer s0)] K =
    (nn s0 fun y1_ => (ld eI ((y1_.add 2)) fun (y2_ : Int) => (K [(2, .int .i64 y2_)]))) := by kernel_rfl
@[go_sem] theorem c57_o : c57.lo 1000000 = [2] := rfl
@[go_sem] theorem c57_e (t2 : Int) (k : Value → W) : RTp c57 [(2, .int .i64 t2)] k = (k (.int .i64 t2)) := by kernel_rfl
theorem c57_ok : (c57.P.follows .mixedOrders && okc c57 c57.body) = true := by kernel_rfl
theorem c57_fn {e : Enc} {args : Array Value} {G : e.α → W} {L : List HP} {ρ : Env} (hρ : envA 0 args.toList = ρ) (hs : Nat.ble args.size 9 = true) (h : E L (D c57 (.seq (.reg 0) (.seq (.seq (.reg 1) (.cond (.tmp 4) (.seq (.reg 2) (.ret)) (.skip))) (.seq (.reg 3) (.ret)))) (fnQ c57 e G) ρ)) : E L (cal e Try.prog 57 args G) :=
  d_fn (c := c57) Try.func57 (by kernel_rfl) (by kernel_rfl) (by kernel_rfl) c57_ok (by kernel_rfl) (by kernel_rfl) hρ hs h
/-! (*gharry.store.Store).Gen -/
noncomputable def c58 : Cfg := { P := Try.prog, n := 9, T := TT, body := (Try.f58.body).getD .skip, res := Try.f58.results.toList, li := lk [] [(0, [0]), (1, [0]), (2, []), (3, [0])], lo := lk [] [(0, [0]), (1, [0, 4]), (2, [2]), (3, [2]), (1000000, [2])], ord := lk (false, []) [] }
@[go_sem] theorem c58_i0 : c58.li 0 = [0] := rfl
@[go_sem] theorem c58_i1 : c58.li 1 = [0] := rfl
@[go_sem] theorem c58_i2 : c58.li 2 = [] := rfl
@[go_sem] theorem c58_i3 : c58.li 3 = [0] := rfl
@[go_sem] theorem c58_r0 (s0 : Option Addr) (K : Env → W) : RP c58 0 [(0, .pointer s0)] K =
    (K [(0, .pointer s0)]) := by kernel_rfl
@[go_sem] theorem c58_r1 (s0 : Option Addr) (K : Env → W) : RP c58 1 [(0, .pointer s0)] K =
    (K [(0, .pointer s0), (4, .bool ((s0).isNone))]) := by kernel_rfl
@[go_sem] theorem c58_r2 (K : Env → W) : RP c58 2 [] K =
    (K [(2, .int .i64 ((0 : Int)))]) := by kernel_rfl
@[go_sem] theorem c58_r3 (s0 : Option Addr) (K : Env → W) : RP c58 3 [(0, .pointer s0)] K =
    (nn s0 fun y1_ => (ld eI ((y1_.add 3)) fun (y2_ : Int) => (K [(2, .int .i64 y2_)]))) := by kernel_rfl
@[go_sem] theorem c58_o : c58.lo 1000000 = [2] := rfl
@[go_sem] theorem c58_e (t2 : Int) (k : Value → W) : RTp c58 [(2, .int .i64 t2)] k = (k (.int .i64 t2)) := by kernel_rfl
theorem c58_ok : (c58.P.follows .mixedOrders && okc c58 c58.body) = true := by kernel_rfl
theorem c58_fn {e : Enc} {args : Array Value} {G : e.α → W} {L : List HP} {ρ : Env} (hρ : envA 0 args.toList = ρ) (hs : Nat.ble args.size 9 = true) (h : E L (D c58 (.seq (.reg 0) (.seq (.seq (.reg 1) (.cond (.tmp 4) (.seq (.reg 2) (.ret)) (.skip))) (.seq (.reg 3) (.ret)))) (fnQ c58 e G) ρ)) : E L (cal e Try.prog 58 args G) :=
  d_fn (c := c58) Try.func58 (by kernel_rfl) (by kernel_rfl) (by kernel_rfl) c58_ok (by kernel_rfl) (by kernel_rfl) hρ hs h
/-! (*gharry.store.Store).check -/
noncomputable def c82 : Cfg := { P := Try.prog, n := 26, T := TT, body := (Try.f82.body).getD .skip, res := Try.f82.results.toList, li := lk [] [(0, [0, 1]), (1, [0, 1]), (2, []), (3, [0, 1]), (4, []), (5, [])], lo := lk [] [(0, [0, 1]), (1, [0, 1, 5]), (2, [4]), (3, [15]), (4, [4]), (5, [4]), (1000000, [4])], ord := lk (false, []) [] }
@[go_sem] theorem c82_i0 : c82.li 0 = [0, 1] := rfl
@[go_sem] theorem c82_i1 : c82.li 1 = [0, 1] := rfl
@[go_sem] theorem c82_i2 : c82.li 2 = [] := rfl
@[go_sem] theorem c82_i3 : c82.li 3 = [0, 1] := rfl
@[go_sem] theorem c82_i4 : c82.li 4 = [] := rfl
@[go_sem] theorem c82_i5 : c82.li 5 = [] := rfl
@[go_sem] theorem c82_r0 (s0 : Option Addr) (id1 : Int) (K : Env → W) : RP c82 0 [(0, .pointer s0), (1, .int .i64 id1)] K =
    (K [(0, .pointer s0), (1, .int .i64 id1)]) := by kernel_rfl
@[go_sem] theorem c82_r1 (s0 : Option Addr) (id1 : Int) (K : Env → W) : RP c82 1 [(0, .pointer s0), (1, .int .i64 id1)] K =
    (cnd ((s0).isNone) (K [(0, .pointer s0), (1, .int .i64 id1), (5, .bool true)]) (nn s0 fun y1_ => (ld eP y1_ fun (y2_ : Option Addr) => (K [(0, .pointer s0), (1, .int .i64 id1), (5, .bool ((y2_).isNone))])))) := by kernel_rfl
@[go_sem] theorem c82_r2 (K : Env → W) : RP c82 2 [] K =
    (K [(4, .int .i64 ((11 : Int)))]) := by kernel_rfl
@[go_sem] theorem c82_r3 (s0 : Option Addr) (id1 : Int) (K : Env → W) : RP c82 3 [(0, .pointer s0), (1, .int .i64 id1)] K =
    (cnd ((decide (id1 < (0 : Int)))) (K [(15, .bool true)]) (nn s0 fun y1_ => (ld eI ((y1_.add 2)) fun (y2_ : Int) => (K [(15, .bool ((decide (y2_ ≤ id1))))])))) := by kernel_rfl
@[go_sem] theorem c82_r4 (K : Env → W) : RP c82 4 [] K =
    (K [(4, .int .i64 ((6 : Int)))]) := by kernel_rfl
@[go_sem] theorem c82_r5 (K : Env → W) : RP c82 5 [] K =
    (K [(4, .int .i64 ((0 : Int)))]) := by kernel_rfl
@[go_sem] theorem c82_o : c82.lo 1000000 = [4] := rfl
@[go_sem] theorem c82_e (t4 : Int) (k : Value → W) : RTp c82 [(4, .int .i64 t4)] k = (k (.int .i64 t4)) := by kernel_rfl
theorem c82_ok : (c82.P.follows .mixedOrders && okc c82 c82.body) = true := by kernel_rfl
theorem c82_fn {e : Enc} {args : Array Value} {G : e.α → W} {L : List HP} {ρ : Env} (hρ : envA 0 args.toList = ρ) (hs : Nat.ble args.size 26 = true) (h : E L (D c82 (.seq (.reg 0) (.seq (.block 0 (.seq (.reg 1) (.cond (.tmp 5) (.seq (.reg 2) (.ret)) (.seq (.reg 3) (.cond (.tmp 15) (.seq (.reg 4) (.ret)) (.skip)))))) (.seq (.reg 5) (.ret)))) (fnQ c82 e G) ρ)) : E L (cal e Try.prog 82 args G) :=
  d_fn (c := c82) Try.func82 (by kernel_rfl) (by kernel_rfl) (by kernel_rfl) c82_ok (by kernel_rfl) (by kernel_rfl) hρ hs h
/-! (*gharry.store.Store).mark -/
noncomputable def c83 : Cfg := { P := Try.prog, n := 21, T := TT, body := (Try.f83.body).getD .skip, res := Try.f83.results.toList, li := lk [] [(0, [0, 1]), (1, [0, 1]), (2, [1, 6])], lo := lk [] [(0, [0, 1]), (1, [1, 6]), (2, [4, 5]), (1000000, [4, 5])], ord := lk (false, []) [] }
@[go_sem] theorem c83_i0 : c83.li 0 = [0, 1] := rfl
@[go_sem] theorem c83_i1 : c83.li 1 = [0, 1] := rfl
@[go_sem] theorem c83_i2 : c83.li 2 = [1, 6] := rfl
@[go_sem] theorem c83_r0 (s0 : Option Addr) (lsn1 : Int) (K : Env → W) : RP c83 0 [(0, .pointer s0), (1, .int .i64 lsn1)] K =
    (K [(0, .pointer s0), (1, .int .i64 lsn1)]) := by kernel_rfl
@[go_sem] theorem c83_r1 (s0 : Option Addr) (lsn1 : Int) (K : Env → W) : RP c83 1 [(0, .pointer s0), (1, .int .i64 lsn1)] K =
    (nn s0 fun y1_ => (ld eI ((y1_.add 3)) fun (y2_ : Int) => (cal (eT2 eS eI) Try.prog 97 #[str (([] : List UInt8)), .int .i64 y2_, .int .i64 ((2 : Int))] fun (y3_ : ((List UInt8) × Int)) => (K [(1, .int .i64 lsn1), (6, str y3_.1)])))) := by kernel_rfl
@[go_sem] theorem c83_r2 (lsn1 : Int) (out6 : List UInt8) (K : Env → W) : RP c83 2 [(1, .int .i64 lsn1), (6, str out6)] K =
    (cal (eT2 eS eI) Try.prog 97 #[str out6, .int .i64 lsn1, .int .i64 ((6 : Int))] fun (y1_ : ((List UInt8) × Int)) => (K [(4, str y1_.1), (5, .int .i64 y1_.2)])) := by kernel_rfl
@[go_sem] theorem c83_o : c83.lo 1000000 = [4, 5] := rfl
@[go_sem] theorem c83_e (t4 : List UInt8) (t5 : Int) (k : Value → W) : RTp c83 [(4, str t4), (5, .int .i64 t5)] k = (k (.tuple #[str t4, .int .i64 t5])) := by kernel_rfl
theorem c83_ok : (c83.P.follows .mixedOrders && okc c83 c83.body) = true := by kernel_rfl
theorem c83_fn {e : Enc} {args : Array Value} {G : e.α → W} {L : List HP} {ρ : Env} (hρ : envA 0 args.toList = ρ) (hs : Nat.ble args.size 21 = true) (h : E L (D c83 (.seq (.reg 0) (.seq (.reg 1) (.seq (.reg 2) (.ret)))) (fnQ c83 e G) ρ)) : E L (cal e Try.prog 83 args G) :=
  d_fn (c := c83) Try.func83 (by kernel_rfl) (by kernel_rfl) (by kernel_rfl) c83_ok (by kernel_rfl) (by kernel_rfl) hρ hs h
end Go.Sp
/- What each region of the Go functions does. Written by my own generator. -/
namespace Go.Sp
open Go
set_option maxRecDepth 100000
set_option linter.unusedVariables false
open Go.Proofs
/-! gharry.gharrylaw06.made -/
noncomputable def c45 : Cfg := { P := Try.prog, n := 24, T := TT, body := (Try.f45.body).getD .skip, res := Try.f45.results.toList, li := lk [] [(0, [0]), (1, [0]), (2, [0, 4, 5]), (3, []), (4, [0, 4]), (5, [4, 6, 7]), (6, []), (7, [4, 6])], lo := lk [] [(0, [0]), (1, [0, 4, 5]), (2, [0, 4, 13]), (3, [2, 3]), (4, [4, 6, 7]), (5, [4, 6, 21]), (6, [2, 3]), (7, [2, 3]), (1000000, [2, 3])], ord := lk (false, []) [] }
@[go_sem] theorem c45_i0 : c45.li 0 = [0] := rfl
@[go_sem] theorem c45_i1 : c45.li 1 = [0] := rfl
@[go_sem] theorem c45_i2 : c45.li 2 = [0, 4, 5] := rfl
@[go_sem] theorem c45_i3 : c45.li 3 = [] := rfl
@[go_sem] theorem c45_i4 : c45.li 4 = [0, 4] := rfl
@[go_sem] theorem c45_i5 : c45.li 5 = [4, 6, 7] := rfl
@[go_sem] theorem c45_i6 : c45.li 6 = [] := rfl
@[go_sem] theorem c45_i7 : c45.li 7 = [4, 6] := rfl
@[go_sem] theorem c45_r0 (gen0 : Int) (K : Env → W) : RP c45 0 [(0, .int .i64 gen0)] K =
    (K [(0, .int .i64 gen0)]) := by kernel_rfl
@[go_sem] theorem c45_r1 (gen0 : Int) (K : Env → W) : RP c45 1 [(0, .int .i64 gen0)] K =
    (cal (eT2 eP eI) Try.prog 25 #[.int .i64 ((40 : Int))] fun (y1_ : ((Option Addr) × Int)) => (K [(0, .int .i64 gen0), (4, .pointer y1_.1), (5, .int .i64 y1_.2)])) := by kernel_rfl
@[go_sem] theorem c45_r2 (gen0 : Int) (d4 : Option Addr) (e5 : Int) (K : Env → W) : RP c45 2 [(0, .int .i64 gen0), (4, .pointer d4), (5, .int .i64 e5)] K =
    (K [(0, .int .i64 gen0), (4, .pointer d4), (13, .bool ((e5 != (0 : Int))))]) := by kernel_rfl
@[go_sem] theorem c45_r3 (K : Env → W) : RP c45 3 [] K =
    (K [(2, .pointer none), (3, .pointer none)]) := by kernel_rfl
@[go_sem] theorem c45_r4 (gen0 : Int) (d4 : Option Addr) (K : Env → W) : RP c45 4 [(0, .int .i64 gen0), (4, .pointer d4)] K =
    (cal (eT2 eP eI) Try.prog 51 #[.pointer d4, .int .i64 ((5 : Int)), .int .i64 ((8 : Int)), .int .i64 gen0] fun (y1_ : ((Option Addr) × Int)) => (K [(4, .pointer d4), (6, .pointer y1_.1), (7, .int .i64 y1_.2)])) := by kernel_rfl
@[go_sem] theorem c45_r5 (d4 : Option Addr) (s6 : Option Addr) (f7 : Int) (K : Env → W) : RP c45 5 [(4, .pointer d4), (6, .pointer s6), (7, .int .i64 f7)] K =
    (K [(4, .pointer d4), (6, .pointer s6), (21, .bool ((f7 != (0 : Int))))]) := by kernel_rfl
@[go_sem] theorem c45_r6 (K : Env → W) : RP c45 6 [] K =
    (K [(2, .pointer none), (3, .pointer none)]) := by kernel_rfl
@[go_sem] theorem c45_r7 (d4 : Option Addr) (s6 : Option Addr) (K : Env → W) : RP c45 7 [(4, .pointer d4), (6, .pointer s6)] K =
    (K [(2, .pointer d4), (3, .pointer s6)]) := by kernel_rfl
@[go_sem] theorem c45_o : c45.lo 1000000 = [2, 3] := rfl
@[go_sem] theorem c45_e (t2 : Option Addr) (t3 : Option Addr) (k : Value → W) : RTp c45 [(2, .pointer t2), (3, .pointer t3)] k = (k (.tuple #[.pointer t2, .pointer t3])) := by kernel_rfl
theorem c45_ok : (c45.P.follows .mixedOrders && okc c45 c45.body) = true := by kernel_rfl
theorem c45_fn {e : Enc} {args : Array Value} {G : e.α → W} {L : List HP} {ρ : Env} (hρ : envA 0 args.toList = ρ) (hs : Nat.ble args.size 24 = true) (h : E L (D c45 (.seq (.reg 0) (.seq (.reg 1) (.seq (.seq (.reg 2) (.cond (.tmp 13) (.seq (.reg 3) (.ret)) (.skip))) (.seq (.reg 4) (.seq (.seq (.reg 5) (.cond (.tmp 21) (.seq (.reg 6) (.ret)) (.skip))) (.seq (.reg 7) (.ret))))))) (fnQ c45 e G) ρ)) : E L (cal e Try.prog 45 args G) :=
  d_fn (c := c45) Try.func45 (by kernel_rfl) (by kernel_rfl) (by kernel_rfl) c45_ok (by kernel_rfl) (by kernel_rfl) hρ hs h
/-! gharry.gharrylaw06.fill -/
noncomputable def c47 : Cfg := { P := Try.prog, n := 18, T := TT, body := (Try.f47.body).getD .skip, res := Try.f47.results.toList, li := lk [] [(0, [0]), (1, [0]), (2, [0, 3]), (3, [0, 3, 4]), (4, [0, 3, 4]), (5, [0, 3, 4]), (6, [3])], lo := lk [] [(0, [0]), (1, [0, 3]), (2, [0, 3, 4]), (3, [0, 3, 4, 9]), (4, [0, 3, 4]), (5, [0, 3, 4]), (6, [2]), (1000000, [2])], ord := lk (false, []) [] }
@[go_sem] theorem c47_i0 : c47.li 0 = [0] := rfl
@[go_sem] theorem c47_i1 : c47.li 1 = [0] := rfl
@[go_sem] theorem c47_i2 : c47.li 2 = [0, 3] := rfl
@[go_sem] theorem c47_i3 : c47.li 3 = [0, 3, 4] := rfl
@[go_sem] theorem c47_i4 : c47.li 4 = [0, 3, 4] := rfl
@[go_sem] theorem c47_i5 : c47.li 5 = [0, 3, 4] := rfl
@[go_sem] theorem c47_i6 : c47.li 6 = [3] := rfl
@[go_sem] theorem c47_r0 (c0 : Int) (K : Env → W) : RP c47 0 [(0, .int .u8 c0)] K =
    (K [(0, .int .u8 c0)]) := by kernel_rfl
@[go_sem] theorem c47_r1 (c0 : Int) (K : Env → W) : RP c47 1 [(0, .int .u8 c0)] K =
    (val eSl Try.prog (oMake 125 (.int .i64 ((224 : Int))) (.int .i64 ((224 : Int)))) fun (y1_ : (Option Addr × Nat × Nat)) => (K [(0, .int .u8 c0), (3, .slice y1_.1 y1_.2.1 y1_.2.2)])) := by kernel_rfl
@[go_sem] theorem c47_r2 (c0 : Int) (b3p : Option Addr) (b3n b3c : Nat) (K : Env → W) : RP c47 2 [(0, .int .u8 c0), (3, .slice b3p b3n b3c)] K =
    (K [(0, .int .u8 c0), (3, .slice b3p b3n b3c), (4, .int .i64 ((0 : Int)))]) := by kernel_rfl
@[go_sem] theorem c47_r3 (c0 : Int) (b3p : Option Addr) (b3n b3c : Nat) (i4 : Int) (K : Env → W) : RP c47 3 [(0, .int .u8 c0), (3, .slice b3p b3n b3c), (4, .int .i64 i4)] K =
    (K [(0, .int .u8 c0), (3, .slice b3p b3n b3c), (4, .int .i64 i4), (9, .bool ((decide (i4 < (b3n : Int)))))]) := by kernel_rfl
@[go_sem] theorem c47_r4 (c0 : Int) (b3p : Option Addr) (b3n b3c : Nat) (i4 : Int) (K : Env → W) : RP c47 4 [(0, .int .u8 c0), (3, .slice b3p b3n b3c), (4, .int .i64 i4)] K =
    (K [(0, .int .u8 c0), (3, .slice b3p b3n b3c), (4, .int .i64 ((IntKind.wrap .i64 (i4 + (1 : Int)))))]) := by kernel_rfl
@[go_sem] theorem c47_r5 (c0 : Int) (b3p : Option Addr) (b3n b3c : Nat) (i4 : Int) (K : Env → W) : RP c47 5 [(0, .int .u8 c0), (3, .slice b3p b3n b3c), (4, .int .i64 i4)] K =
    (rq (0 ≤ i4 ∧ i4 < (b3n : Int)) (nn b3p fun y1_ => (st ((Addr.add y1_ ((i4).toNat * 1))) (.int .u8 c0) (K [(0, .int .u8 c0), (3, .slice b3p b3n b3c), (4, .int .i64 i4)])))) := by kernel_rfl
@[go_sem] theorem c47_r6 (b3p : Option Addr) (b3n b3c : Nat) (K : Env → W) : RP c47 6 [(3, .slice b3p b3n b3c)] K =
    (val eS Try.prog (oConv 125 9 (.slice b3p b3n b3c)) fun (y1_ : List UInt8) => (K [(2, str y1_)])) := by kernel_rfl
@[go_sem] theorem c47_o : c47.lo 1000000 = [2] := rfl
@[go_sem] theorem c47_e (t2 : List UInt8) (k : Value → W) : RTp c47 [(2, str t2)] k = (k (str t2)) := by kernel_rfl
theorem c47_ok : (c47.P.follows .mixedOrders && okc c47 c47.body) = true := by kernel_rfl
theorem c47_fn {e : Enc} {args : Array Value} {G : e.α → W} {L : List HP} {ρ : Env} (hρ : envA 0 args.toList = ρ) (hs : Nat.ble args.size 18 = true) (h : E L (D c47 (.seq (.reg 0) (.seq (.reg 1) (.seq (.seq (.reg 2) (.block 0 (.loop (.seq (.seq (.reg 3) (.cond (.tmp 9) (.skip) (.exit 0))) (.seq (.block 1 (.reg 5)) (.reg 4)))))) (.seq (.reg 6) (.ret))))) (fnQ c47 e G) ρ)) : E L (cal e Try.prog 47 args G) :=
  d_fn (c := c47) Try.func47 (by kernel_rfl) (by kernel_rfl) (by kernel_rfl) c47_ok (by kernel_rfl) (by kernel_rfl) hρ hs h
-- loop (first region 3): live slots 0:c0 3:b3 4:i4, of which it writes [4]
/-! gharry.gharrylaw06.awake -/
noncomputable def c50 : Cfg := { P := Try.prog, n := 71, T := TT, body := (Try.f50.body).getD .skip, res := Try.f50.results.toList, li := lk [] [(0, []), (1, []), (2, [1, 2]), (3, []), (4, [1, 2]), (5, [1, 2, 3, 4, 5]), (6, []), (7, [2]), (8, [8])], lo := lk [] [(0, []), (1, [1, 2]), (2, [1, 2, 35]), (3, [0]), (4, [1, 2, 3, 4, 5]), (5, [2, 62]), (6, [0]), (7, [8]), (8, [0]), (1000000, [0])], ord := lk (false, []) [] }
@[go_sem] theorem c50_i0 : c50.li 0 = [] := rfl
@[go_sem] theorem c50_i1 : c50.li 1 = [] := rfl
@[go_sem] theorem c50_i2 : c50.li 2 = [1, 2] := rfl
@[go_sem] theorem c50_i3 : c50.li 3 = [] := rfl
@[go_sem] theorem c50_i4 : c50.li 4 = [1, 2] := rfl
@[go_sem] theorem c50_i5 : c50.li 5 = [1, 2, 3, 4, 5] := rfl
@[go_sem] theorem c50_i6 : c50.li 6 = [] := rfl
@[go_sem] theorem c50_i7 : c50.li 7 = [2] := rfl
@[go_sem] theorem c50_i8 : c50.li 8 = [8] := rfl
@[go_sem] theorem c50_r0 (K : Env → W) : RP c50 0 [] K =
    (K []) := by kernel_rfl
@[go_sem] theorem c50_r1 (K : Env → W) : RP c50 1 [] K =
    (cal (eT2 eP eP) Try.prog 45 #[.int .i64 ((1 : Int))] fun (y1_ : ((Option Addr) × (Option Addr))) => (K [(1, .pointer y1_.1), (2, .pointer y1_.2)])) := by kernel_rfl
@[go_sem] theorem c50_r2 (d1 : Option Addr) (s2 : Option Addr) (K : Env → W) : RP c50 2 [(1, .pointer d1), (2, .pointer s2)] K =
    (cnd ((d1).isNone) (K [(1, .pointer d1), (2, .pointer s2), (35, .bool true)]) (cnd ((s2).isNone) (K [(1, .pointer d1), (2, .pointer s2), (35, .bool true)]) (cal eS Try.prog 47 #[.int .u8 ((1 : Int))] fun (y1_ : List UInt8) => (cal eI Try.prog 46 #[.pointer s2, .int .i64 ((0 : Int)), str y1_, .int .i64 ((7 : Int))] fun (y2_ : Int) => (cnd ((y2_ != (0 : Int))) (K [(1, .pointer d1), (2, .pointer s2), (35, .bool true)]) (cal eI Try.prog 48 #[.pointer s2] fun (y3_ : Int) => (cnd ((y3_ != (0 : Int))) (K [(1, .pointer d1), (2, .pointer s2), (35, .bool true)]) (cal eS Try.prog 47 #[.int .u8 ((2 : Int))] fun (y4_ : List UInt8) => (cal eI Try.prog 46 #[.pointer s2, .int .i64 ((0 : Int)), str y4_, .int .i64 ((8 : Int))] fun (y5_ : Int) => (K [(1, .pointer d1), (2, .pointer s2), (35, .bool ((y5_ != (0 : Int))))])))))))))) := by kernel_rfl
@[go_sem] theorem c50_r3 (K : Env → W) : RP c50 3 [] K =
    (K [(0, .bool false)]) := by kernel_rfl
@[go_sem] theorem c50_r4 (d1 : Option Addr) (s2 : Option Addr) (K : Env → W) : RP c50 4 [(1, .pointer d1), (2, .pointer s2)] K =
    (cal (eT3 eS eI eI) Try.prog 49 #[.pointer s2, .int .i64 ((0 : Int))] fun (y1_ : ((List UInt8) × Int × Int)) => (K [(1, .pointer d1), (2, .pointer s2), (3, str y1_.1), (4, .int .i64 y1_.2.1), (5, .int .i64 y1_.2.2)])) := by kernel_rfl
@[go_sem] theorem c50_r5 (d1 : Option Addr) (s2 : Option Addr) (p3 : List UInt8) (n4 : Int) (e5 : Int) (K : Env → W) : RP c50 5 [(1, .pointer d1), (2, .pointer s2), (3, str p3), (4, .int .i64 n4), (5, .int .i64 e5)] K =
    (cal eS Try.prog 47 #[.int .u8 ((2 : Int))] fun (y1_ : List UInt8) => (cnd ((!(p3 == y1_))) (K [(2, .pointer s2), (62, .bool true)]) (cnd ((n4 != (8 : Int))) (K [(2, .pointer s2), (62, .bool true)]) (cnd ((e5 != (0 : Int))) (K [(2, .pointer s2), (62, .bool true)]) (cal eI Try.prog 29 #[.pointer d1, .int .u64 ((5 : Int))] fun (y2_ : Int) => (cnd ((y2_ != (0 : Int))) (K [(2, .pointer s2), (62, .bool true)]) (cal eI Try.prog 30 #[.pointer d1] fun (y3_ : Int) => (K [(2, .pointer s2), (62, .bool ((y3_ != (0 : Int))))])))))))) := by kernel_rfl
@[go_sem] theorem c50_r6 (K : Env → W) : RP c50 6 [] K =
    (K [(0, .bool false)]) := by kernel_rfl
@[go_sem] theorem c50_r7 (s2 : Option Addr) (K : Env → W) : RP c50 7 [(2, .pointer s2)] K =
    (cal (eT3 eS eI eI) Try.prog 49 #[.pointer s2, .int .i64 ((0 : Int))] fun (y1_ : ((List UInt8) × Int × Int)) => (K [(8, .int .i64 y1_.2.2)])) := by kernel_rfl
@[go_sem] theorem c50_r8 (f8 : Int) (K : Env → W) : RP c50 8 [(8, .int .i64 f8)] K =
    (K [(0, .bool ((f8 == (10 : Int))))]) := by kernel_rfl
@[go_sem] theorem c50_o : c50.lo 1000000 = [0] := rfl
@[go_sem] theorem c50_e (t0 : Bool) (k : Value → W) : RTp c50 [(0, .bool t0)] k = (k (.bool t0)) := by kernel_rfl
theorem c50_ok : (c50.P.follows .mixedOrders && okc c50 c50.body) = true := by kernel_rfl
theorem c50_fn {e : Enc} {args : Array Value} {G : e.α → W} {L : List HP} {ρ : Env} (hρ : envA 0 args.toList = ρ) (hs : Nat.ble args.size 71 = true) (h : E L (D c50 (.seq (.reg 0) (.seq (.reg 1) (.seq (.seq (.reg 2) (.cond (.tmp 35) (.seq (.reg 3) (.ret)) (.skip))) (.seq (.reg 4) (.seq (.seq (.reg 5) (.cond (.tmp 62) (.seq (.reg 6) (.ret)) (.skip))) (.seq (.reg 7) (.seq (.reg 8) (.ret)))))))) (fnQ c50 e G) ρ)) : E L (cal e Try.prog 50 args G) :=
  d_fn (c := c50) Try.func50 (by kernel_rfl) (by kernel_rfl) (by kernel_rfl) c50_ok (by kernel_rfl) (by kernel_rfl) hρ hs h
end Go.Sp
