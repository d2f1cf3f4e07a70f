/- The base: starts; numbers that have no room. -/
import Derived.Test.YtpadmllpdkknnaaE9
namespace Go.Sp
open Go Go.Proofs
set_option linter.unusedSimpArgs false
set_option linter.unusedVariables false
set_option maxRecDepth 10000
def boot (x : base_Base) : base_Base := { x with Boot := IntKind.wrap .i64 (x.Boot + 1) }
def Dk.start (Z : Dk) : (base_Base × Int) × Dk :=
  if Z.load.2 = 0 then (if (Z.save (boot Z.load.1)).1 = 0 then ((boot Z.load.1, 0), (Z.save (boot Z.load.1)).2) else ((bz, (Z.save (boot Z.load.1)).1), (Z.save (boot Z.load.1)).2)) else ((bz, Z.load.2), Z)
theorem f59 (Z : Dk) (h : Z.ok) : Fq (eT2 e_base_Base eI) Try.prog 59 #[.pointer (some ⟨Z.sb, 0, none⟩)] [dk Z] [dk Z.start.2] Z.start.1 := by
  have F := f34 Z h
  have G := f44 Z h (boot Z.load.1)
  simp only [Dk.p] at F
  unfold Dk.start
  generalize Z.load = u at *
  obtain ⟨x, e⟩ := u
  dsimp only at F G ⊢
  by_cases h0 : e = 0
  · subst h0
    rw [if_pos rfl]
    by_cases h1 : (Z.save (boot x)).1 = 0
    · rw [h1] at G
      rw [if_pos h1]
      generalize (Z.save (boot x)).2 = U at *
      intro L
      refine c59_fn rfl rfl ?_
      repeat' ((fail_if_success with_reducible refine (id : E _ (ph _) → E _ (ph _)) ?_); first | ((with_reducible refine d_seq ?_); intro K hK) | ((with_reducible refine d_reg ?_); simp only [go_sem, Nat.reduceAdd, Nat.reduceEqDiff, Int.reduceToNat, Nat.reduceMul, Nat.reduceSub]) | ((first | ((with_reducible refine d_cnd ?_); refine And.intro ?_ ?_) | (with_reducible refine r_cnd ?_ ?_)); all_goals (intro hc; (try simp only [push_cast, Int.reduceEq, Int.reduceLT, Int.reduceLE, Int.reduceNe] at hc))) | ((with_reducible refine hK _ _ ?_); clear hK; clear K) | ((with_reducible first | refine d_blk ?_ | refine d_rt0 ?_ | refine d_sk0 ?_ | refine d_ex0 ?_); (try simp only [go_sem, Nat.reduceAdd, Nat.reduceEqDiff, Int.reduceToNat, Nat.reduceMul, Nat.reduceSub])) | (with_reducible refine r_rq (by first | decide | omega) ?_) | ((with_reducible refine r_nwc ?_); intro b) | ((with_reducible first | apply i_lds | apply i_ldsq | apply i_ld | apply i_ldq); exact rfl) | ((with_reducible first | apply i_ldn | apply i_ldnq); exact rfl; exact rfl; exact rfl) | (with_reducible first | refine r_ph0 ?_ | apply i_kp0) | ((with_reducible first | apply i_st | apply i_stl); (focus simp); exact rfl) | simp only [go_sem, Nat.reduceAdd, Nat.reduceEqDiff, Int.reduceToNat, Nat.reduceMul, Nat.reduceSub] | (clear hK; clear K))
      refine i_clp F ?_
      repeat' ((fail_if_success with_reducible refine (id : E _ (ph _) → E _ (ph _)) ?_); first | ((with_reducible refine d_seq ?_); intro K hK) | ((with_reducible refine d_reg ?_); simp only [go_sem, Nat.reduceAdd, Nat.reduceEqDiff, Int.reduceToNat, Nat.reduceMul, Nat.reduceSub]) | ((first | ((with_reducible refine d_cnd ?_); refine And.intro ?_ ?_) | (with_reducible refine r_cnd ?_ ?_)); all_goals (intro hc; (try simp only [push_cast, Int.reduceEq, Int.reduceLT, Int.reduceLE, Int.reduceNe] at hc))) | ((with_reducible refine hK _ _ ?_); clear hK; clear K) | ((with_reducible first | refine d_blk ?_ | refine d_rt0 ?_ | refine d_sk0 ?_ | refine d_ex0 ?_); (try simp only [go_sem, Nat.reduceAdd, Nat.reduceEqDiff, Int.reduceToNat, Nat.reduceMul, Nat.reduceSub])) | (with_reducible refine r_rq (by first | decide | omega) ?_) | ((with_reducible refine r_nwc ?_); intro b) | ((with_reducible first | apply i_lds | apply i_ldsq | apply i_ld | apply i_ldq); exact rfl) | ((with_reducible first | apply i_ldn | apply i_ldnq); exact rfl; exact rfl; exact rfl) | (with_reducible first | refine r_ph0 ?_ | apply i_kp0) | ((with_reducible first | apply i_st | apply i_stl); (focus simp); exact rfl) | simp only [go_sem, Nat.reduceAdd, Nat.reduceEqDiff, Int.reduceToNat, Nat.reduceMul, Nat.reduceSub] | (clear hK; clear K))
      all_goals try (first | contradiction | (simp only [ reduceCtorEq] at *; done) | (exfalso; omega))
      refine i_ldn (x := boot x) rfl rfl rfl ?_
      refine i_clq G ?_
      repeat' ((fail_if_success with_reducible refine (id : E _ (ph _) → E _ (ph _)) ?_); first | ((with_reducible refine d_seq ?_); intro K hK) | ((with_reducible refine d_reg ?_); simp only [go_sem, Nat.reduceAdd, Nat.reduceEqDiff, Int.reduceToNat, Nat.reduceMul, Nat.reduceSub]) | ((first | ((with_reducible refine d_cnd ?_); refine And.intro ?_ ?_) | (with_reducible refine r_cnd ?_ ?_)); all_goals (intro hc; (try simp only [push_cast, Int.reduceEq, Int.reduceLT, Int.reduceLE, Int.reduceNe] at hc))) | ((with_reducible refine hK _ _ ?_); clear hK; clear K) | ((with_reducible first | refine d_blk ?_ | refine d_rt0 ?_ | refine d_sk0 ?_ | refine d_ex0 ?_); (try simp only [go_sem, Nat.reduceAdd, Nat.reduceEqDiff, Int.reduceToNat, Nat.reduceMul, Nat.reduceSub])) | (with_reducible refine r_rq (by first | decide | omega) ?_) | ((with_reducible refine r_nwc ?_); intro b) | ((with_reducible first | apply i_lds | apply i_ldsq | apply i_ld | apply i_ldq); exact rfl) | ((with_reducible first | apply i_ldn | apply i_ldnq); exact rfl; exact rfl; exact rfl) | (with_reducible first | refine r_ph0 ?_ | apply i_kp0) | ((with_reducible first | apply i_st | apply i_stl); (focus simp); exact rfl) | simp only [go_sem, Nat.reduceAdd, Nat.reduceEqDiff, Int.reduceToNat, Nat.reduceMul, Nat.reduceSub] | (clear hK; clear K))
      all_goals try (first | contradiction | (simp only [ reduceCtorEq] at *; done) | (exfalso; omega))
      refine i_ldn (x := boot x) rfl rfl rfl ?_
      repeat' ((fail_if_success with_reducible refine (id : E _ (ph _) → E _ (ph _)) ?_); first | ((with_reducible refine d_seq ?_); intro K hK) | ((with_reducible refine d_reg ?_); simp only [go_sem, Nat.reduceAdd, Nat.reduceEqDiff, Int.reduceToNat, Nat.reduceMul, Nat.reduceSub]) | ((first | ((with_reducible refine d_cnd ?_); refine And.intro ?_ ?_) | (with_reducible refine r_cnd ?_ ?_)); all_goals (intro hc; (try simp only [push_cast, Int.reduceEq, Int.reduceLT, Int.reduceLE, Int.reduceNe] at hc))) | ((with_reducible refine hK _ _ ?_); clear hK; clear K) | ((with_reducible first | refine d_blk ?_ | refine d_rt0 ?_ | refine d_sk0 ?_ | refine d_ex0 ?_); (try simp only [go_sem, Nat.reduceAdd, Nat.reduceEqDiff, Int.reduceToNat, Nat.reduceMul, Nat.reduceSub])) | (with_reducible refine r_rq (by first | decide | omega) ?_) | ((with_reducible refine r_nwc ?_); intro b) | ((with_reducible first | apply i_lds | apply i_ldsq | apply i_ld | apply i_ldq); exact rfl) | ((with_reducible first | apply i_ldn | apply i_ldnq); exact rfl; exact rfl; exact rfl) | (with_reducible first | refine r_ph0 ?_ | apply i_kp0) | ((with_reducible first | apply i_st | apply i_stl); (focus simp); exact rfl) | simp only [go_sem, Nat.reduceAdd, Nat.reduceEqDiff, Int.reduceToNat, Nat.reduceMul, Nat.reduceSub] | (clear hK; clear K))
      exact i_ret2 (x := boot x) rfl rfl
    · rw [if_neg h1]
      generalize Z.save (boot x) = U at *
      intro L
      refine c59_fn rfl rfl ?_
      repeat' ((fail_if_success with_reducible refine (id : E _ (ph _) → E _ (ph _)) ?_); first | ((with_reducible refine d_seq ?_); intro K hK) | ((with_reducible refine d_reg ?_); simp only [go_sem, Nat.reduceAdd, Nat.reduceEqDiff, Int.reduceToNat, Nat.reduceMul, Nat.reduceSub]) | ((first | ((with_reducible refine d_cnd ?_); refine And.intro ?_ ?_) | (with_reducible refine r_cnd ?_ ?_)); all_goals (intro hc; (try simp only [push_cast, Int.reduceEq, Int.reduceLT, Int.reduceLE, Int.reduceNe] at hc))) | ((with_reducible refine hK _ _ ?_); clear hK; clear K) | ((with_reducible first | refine d_blk ?_ | refine d_rt0 ?_ | refine d_sk0 ?_ | refine d_ex0 ?_); (try simp only [go_sem, Nat.reduceAdd, Nat.reduceEqDiff, Int.reduceToNat, Nat.reduceMul, Nat.reduceSub])) | (with_reducible refine r_rq (by first | decide | omega) ?_) | ((with_reducible refine r_nwc ?_); intro b) | ((with_reducible first | apply i_lds | apply i_ldsq | apply i_ld | apply i_ldq); exact rfl) | ((with_reducible first | apply i_ldn | apply i_ldnq); exact rfl; exact rfl; exact rfl) | (with_reducible first | refine r_ph0 ?_ | apply i_kp0) | ((with_reducible first | apply i_st | apply i_stl); (focus simp); exact rfl) | simp only [go_sem, Nat.reduceAdd, Nat.reduceEqDiff, Int.reduceToNat, Nat.reduceMul, Nat.reduceSub] | (clear hK; clear K))
      refine i_clp F ?_
      repeat' ((fail_if_success with_reducible refine (id : E _ (ph _) → E _ (ph _)) ?_); first | ((with_reducible refine d_seq ?_); intro K hK) | ((with_reducible refine d_reg ?_); simp only [go_sem, Nat.reduceAdd, Nat.reduceEqDiff, Int.reduceToNat, Nat.reduceMul, Nat.reduceSub]) | ((first | ((with_reducible refine d_cnd ?_); refine And.intro ?_ ?_) | (with_reducible refine r_cnd ?_ ?_)); all_goals (intro hc; (try simp only [push_cast, Int.reduceEq, Int.reduceLT, Int.reduceLE, Int.reduceNe] at hc))) | ((with_reducible refine hK _ _ ?_); clear hK; clear K) | ((with_reducible first | refine d_blk ?_ | refine d_rt0 ?_ | refine d_sk0 ?_ | refine d_ex0 ?_); (try simp only [go_sem, Nat.reduceAdd, Nat.reduceEqDiff, Int.reduceToNat, Nat.reduceMul, Nat.reduceSub])) | (with_reducible refine r_rq (by first | decide | omega) ?_) | ((with_reducible refine r_nwc ?_); intro b) | ((with_reducible first | apply i_lds | apply i_ldsq | apply i_ld | apply i_ldq); exact rfl) | ((with_reducible first | apply i_ldn | apply i_ldnq); exact rfl; exact rfl; exact rfl) | (with_reducible first | refine r_ph0 ?_ | apply i_kp0) | ((with_reducible first | apply i_st | apply i_stl); (focus simp); exact rfl) | simp only [go_sem, Nat.reduceAdd, Nat.reduceEqDiff, Int.reduceToNat, Nat.reduceMul, Nat.reduceSub] | (clear hK; clear K))
      all_goals try (first | contradiction | (simp only [ reduceCtorEq] at *; done) | (exfalso; omega))
      refine i_ldn (x := boot x) rfl rfl rfl ?_
      refine i_clq G ?_
      repeat' ((fail_if_success with_reducible refine (id : E _ (ph _) → E _ (ph _)) ?_); first | ((with_reducible refine d_seq ?_); intro K hK) | ((with_reducible refine d_reg ?_); simp only [go_sem, Nat.reduceAdd, Nat.reduceEqDiff, Int.reduceToNat, Nat.reduceMul, Nat.reduceSub]) | ((first | ((with_reducible refine d_cnd ?_); refine And.intro ?_ ?_) | (with_reducible refine r_cnd ?_ ?_)); all_goals (intro hc; (try simp only [push_cast, Int.reduceEq, Int.reduceLT, Int.reduceLE, Int.reduceNe] at hc))) | ((with_reducible refine hK _ _ ?_); clear hK; clear K) | ((with_reducible first | refine d_blk ?_ | refine d_rt0 ?_ | refine d_sk0 ?_ | refine d_ex0 ?_); (try simp only [go_sem, Nat.reduceAdd, Nat.reduceEqDiff, Int.reduceToNat, Nat.reduceMul, Nat.reduceSub])) | (with_reducible refine r_rq (by first | decide | omega) ?_) | ((with_reducible refine r_nwc ?_); intro b) | ((with_reducible first | apply i_lds | apply i_ldsq | apply i_ld | apply i_ldq); exact rfl) | ((with_reducible first | apply i_ldn | apply i_ldnq); exact rfl; exact rfl; exact rfl) | (with_reducible first | refine r_ph0 ?_ | apply i_kp0) | ((with_reducible first | apply i_st | apply i_stl); (focus simp); exact rfl) | simp only [go_sem, Nat.reduceAdd, Nat.reduceEqDiff, Int.reduceToNat, Nat.reduceMul, Nat.reduceSub] | (clear hK; clear K))
      all_goals try (first | contradiction | (simp only [ reduceCtorEq] at *; done) | (exfalso; omega))
      refine i_ldn (x := bz) rfl rfl rfl ?_
      exact i_ret2 (x := bz) rfl rfl
  · rw [if_neg h0]
    intro L
    refine c59_fn rfl rfl ?_
    repeat' ((fail_if_success with_reducible refine (id : E _ (ph _) → E _ (ph _)) ?_); first | ((with_reducible refine d_seq ?_); intro K hK) | ((with_reducible refine d_reg ?_); simp only [go_sem, Nat.reduceAdd, Nat.reduceEqDiff, Int.reduceToNat, Nat.reduceMul, Nat.reduceSub]) | ((first | ((with_reducible refine d_cnd ?_); refine And.intro ?_ ?_) | (with_reducible refine r_cnd ?_ ?_)); all_goals (intro hc; (try simp only [push_cast, Int.reduceEq, Int.reduceLT, Int.reduceLE, Int.reduceNe] at hc))) | ((with_reducible refine hK _ _ ?_); clear hK; clear K) | ((with_reducible first | refine d_blk ?_ | refine d_rt0 ?_ | refine d_sk0 ?_ | refine d_ex0 ?_); (try simp only [go_sem, Nat.reduceAdd, Nat.reduceEqDiff, Int.reduceToNat, Nat.reduceMul, Nat.reduceSub])) | (with_reducible refine r_rq (by first | decide | omega) ?_) | ((with_reducible refine r_nwc ?_); intro b) | ((with_reducible first | apply i_lds | apply i_ldsq | apply i_ld | apply i_ldq); exact rfl) | ((with_reducible first | apply i_ldn | apply i_ldnq); exact rfl; exact rfl; exact rfl) | (with_reducible first | refine r_ph0 ?_ | apply i_kp0) | ((with_reducible first | apply i_st | apply i_stl); (focus simp); exact rfl) | simp only [go_sem, Nat.reduceAdd, Nat.reduceEqDiff, Int.reduceToNat, Nat.reduceMul, Nat.reduceSub] | (clear hK; clear K))
    refine i_clp F ?_
    repeat' ((fail_if_success with_reducible refine (id : E _ (ph _) → E _ (ph _)) ?_); first | ((with_reducible refine d_seq ?_); intro K hK) | ((with_reducible refine d_reg ?_); simp only [go_sem, Nat.reduceAdd, Nat.reduceEqDiff, Int.reduceToNat, Nat.reduceMul, Nat.reduceSub]) | ((first | ((with_reducible refine d_cnd ?_); refine And.intro ?_ ?_) | (with_reducible refine r_cnd ?_ ?_)); all_goals (intro hc; (try simp only [push_cast, Int.reduceEq, Int.reduceLT, Int.reduceLE, Int.reduceNe] at hc))) | ((with_reducible refine hK _ _ ?_); clear hK; clear K) | ((with_reducible first | refine d_blk ?_ | refine d_rt0 ?_ | refine d_sk0 ?_ | refine d_ex0 ?_); (try simp only [go_sem, Nat.reduceAdd, Nat.reduceEqDiff, Int.reduceToNat, Nat.reduceMul, Nat.reduceSub])) | (with_reducible refine r_rq (by first | decide | omega) ?_) | ((with_reducible refine r_nwc ?_); intro b) | ((with_reducible first | apply i_lds | apply i_ldsq | apply i_ld | apply i_ldq); exact rfl) | ((with_reducible first | apply i_ldn | apply i_ldnq); exact rfl; exact rfl; exact rfl) | (with_reducible first | refine r_ph0 ?_ | apply i_kp0) | ((with_reducible first | apply i_st | apply i_stl); (focus simp); exact rfl) | simp only [go_sem, Nat.reduceAdd, Nat.reduceEqDiff, Int.reduceToNat, Nat.reduceMul, Nat.reduceSub] | (clear hK; clear K))
    all_goals try (first | contradiction | (simp only [ reduceCtorEq] at *; done) | (exfalso; omega))
    refine i_ldn (x := bz) rfl rfl rfl ?_
    exact i_ret2 (x := bz) rfl rfl
/-! ### What a save leaves -/
theorem Dk.off_get {Z : Dk} (h : Z.ok) (keep : Int) (j : Nat) :
    (Z.off keep).on.get (j : Int) = wh (Z.sure.getD j []) ∨ ∃ v, gk Z.es (j : Int) = some v ∧ v.length = 64 ∧ (Z.off keep).on.get (j : Int) = v := by
  have e : (Z.off keep).on.get (j : Int) = wh ((Z.cutn keep Z.keys.length).getD j []) := rfl
  rw [e]
  rcases Dk.cut_or h keep Z.keys.length (Nat.le_refl _) j with h1 | h1
  · left; rw [h1]
  · right
    obtain ⟨x, hx, _, hv⟩ := gk_mem h1
    have h64 := h.e64 x hx
    rw [hv] at h64
    exact ⟨_, h1, h64, wh_full h64⟩
theorem Dk.off_calm {Z : Dk} (h : Z.ok) (keep : Int) : (Z.off keep).on.calm Z.sb Z.sure.length :=
  ⟨Dk.on_ok (Dk.off_ok h keep), rfl, rfl, (by decide : (-1 : Int) < 0), by show (Z.cutn keep Z.keys.length).length = _; rw [Dk.cutn_len]⟩
/-- A disk at rest: nothing waits. -/
structure Dk.rest (Z : Dk) (sb n : Nat) : Prop where
  c : Z.calm sb n
  e : Z.es = []
theorem Dk.rest.get {Z : Dk} {sb n : Nat} (h : Z.rest sb n) (j : Nat) : Z.get (j : Int) = wh (Z.sure.getD j []) := by
  unfold Dk.get
  rw [h.e]
  simp [gk]
theorem Dk.calm.save {Z : Dk} {sb n : Nat} (h : Z.calm sb n) (hn : 0 < n) {x : base_Base} (hf : ft x 7 = true) : (Z.save x).1 = 0 ∧ (Z.save x).2.rest sb n ∧ (Z.save x).2.get 0 = wh (eb x 7) := by
  have hl : (eb x 7).length ≤ 64 := by have := (eb_len7 x).2.2.2.2.2.2.2; omega
  obtain ⟨w1, w2, w3, w4, w5⟩ := h.write (i := 0) hn hl
  obtain ⟨s1, s2, s3, s4, s5⟩ := w2.sync hn
  have e0 : ((0 : Nat) : Int) = 0 := rfl
  rw [e0] at w1 w2 w5 s1 s2 s3 s5
  unfold Dk.save
  rw [if_pos hf, if_pos w1]
  refine ⟨s1, ⟨s2, s3⟩, ?_⟩
  have := s5 0 hn
  rw [e0] at this
  rw [this]
  unfold Dk.get
  have := w5 0
  rw [this, if_pos rfl]
  rfl
/-- A save at which the power goes. -/
theorem Dk.rest.cut {Z : Dk} {sb n : Nat} (h : Z.rest sb n) (hn : 0 < n) {x : base_Base} (hf : ft x 7 = true) {a keep : Int} (ha : a = 0 ∨ a = 1) (hk : 0 ≤ keep ∧ keep ≤ 18446744073709551615) {A : Dk} (hA : A = { Z with fuse := a, keep := keep }) :
    A.ok ∧ (A.save x).1 = 9 ∧ (A.save x).2.ok ∧ (A.save x).2.up = false ∧ (A.save x).2.sb = sb ∧ (A.save x).2.on.rest sb n ∧ ((A.save x).2.on.get 0 = Z.get 0 ∨ (A.save x).2.on.get 0 = wh (eb x 7)) := by
  have hl : (eb x 7).length ≤ 64 := by have := (eb_len7 x).2.2.2.2.2.2.2; omega
  have hok : A.ok := by
    subst hA
    obtain ⟨g1, g2, g3, g4, g5, g6, g7, g8, g9, g10⟩ := h.c.ok
    exact ⟨g1, g2, g3, g4, g5, g6, g7, g8, by dsimp only; omega, hk⟩
  have hc : A.chk 0 = 0 := by subst hA; exact h.c.chk (i := 0) hn
  have hf' : A.fuse = a := by subst hA; rfl
  have hs : A.sure = Z.sure := by subst hA; rfl
  have he : A.es = [] := by subst hA; exact h.e
  have hsb : A.sb = sb := by subst hA; exact h.c.sb
  have hnl : A.sure.length = n := by rw [hs]; exact h.c.n
  have e0 : ((0 : Nat) : Int) = 0 := rfl
  have g0 := h.get 0
  rw [e0] at g0
  have fin : ∀ U : Dk, U.ok → U.sb = sb → U.sure = Z.sure → (∀ v, gk U.es 0 = some v → v = wh (eb x 7)) → ∀ k, (U.off k).ok ∧ (U.off k).up = false ∧ (U.off k).sb = sb ∧ (U.off k).on.rest sb n ∧ ((U.off k).on.get 0 = Z.get 0 ∨ (U.off k).on.get 0 = wh (eb x 7)) := by
    intro U u1 u2 u3 u4 k
    refine ⟨Dk.off_ok u1 k, rfl, u2, ⟨?_, rfl⟩, ?_⟩
    · have := Dk.off_calm u1 k
      rw [u2, u3, h.c.n] at this
      exact this
    · have := Dk.off_get u1 k 0
      rw [e0, u3] at this
      rcases this with h1 | ⟨v, h1, _, h2⟩
      · left; rw [h1, g0]
      · right; rw [h2, u4 v h1]
  refine ⟨hok, ?_⟩
  unfold Dk.save
  rw [if_pos hf]
  rcases ha with rfl | rfl
  · have e1 : A.write 0 (eb x 7) = (9, A.off A.keep) := by
      unfold Dk.write Dk.act
      rw [if_pos hc, if_neg (by omega), hf', if_pos rfl, if_neg (by decide : ¬ (9 : Int) = 0)]
    rw [e1, if_neg (by decide : ¬ (9 : Int) = 0)]
    obtain ⟨f1, f2, f3, f4, f5⟩ := fin A hok hsb hs (fun v hv => by rw [he] at hv; cases hv) A.keep
    exact ⟨rfl, f1, f2, f3, f4, f5⟩
  · obtain ⟨B, hB⟩ : ∃ B : Dk, B = Dk.put { A with fuse := 0, acts := IntKind.wrap .i64 (A.acts + 1) } 0 (wh (eb x 7)) := ⟨_, rfl⟩
    have e1 : A.write 0 (eb x 7) = (0, B) := by
      have ea : A.act = (0, { A with fuse := 0, acts := IntKind.wrap .i64 (A.acts + 1) }) := by
        unfold Dk.act
        rw [hf', if_neg (by decide : ¬ (1 : Int) = 0)]
        rfl
      unfold Dk.write
      rw [if_pos hc, if_neg (by omega), ea, if_pos rfl, hB]
    have okB : B.ok := by have := Dk.write_ok hok 0 (eb x 7); rw [e1] at this; exact this
    have cB : B.chk 0 = 0 := by
      have : B.chk 0 = A.chk 0 := by rw [hB]; rfl
      rw [this, hc]
    have fB : B.fuse = 0 := by rw [hB]; rfl
    have e2 : B.sync = (9, B.off B.keep) := by
      unfold Dk.sync Dk.act
      rw [if_pos cB, fB, if_pos rfl, if_neg (by decide : ¬ (9 : Int) = 0)]
    rw [e1, if_pos rfl, e2]
    obtain ⟨f1, f2, f3, f4, f5⟩ := fin B okB (by rw [hB]; exact hsb) (by rw [hB]; exact hs) (fun v hv => by
      have : gk B.es 0 = some (wh (eb x 7)) := by
        rw [hB]
        show gk (pk (κ := eI) (ε := eS) A.es 0 (wh (eb x 7)) A.c) (0 : Int) = _
        rw [gk_pk, if_pos rfl]
      rw [this] at hv
      simpa using hv.symm) B.keep
    exact ⟨rfl, f1, f2, f3, f4, f5⟩
end Go.Sp
