/- The disk as one part; the layer's example. -/
import Derived.Test.YtpadmllpdkknnaaD6
import Derived.Test.YtpadmllpdkknnaaGx0
namespace Go.Sp
open Go Go.Proofs
set_option linter.unusedSimpArgs false
set_option linter.unusedVariables false
set_option maxRecDepth 10000
def dk (D : Dk) : HP := HS (dkl D)
theorem fo {e : Enc} {P : Program} {f : FuncId} {args : Array Value} {x : e.α} {D D' : Dk} (h : Fq e P f args (dkl D) (dkl D') x) : Fq e P f args [dk D] [dk D'] x :=
  Fq.fold (A := dkl D) (B := dkl D') (C := []) (by simpa using h)
theorem F37 (D : Dk) (h : D.ok) : Fp eB Try.prog 37 #[D.p] [dk D] D.up := fo (f37 D h)
theorem F26 (D : Dk) (h : D.ok) : Fp eI Try.prog 26 #[D.p] [dk D] (D.sure.length : Int) := fo (f26 D h)
theorem F38 (D : Dk) (h : D.ok) : Fp eI Try.prog 38 #[D.p] [dk D] D.acts := fo (f38 D h)
theorem F39 (D : Dk) (h : D.ok) : Fp eI Try.prog 39 #[D.p] [dk D] D.downs := fo (f39 D h)
theorem F31 (D : Dk) (h : D.ok) (i : Int) : Fp (eT2 eS eI) Try.prog 31 #[D.p, .int .i64 i] [dk D] (if D.chk i = 0 then D.get i else [], D.chk i) := fo (f31 D h i)
theorem F41 (D : Dk) (h : D.ok) : Fq eN Try.prog 41 #[D.p] [dk D] [dk { D with fuse := -1 }] () := fo (f41 D h)
def Dk.on (D : Dk) : Dk := { D with up := true }
theorem Dk.on_ok {D : Dk} (h : D.ok) : D.on.ok := by
  obtain ⟨g1, g2, g3, g4, g5, g6, g7, g8, g9, g10⟩ := h
  exact ⟨g1, g2, g3, g4, g5, g6, g7, g8, g9, g10⟩
theorem F30 (D : Dk) (h : D.ok) : Fq eI Try.prog 30 #[D.p] [dk D] [dk D.on] (if D.up then 19 else 0) := fo (f30 D h)
theorem F42 (D : Dk) (h : D.ok) (n k : Int) : Fq eI Try.prog 42 #[D.p, .int .i64 n, .int .u64 k] [dk D] [dk (D.arm n k).2] (D.arm n k).1 := fo (f42 D h n k)
theorem F29 (D : Dk) (h : D.ok) (keep : Int) : Fq eI Try.prog 29 #[D.p, .int .u64 keep] [dk D] [dk (if D.chk 0 = 0 then D.off keep else D)] (D.chk 0) := fo (f29 D h keep)
theorem F27 (D : Dk) (h : D.ok) (i : Int) (s : List UInt8) : Fq eI Try.prog 27 #[D.p, .int .i64 i, str s] [dk D] [dk (D.write i s).2] (D.write i s).1 := fo (f27 D h i s)
theorem F28 (D : Dk) (h : D.ok) : Fq eI Try.prog 28 #[D.p] [dk D] [dk D.sync.2] D.sync.1 := fo (f28 D h)
theorem F25 (n : Nat) (h0 : 0 < n) (h1 : n ≤ 8192) : Fn (eT2 eP eI) Try.prog 25 #[.int .i64 (n : Int)] [] fun y X => ∃ sb bb mb, y = (some ⟨sb, 0, none⟩, 0) ∧ X = [dk (Dk.new sb bb mb n)] := fun L w hw => by
  refine (f25 n h0 h1 L w hw).mono ?_
  rintro _ w' ⟨x, he, X, ⟨sb, bb, mb, rfl, rfl⟩, hX⟩
  exact ⟨_, he, _, ⟨sb, bb, mb, rfl, rfl⟩, Holds.close hX⟩
theorem F43 (D : Dk) (h : D.ok) : Fn eSl Try.prog 43 #[D.p] [dk D] fun y X => X = [ow 3 1 y (D.keys.map fun n => .int .i64 n), dk D] ∧ y.2.1 = D.keys.length := fun L w hw => by
  refine (f43 D h h.len L w (Holds.open (show Holds w (HS (dkl D) :: L) from hw))).mono ?_
  rintro _ w' ⟨x, he, X, ⟨rfl, hl⟩, hX⟩
  refine ⟨_, he, _, ⟨rfl, hl⟩, ?_⟩
  have h1 : Holds w' (dkl D ++ ([ow 3 1 x (D.keys.map fun n => .int .i64 n)] ++ L)) := hX.sub (SX.p)
  have h2 : Holds w' (dk D :: ow 3 1 x (D.keys.map fun n => .int .i64 n) :: L) := Holds.close h1
  exact h2.sub SX.p
/-! ### The law's words -/
theorem f32 (s : List UInt8) : Fp eS Try.prog 32 #[str s] [] (wh s) := fun L => by
  refine c32_fn rfl rfl ?_
  repeat' (first | ((with_reducible refine d_seq ?_); intro K hK) | ((with_reducible refine d_reg ?_); simp only [go_sem, Nat.reduceAdd, Nat.reduceEqDiff, Int.reduceToNat, Nat.reduceMul, Nat.reduceSub]) | ((first | ((with_reducible apply d_cond); exact rfl) | (with_reducible refine r_cnd ?_ ?_)); all_goals (intro hc; (try simp only [push_cast, Int.reduceEq, Int.reduceLT, Int.reduceLE, Int.reduceNe] at hc))) | ((with_reducible refine hK _ _ ?_); clear hK; clear K) | (with_reducible refine r_rq (by first | decide | omega) ?_) | ((with_reducible refine r_nwc ?_); intro b) | ((with_reducible first | apply i_lds | apply i_ldsq | apply i_ld | apply i_ldq); exact rfl) | ((with_reducible first | apply i_ldn | apply i_ldnq); exact rfl; exact rfl; exact rfl) | (with_reducible first | refine r_ph0 ?_ | apply i_kp0) | ((with_reducible first | apply i_st | apply i_stl); (focus simp); exact rfl) | simp only [go_sem, Nat.reduceAdd, Nat.reduceEqDiff, Int.reduceToNat, Nat.reduceMul, Nat.reduceSub] | (clear hK; clear K))
  refine d_lp [0] (fun t : List UInt8 => [(0, str t)]) (fun _ => L) (fun t => wh t = wh s) (fun t => 64 - t.length) s rfl SX.p rfl ?_
  intro t ht
  repeat' (first | ((with_reducible refine d_seq ?_); intro K hK) | ((with_reducible refine d_reg ?_); simp only [go_sem, Nat.reduceAdd, Nat.reduceEqDiff, Int.reduceToNat, Nat.reduceMul, Nat.reduceSub]) | ((first | ((with_reducible apply d_cond); exact rfl) | (with_reducible refine r_cnd ?_ ?_)); all_goals (intro hc; (try simp only [push_cast, Int.reduceEq, Int.reduceLT, Int.reduceLE, Int.reduceNe] at hc))) | ((with_reducible refine hK _ _ ?_); clear hK; clear K) | (with_reducible refine r_rq (by first | decide | omega) ?_) | ((with_reducible refine r_nwc ?_); intro b) | ((with_reducible first | apply i_lds | apply i_ldsq | apply i_ld | apply i_ldq); exact rfl) | ((with_reducible first | apply i_ldn | apply i_ldnq); exact rfl; exact rfl; exact rfl) | (with_reducible first | refine r_ph0 ?_ | apply i_kp0) | ((with_reducible first | apply i_st | apply i_stl); (focus simp); exact rfl) | simp only [go_sem, Nat.reduceAdd, Nat.reduceEqDiff, Int.reduceToNat, Nat.reduceMul, Nat.reduceSub] | (clear hK; clear K))
  · refine r_rq (by simp only [List.length_cons, List.length_nil]; omega) ?_
    refine i_bk (t ++ [0] : List UInt8) rfl ?_ (by simp; omega)
    rw [← ht]
    have e : 64 - t.length = (64 - (t.length + 1)) + 1 := by omega
    simp only [wh, List.length_append, List.length_cons, List.length_nil, e, List.append_assoc, List.replicate_succ]
    rfl
  · (with_reducible first | apply i_ret0 | apply i_ret2 | apply i_ret3 | apply i_ret); exact rfl
    rw [← ht]
    have e : 64 - t.length = 0 := by omega
    simp [wh, e]
theorem f65 (D : Dk) (h : D.ok) : Fp eS Try.prog 65 #[D.p] [dk D] (if D.chk 0 = 0 then D.get 0 else []) := fun L => by
  refine c65_fn rfl rfl ?_
  simp only [Dk.p]
  repeat' ((fail_if_success with_reducible refine (id : E _ (ph _) → E _ (ph _)) ?_); first | ((with_reducible refine d_seq ?_); intro K hK) | ((with_reducible refine d_reg ?_); simp only [go_sem, Nat.reduceAdd, Nat.reduceEqDiff, Int.reduceToNat, Nat.reduceMul, Nat.reduceSub]) | ((first | ((with_reducible apply d_cond); exact rfl) | (with_reducible refine r_cnd ?_ ?_)); all_goals (intro hc; (try simp only [push_cast, Int.reduceEq, Int.reduceLT, Int.reduceLE, Int.reduceNe] at hc))) | ((with_reducible refine hK _ _ ?_); clear hK; clear K) | (with_reducible refine r_rq (by first | decide | omega) ?_) | ((with_reducible refine r_nwc ?_); intro b) | ((with_reducible first | apply i_lds | apply i_ldsq | apply i_ld | apply i_ldq); exact rfl) | ((with_reducible first | apply i_ldn | apply i_ldnq); exact rfl; exact rfl; exact rfl) | (with_reducible first | refine r_ph0 ?_ | apply i_kp0) | ((with_reducible first | apply i_st | apply i_stl); (focus simp); exact rfl) | simp only [go_sem, Nat.reduceAdd, Nat.reduceEqDiff, Int.reduceToNat, Nat.reduceMul, Nat.reduceSub] | (clear hK; clear K))
  refine i_clp (F31 D h 0) ?_
  repeat' (first | ((with_reducible refine d_seq ?_); intro K hK) | ((with_reducible refine d_reg ?_); simp only [go_sem, Nat.reduceAdd, Nat.reduceEqDiff, Int.reduceToNat, Nat.reduceMul, Nat.reduceSub]) | ((first | ((with_reducible apply d_cond); exact rfl) | (with_reducible refine r_cnd ?_ ?_)); all_goals (intro hc; (try simp only [push_cast, Int.reduceEq, Int.reduceLT, Int.reduceLE, Int.reduceNe] at hc))) | ((with_reducible refine hK _ _ ?_); clear hK; clear K) | (with_reducible refine r_rq (by first | decide | omega) ?_) | ((with_reducible refine r_nwc ?_); intro b) | ((with_reducible first | apply i_lds | apply i_ldsq | apply i_ld | apply i_ldq); exact rfl) | ((with_reducible first | apply i_ldn | apply i_ldnq); exact rfl; exact rfl; exact rfl) | (with_reducible first | refine r_ph0 ?_ | apply i_kp0) | ((with_reducible first | apply i_st | apply i_stl); (focus simp); exact rfl) | simp only [go_sem, Nat.reduceAdd, Nat.reduceEqDiff, Int.reduceToNat, Nat.reduceMul, Nat.reduceSub] | (clear hK; clear K))
  (with_reducible first | apply i_ret0 | apply i_ret2 | apply i_ret3 | apply i_ret); exact rfl
  rfl
theorem wh_wh {s : List UInt8} (h : s.length ≤ 64) : wh (wh s) = wh s := wh_full (wh_len h)
/-! ### The example's disks -/
def ex1 (sb bb mb : Nat) : Dk := ⟨sb, bb, mb, [[], []], [(0, wh [97], 0)], 1, true, -1, 0, 1, 0⟩
def ex2 (sb bb mb : Nat) : Dk := ⟨sb, bb, mb, [[], []], [], 1, true, -1, 0, 1, 1⟩
def ex3 (sb bb mb : Nat) : Dk := ⟨sb, bb, mb, [[], []], [(0, wh [97], 1)], 2, true, -1, 0, 2, 1⟩
def ex4 (sb bb mb : Nat) : Dk := ⟨sb, bb, mb, [wh [97], []], [], 2, true, -1, 0, 2, 2⟩
theorem ex_w1 (sb bb mb : Nat) : (Dk.new sb bb mb 2).write 0 [97] = (0, ex1 sb bb mb) := by
  simp [Dk.write, Dk.chk, Dk.act, Dk.put, Dk.new, pk, ck, gk, ex1, w64]
theorem ex_k1 (sb bb mb : Nat) : (ex1 sb bb mb).keys = [0] := by simp [Dk.keys, ex1]
theorem ex_k3 (sb bb mb : Nat) : (ex3 sb bb mb).keys = [0] := by simp [Dk.keys, ex3]
theorem ex_c1 (sb bb mb : Nat) : ((ex1 sb bb mb).off 0).on = ex2 sb bb mb := by
  have hb : kb 0 0 = false := by decide
  simp [Dk.on, Dk.off, ex_k1, Dk.cutn, hb]
  simp [ex1, ex2, w64]
theorem ex_w3 (sb bb mb : Nat) : (ex2 sb bb mb).write 0 [97] = (0, ex3 sb bb mb) := by
  simp [Dk.write, Dk.chk, Dk.act, Dk.put, pk, ck, gk, ex2, ex3, w64]
theorem ex_c3 (sb bb mb : Nat) : ((ex3 sb bb mb).off 1).on = ex4 sb bb mb := by
  have hb : kb 1 0 = true := by decide
  simp [Dk.on, Dk.off, ex_k3, Dk.cutn, hb]
  simp [ex3, ex4, w64, gk]
theorem f24 : Fp eB Try.prog 24 #[] [] true := fun L => by
  refine c24_fn rfl rfl ?_
  repeat' ((fail_if_success with_reducible refine (id : E _ (ph _) → E _ (ph _)) ?_); first | ((with_reducible refine d_seq ?_); intro K hK) | ((with_reducible refine d_reg ?_); simp only [go_sem, Nat.reduceAdd, Nat.reduceEqDiff, Int.reduceToNat, Nat.reduceMul, Nat.reduceSub]) | ((first | ((with_reducible apply d_cond); exact rfl) | (with_reducible refine r_cnd ?_ ?_)); all_goals (intro hc; (try simp only [push_cast, Int.reduceEq, Int.reduceLT, Int.reduceLE, Int.reduceNe] at hc))) | ((with_reducible refine hK _ _ ?_); clear hK; clear K) | (with_reducible refine r_rq (by first | decide | omega) ?_) | ((with_reducible refine r_nwc ?_); intro b) | ((with_reducible first | apply i_lds | apply i_ldsq | apply i_ld | apply i_ldq); exact rfl) | ((with_reducible first | apply i_ldn | apply i_ldnq); exact rfl; exact rfl; exact rfl) | (with_reducible first | refine r_ph0 ?_ | apply i_kp0) | ((with_reducible first | apply i_st | apply i_stl); (focus simp); exact rfl) | simp only [go_sem, Nat.reduceAdd, Nat.reduceEqDiff, Int.reduceToNat, Nat.reduceMul, Nat.reduceSub] | (clear hK; clear K))
  refine i_cal (F25 2 (by decide) (by decide)) ?_
  rintro y X ⟨sb, bb, mb, rfl, rfl⟩
  have h0 : (Dk.new sb bb mb 2).ok := Dk.new_ok (by decide) (by decide)
  have h1 : (ex1 sb bb mb).ok := by have := Dk.write_ok h0 0 [97]; rwa [ex_w1] at this
  have h2 : (ex2 sb bb mb).ok := by rw [← ex_c1]; exact Dk.on_ok (Dk.off_ok h1 0)
  have h3 : (ex3 sb bb mb).ok := by have := Dk.write_ok h2 0 [97]; rwa [ex_w3] at this
  have h4 : (ex4 sb bb mb).ok := by rw [← ex_c3]; exact Dk.on_ok (Dk.off_ok h3 1)
  have e1 : (ex1 sb bb mb).chk 0 = 0 := rfl
  have e3 : (ex3 sb bb mb).chk 0 = 0 := rfl
  have F1 := F27 _ h0 0 [97]
  rw [ex_w1] at F1
  have F2 := F29 _ h1 0
  rw [e1, if_pos rfl] at F2
  have F3 := F30 _ (Dk.off_ok h1 0)
  rw [ex_c1, show ((ex1 sb bb mb).off 0).up = false from rfl, if_neg Bool.false_ne_true] at F3
  have F4 := F31 _ h2 0
  rw [show (ex2 sb bb mb).chk 0 = 0 from rfl, if_pos rfl, show (ex2 sb bb mb).get 0 = wh [] from rfl] at F4
  have F5 := F27 _ h2 0 [97]
  rw [ex_w3] at F5
  have F6 := F29 _ h3 1
  rw [e3, if_pos rfl] at F6
  have F7 := F30 _ (Dk.off_ok h3 1)
  rw [ex_c3, show ((ex3 sb bb mb).off 1).up = false from rfl, if_neg Bool.false_ne_true] at F7
  have F8 := f65 _ h4
  rw [show (ex4 sb bb mb).chk 0 = 0 from rfl, if_pos rfl, show (ex4 sb bb mb).get 0 = wh (wh [97]) from rfl, wh_wh (by decide)] at F8
  repeat' (first | ((with_reducible refine d_seq ?_); intro K hK) | ((with_reducible refine d_reg ?_); simp only [go_sem, Nat.reduceAdd, Nat.reduceEqDiff, Int.reduceToNat, Nat.reduceMul, Nat.reduceSub]) | ((first | ((with_reducible apply d_cond); exact rfl) | (with_reducible refine r_cnd ?_ ?_)); all_goals (intro hc; (try simp only [push_cast, Int.reduceEq, Int.reduceLT, Int.reduceLE, Int.reduceNe] at hc))) | ((with_reducible refine hK _ _ ?_); clear hK; clear K) | (with_reducible refine r_rq (by first | decide | omega) ?_) | ((with_reducible refine r_nwc ?_); intro b) | ((with_reducible first | apply i_lds | apply i_ldsq | apply i_ld | apply i_ldq); exact rfl) | ((with_reducible first | apply i_ldn | apply i_ldnq); exact rfl; exact rfl; exact rfl) | (with_reducible first | refine r_ph0 ?_ | apply i_kp0) | ((with_reducible first | apply i_st | apply i_stl); (focus simp); exact rfl) | simp only [go_sem, Nat.reduceAdd, Nat.reduceEqDiff, Int.reduceToNat, Nat.reduceMul, Nat.reduceSub] | (clear hK; clear K))
  refine i_clq F1 ?_
  repeat' (first | ((with_reducible refine d_seq ?_); intro K hK) | ((with_reducible refine d_reg ?_); simp only [go_sem, Nat.reduceAdd, Nat.reduceEqDiff, Int.reduceToNat, Nat.reduceMul, Nat.reduceSub]) | ((first | ((with_reducible apply d_cond); exact rfl) | (with_reducible refine r_cnd ?_ ?_)); all_goals (intro hc; (try simp only [push_cast, Int.reduceEq, Int.reduceLT, Int.reduceLE, Int.reduceNe] at hc))) | ((with_reducible refine hK _ _ ?_); clear hK; clear K) | (with_reducible refine r_rq (by first | decide | omega) ?_) | ((with_reducible refine r_nwc ?_); intro b) | ((with_reducible first | apply i_lds | apply i_ldsq | apply i_ld | apply i_ldq); exact rfl) | ((with_reducible first | apply i_ldn | apply i_ldnq); exact rfl; exact rfl; exact rfl) | (with_reducible first | refine r_ph0 ?_ | apply i_kp0) | ((with_reducible first | apply i_st | apply i_stl); (focus simp); exact rfl) | simp only [go_sem, Nat.reduceAdd, Nat.reduceEqDiff, Int.reduceToNat, Nat.reduceMul, Nat.reduceSub] | (clear hK; clear K))
  refine i_clq F2 ?_
  repeat' (first | ((with_reducible refine d_seq ?_); intro K hK) | ((with_reducible refine d_reg ?_); simp only [go_sem, Nat.reduceAdd, Nat.reduceEqDiff, Int.reduceToNat, Nat.reduceMul, Nat.reduceSub]) | ((first | ((with_reducible apply d_cond); exact rfl) | (with_reducible refine r_cnd ?_ ?_)); all_goals (intro hc; (try simp only [push_cast, Int.reduceEq, Int.reduceLT, Int.reduceLE, Int.reduceNe] at hc))) | ((with_reducible refine hK _ _ ?_); clear hK; clear K) | (with_reducible refine r_rq (by first | decide | omega) ?_) | ((with_reducible refine r_nwc ?_); intro b) | ((with_reducible first | apply i_lds | apply i_ldsq | apply i_ld | apply i_ldq); exact rfl) | ((with_reducible first | apply i_ldn | apply i_ldnq); exact rfl; exact rfl; exact rfl) | (with_reducible first | refine r_ph0 ?_ | apply i_kp0) | ((with_reducible first | apply i_st | apply i_stl); (focus simp); exact rfl) | simp only [go_sem, Nat.reduceAdd, Nat.reduceEqDiff, Int.reduceToNat, Nat.reduceMul, Nat.reduceSub] | (clear hK; clear K))
  refine i_clq F3 ?_
  repeat' (first | ((with_reducible refine d_seq ?_); intro K hK) | ((with_reducible refine d_reg ?_); simp only [go_sem, Nat.reduceAdd, Nat.reduceEqDiff, Int.reduceToNat, Nat.reduceMul, Nat.reduceSub]) | ((first | ((with_reducible apply d_cond); exact rfl) | (with_reducible refine r_cnd ?_ ?_)); all_goals (intro hc; (try simp only [push_cast, Int.reduceEq, Int.reduceLT, Int.reduceLE, Int.reduceNe] at hc))) | ((with_reducible refine hK _ _ ?_); clear hK; clear K) | (with_reducible refine r_rq (by first | decide | omega) ?_) | ((with_reducible refine r_nwc ?_); intro b) | ((with_reducible first | apply i_lds | apply i_ldsq | apply i_ld | apply i_ldq); exact rfl) | ((with_reducible first | apply i_ldn | apply i_ldnq); exact rfl; exact rfl; exact rfl) | (with_reducible first | refine r_ph0 ?_ | apply i_kp0) | ((with_reducible first | apply i_st | apply i_stl); (focus simp); exact rfl) | simp only [go_sem, Nat.reduceAdd, Nat.reduceEqDiff, Int.reduceToNat, Nat.reduceMul, Nat.reduceSub] | (clear hK; clear K))
  refine i_clp F4 ?_
  repeat' (first | ((with_reducible refine d_seq ?_); intro K hK) | ((with_reducible refine d_reg ?_); simp only [go_sem, Nat.reduceAdd, Nat.reduceEqDiff, Int.reduceToNat, Nat.reduceMul, Nat.reduceSub]) | ((first | ((with_reducible apply d_cond); exact rfl) | (with_reducible refine r_cnd ?_ ?_)); all_goals (intro hc; (try simp only [push_cast, Int.reduceEq, Int.reduceLT, Int.reduceLE, Int.reduceNe] at hc))) | ((with_reducible refine hK _ _ ?_); clear hK; clear K) | (with_reducible refine r_rq (by first | decide | omega) ?_) | ((with_reducible refine r_nwc ?_); intro b) | ((with_reducible first | apply i_lds | apply i_ldsq | apply i_ld | apply i_ldq); exact rfl) | ((with_reducible first | apply i_ldn | apply i_ldnq); exact rfl; exact rfl; exact rfl) | (with_reducible first | refine r_ph0 ?_ | apply i_kp0) | ((with_reducible first | apply i_st | apply i_stl); (focus simp); exact rfl) | simp only [go_sem, Nat.reduceAdd, Nat.reduceEqDiff, Int.reduceToNat, Nat.reduceMul, Nat.reduceSub] | (clear hK; clear K))
  refine i_clp (f32 []) ?_
  repeat' (first | ((with_reducible refine d_seq ?_); intro K hK) | ((with_reducible refine d_reg ?_); simp only [go_sem, Nat.reduceAdd, Nat.reduceEqDiff, Int.reduceToNat, Nat.reduceMul, Nat.reduceSub]) | ((first | ((with_reducible apply d_cond); exact rfl) | (with_reducible refine r_cnd ?_ ?_)); all_goals (intro hc; (try simp only [push_cast, Int.reduceEq, Int.reduceLT, Int.reduceLE, Int.reduceNe] at hc))) | ((with_reducible refine hK _ _ ?_); clear hK; clear K) | (with_reducible refine r_rq (by first | decide | omega) ?_) | ((with_reducible refine r_nwc ?_); intro b) | ((with_reducible first | apply i_lds | apply i_ldsq | apply i_ld | apply i_ldq); exact rfl) | ((with_reducible first | apply i_ldn | apply i_ldnq); exact rfl; exact rfl; exact rfl) | (with_reducible first | refine r_ph0 ?_ | apply i_kp0) | ((with_reducible first | apply i_st | apply i_stl); (focus simp); exact rfl) | simp only [go_sem, Nat.reduceAdd, Nat.reduceEqDiff, Int.reduceToNat, Nat.reduceMul, Nat.reduceSub] | (clear hK; clear K))
  refine i_clq F5 ?_
  repeat' (first | ((with_reducible refine d_seq ?_); intro K hK) | ((with_reducible refine d_reg ?_); simp only [go_sem, Nat.reduceAdd, Nat.reduceEqDiff, Int.reduceToNat, Nat.reduceMul, Nat.reduceSub]) | ((first | ((with_reducible apply d_cond); exact rfl) | (with_reducible refine r_cnd ?_ ?_)); all_goals (intro hc; (try simp only [push_cast, Int.reduceEq, Int.reduceLT, Int.reduceLE, Int.reduceNe] at hc))) | ((with_reducible refine hK _ _ ?_); clear hK; clear K) | (with_reducible refine r_rq (by first | decide | omega) ?_) | ((with_reducible refine r_nwc ?_); intro b) | ((with_reducible first | apply i_lds | apply i_ldsq | apply i_ld | apply i_ldq); exact rfl) | ((with_reducible first | apply i_ldn | apply i_ldnq); exact rfl; exact rfl; exact rfl) | (with_reducible first | refine r_ph0 ?_ | apply i_kp0) | ((with_reducible first | apply i_st | apply i_stl); (focus simp); exact rfl) | simp only [go_sem, Nat.reduceAdd, Nat.reduceEqDiff, Int.reduceToNat, Nat.reduceMul, Nat.reduceSub] | (clear hK; clear K))
  refine i_clq F6 ?_
  repeat' (first | ((with_reducible refine d_seq ?_); intro K hK) | ((with_reducible refine d_reg ?_); simp only [go_sem, Nat.reduceAdd, Nat.reduceEqDiff, Int.reduceToNat, Nat.reduceMul, Nat.reduceSub]) | ((first | ((with_reducible apply d_cond); exact rfl) | (with_reducible refine r_cnd ?_ ?_)); all_goals (intro hc; (try simp only [push_cast, Int.reduceEq, Int.reduceLT, Int.reduceLE, Int.reduceNe] at hc))) | ((with_reducible refine hK _ _ ?_); clear hK; clear K) | (with_reducible refine r_rq (by first | decide | omega) ?_) | ((with_reducible refine r_nwc ?_); intro b) | ((with_reducible first | apply i_lds | apply i_ldsq | apply i_ld | apply i_ldq); exact rfl) | ((with_reducible first | apply i_ldn | apply i_ldnq); exact rfl; exact rfl; exact rfl) | (with_reducible first | refine r_ph0 ?_ | apply i_kp0) | ((with_reducible first | apply i_st | apply i_stl); (focus simp); exact rfl) | simp only [go_sem, Nat.reduceAdd, Nat.reduceEqDiff, Int.reduceToNat, Nat.reduceMul, Nat.reduceSub] | (clear hK; clear K))
  refine i_clq F7 ?_
  repeat' (first | ((with_reducible refine d_seq ?_); intro K hK) | ((with_reducible refine d_reg ?_); simp only [go_sem, Nat.reduceAdd, Nat.reduceEqDiff, Int.reduceToNat, Nat.reduceMul, Nat.reduceSub]) | ((first | ((with_reducible apply d_cond); exact rfl) | (with_reducible refine r_cnd ?_ ?_)); all_goals (intro hc; (try simp only [push_cast, Int.reduceEq, Int.reduceLT, Int.reduceLE, Int.reduceNe] at hc))) | ((with_reducible refine hK _ _ ?_); clear hK; clear K) | (with_reducible refine r_rq (by first | decide | omega) ?_) | ((with_reducible refine r_nwc ?_); intro b) | ((with_reducible first | apply i_lds | apply i_ldsq | apply i_ld | apply i_ldq); exact rfl) | ((with_reducible first | apply i_ldn | apply i_ldnq); exact rfl; exact rfl; exact rfl) | (with_reducible first | refine r_ph0 ?_ | apply i_kp0) | ((with_reducible first | apply i_st | apply i_stl); (focus simp); exact rfl) | simp only [go_sem, Nat.reduceAdd, Nat.reduceEqDiff, Int.reduceToNat, Nat.reduceMul, Nat.reduceSub] | (clear hK; clear K))
  refine i_clp F8 ?_
  repeat' (first | ((with_reducible refine d_seq ?_); intro K hK) | ((with_reducible refine d_reg ?_); simp only [go_sem, Nat.reduceAdd, Nat.reduceEqDiff, Int.reduceToNat, Nat.reduceMul, Nat.reduceSub]) | ((first | ((with_reducible apply d_cond); exact rfl) | (with_reducible refine r_cnd ?_ ?_)); all_goals (intro hc; (try simp only [push_cast, Int.reduceEq, Int.reduceLT, Int.reduceLE, Int.reduceNe] at hc))) | ((with_reducible refine hK _ _ ?_); clear hK; clear K) | (with_reducible refine r_rq (by first | decide | omega) ?_) | ((with_reducible refine r_nwc ?_); intro b) | ((with_reducible first | apply i_lds | apply i_ldsq | apply i_ld | apply i_ldq); exact rfl) | ((with_reducible first | apply i_ldn | apply i_ldnq); exact rfl; exact rfl; exact rfl) | (with_reducible first | refine r_ph0 ?_ | apply i_kp0) | ((with_reducible first | apply i_st | apply i_stl); (focus simp); exact rfl) | simp only [go_sem, Nat.reduceAdd, Nat.reduceEqDiff, Int.reduceToNat, Nat.reduceMul, Nat.reduceSub] | (clear hK; clear K))
  refine i_clp (f32 [97]) ?_
  repeat' (first | ((with_reducible refine d_seq ?_); intro K hK) | ((with_reducible refine d_reg ?_); simp only [go_sem, Nat.reduceAdd, Nat.reduceEqDiff, Int.reduceToNat, Nat.reduceMul, Nat.reduceSub]) | ((first | ((with_reducible apply d_cond); exact rfl) | (with_reducible refine r_cnd ?_ ?_)); all_goals (intro hc; (try simp only [push_cast, Int.reduceEq, Int.reduceLT, Int.reduceLE, Int.reduceNe] at hc))) | ((with_reducible refine hK _ _ ?_); clear hK; clear K) | (with_reducible refine r_rq (by first | decide | omega) ?_) | ((with_reducible refine r_nwc ?_); intro b) | ((with_reducible first | apply i_lds | apply i_ldsq | apply i_ld | apply i_ldq); exact rfl) | ((with_reducible first | apply i_ldn | apply i_ldnq); exact rfl; exact rfl; exact rfl) | (with_reducible first | refine r_ph0 ?_ | apply i_kp0) | ((with_reducible first | apply i_st | apply i_stl); (focus simp); exact rfl) | simp only [go_sem, Nat.reduceAdd, Nat.reduceEqDiff, Int.reduceToNat, Nat.reduceMul, Nat.reduceSub] | (clear hK; clear K))
  (with_reducible first | apply i_ret0 | apply i_ret2 | apply i_ret3 | apply i_ret); exact rfl
  simp
end Go.Sp
