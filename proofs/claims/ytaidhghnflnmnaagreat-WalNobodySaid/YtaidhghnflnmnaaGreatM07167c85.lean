/- Texts of a proof, one behind the other: U8 U9 V1 Gxf0 V2 V3 V4 V5 V6 V7 V8 V9 V10 K26 V11 W1 Gyf0 W3. No condition. -/
import Derived.Test.YtaidhghnflnmnaaGreatMa79be91a
import Derived.Test.YtaidhghnflnmnaaGreatMc004010e
/- The log: Records. -/
namespace Go.Sp
open Go Go.Proofs
set_option linter.unusedSimpArgs false
set_option linter.unusedVariables false
set_option maxRecDepth 10000
/-- The records from a place on, and where each stands. -/
def rcs (s : List UInt8) : Nat → Nat → List (Nat × Rc)
  | 0, _ => []
  | k + 1, a => if a < s.length then (if (opn s (a : Int)).2.2 = 0 then (a + 1, (opn s (a : Int)).1) :: rcs s k (a + (opn s (a : Int)).2.1.toNat) else []) else []
def recs (s : List UInt8) : List (Nat × Rc) := rcs s (s.length + 1) 0
theorem Rs.wide {A B : HP} {s : SlV} {sz : Nat} {cs : List Value} (h : Rs A s sz cs) (w : ∀ x, B x → ∃ a, sub a x ∧ A a) : Rs B s sz cs :=
  ⟨h.1, h.2.1, fun a ha x hx j v hj => by
    obtain ⟨y, hy, hA⟩ := w x hx
    exact pc_sub hy (h.2.2 a ha y hA j v hj)⟩
theorem RcAt.wide {A B : HP} {r : api_Rec} {c : Rc} (h : RcAt A r c) (w : ∀ x, B x → ∃ a, sub a x ∧ A a) : RcAt B r c := ⟨h.e, h.i.wide w, h.t.wide w, h.li, h.lt⟩
theorem two1 {A S : HP} : ∀ x, HS [A, S] x → ∃ a, sub a x ∧ A a := fun x ⟨a, b, d, sa, sb, pa, pb⟩ => ⟨a, sa, pa⟩
theorem two2 {A S : HP} : ∀ x, HS [A, S] x → ∃ a, sub a x ∧ S a := fun x ⟨a, b, d, sa, sb, pa, ⟨c, e, d2, sc, se, pc, pe⟩⟩ => ⟨c, sc.trans sb, pc⟩
/-- The records are those. -/
structure RL (S : HP) (rs : List api_Rec) (cs : List Rc) : Prop where
  n : rs.length = cs.length
  g : ∀ (i : Nat) (r : api_Rec) (c : Rc), rs[i]? = some r → cs[i]? = some c → RcAt S r c
theorem RL.snoc {A S : HP} {rs : List api_Rec} {cs : List Rc} {r : api_Rec} {c : Rc} (h : RL S rs cs) (hr : RcAt A r c) : RL (HS [A, S]) (rs ++ [r]) (cs ++ [c]) := by
  refine ⟨by rw [List.length_append, List.length_append, h.n]; rfl, fun i r' c' h1 h2 => ?_⟩
  rcases Nat.lt_or_ge i rs.length with hi | hi
  · rw [List.getElem?_append_left hi] at h1
    rw [List.getElem?_append_left (by rw [← h.n]; exact hi)] at h2
    exact (h.g i r' c' h1 h2).wide two2
  · rw [List.getElem?_append_right hi] at h1
    rw [List.getElem?_append_right (by rw [← h.n]; exact hi)] at h2
    have e : i - rs.length = 0 := by
      rcases Nat.eq_zero_or_pos (i - rs.length) with h0 | h0
      · exact h0
      · rw [List.getElem?_eq_none (by simp; omega)] at h1; cases h1
    rw [e] at h1
    rw [← h.n, e] at h2
    simp only [List.getElem?_cons_zero, Option.some.injEq] at h1 h2
    subst h1 h2
    exact hr.wide two1
set_option maxHeartbeats 2000000 in
theorem g25 (G : Lg) (sb : Nat) (hl : G.all.length ≤ 1000000) : Fn (eT2 eSl eSl) Tryz.prog 25 #[G.p] [lgp G sb] fun y X => ∃ (S : HP) (rs : List api_Rec), X = [ow 36 13 y.1 (rs.flatMap rcl), ow 3 1 y.2 ((recs G.all).map fun x => .int .i64 (x.1 : Int)), S, lgp G sb] ∧ RL S rs ((recs G.all).map (·.2)) := fun L => by
  refine c25_fn rfl rfl ?_
  generalize hB : recs G.all = B
  repeat' ((fail_if_success with_reducible refine nph ?_); first | (with_reducible first | (refine d_seq ?_; intro K hK) | (refine hK _ _ ?_; clear hK K) | refine d_blk ?_ | refine d_rt0 ?_ | refine d_sk0 ?_ | refine d_ex0 ?_ | (refine r_nwc ?_; intro b)) | (first | ((with_reducible refine d_cnd ?_); refine And.intro ?_ ?_) | with_reducible refine r_cnd ?_ ?_) <;> intro hc <;> try simp only [push_cast, Int.reduceEq, Int.reduceLT, Int.reduceLE, Int.reduceNe] at hc | with_reducible refine r_rq (by first | decide | omega) ?_ | ((with_reducible first | apply i_lds | apply i_ldsq | apply i_ld | apply i_ldq); exact rfl) | ((with_reducible first | apply i_ldn | apply i_ldnq); exact rfl; exact rfl; exact rfl) | (with_reducible first | refine r_ph0 ?_ | apply i_kp0) | ((with_reducible first | apply i_st | apply i_stl); (focus simp); exact rfl) | ((try with_reducible refine d_reg ?_); simp only [go_sem, Nat.reduceAdd, Nat.reduceEqDiff, Int.reduceToNat, Nat.reduceMul, Nat.reduceSub]) | clear hK K)
  refine i_clp (g83 G sb) ?_
  repeat' ((fail_if_success with_reducible refine nph ?_); first | (with_reducible first | (refine d_seq ?_; intro K hK) | (refine hK _ _ ?_; clear hK K) | refine d_blk ?_ | refine d_rt0 ?_ | refine d_sk0 ?_ | refine d_ex0 ?_ | (refine r_nwc ?_; intro b)) | (first | ((with_reducible refine d_cnd ?_); refine And.intro ?_ ?_) | with_reducible refine r_cnd ?_ ?_) <;> intro hc <;> try simp only [push_cast, Int.reduceEq, Int.reduceLT, Int.reduceLE, Int.reduceNe] at hc | with_reducible refine r_rq (by first | decide | omega) ?_ | ((with_reducible first | apply i_lds | apply i_ldsq | apply i_ld | apply i_ldq); exact rfl) | ((with_reducible first | apply i_ldn | apply i_ldnq); exact rfl; exact rfl; exact rfl) | (with_reducible first | refine r_ph0 ?_ | apply i_kp0) | ((with_reducible first | apply i_st | apply i_stl); (focus simp); exact rfl) | ((try with_reducible refine d_reg ?_); simp only [go_sem, Nat.reduceAdd, Nat.reduceEqDiff, Int.reduceToNat, Nat.reduceMul, Nat.reduceSub]) | clear hK K)
  all_goals try contradiction
  refine r_nilow 36 13 ?_
  refine r_nilow 3 1 ?_
  refine r_nilow 123 2 ?_
  obtain ⟨S0, hS0⟩ : ∃ S, S = ow 123 2 (none, 0, 0) [] := ⟨_, rfl⟩
  rw [← hS0]
  clear hS0
  refine d_lp [0, 4, 5, 6] (fun t : Nat × Nat × SlV × SlV × HP × List api_Rec × List (Nat × Rc) => [(0, .pointer (some ⟨G.q, 0, none⟩)), (4, .slice t.2.2.1.1 t.2.2.1.2.1 t.2.2.1.2.2), (5, .slice t.2.2.2.1.1 t.2.2.2.1.2.1 t.2.2.2.1.2.2), (6, .int .i64 ((t.2.1 + 1 : Nat) : Int))])
    (fun t => ow 36 13 t.2.2.1 (t.2.2.2.2.2.1.flatMap rcl) :: ow 3 1 t.2.2.2.1 (t.2.2.2.2.2.2.map fun x => .int .i64 (x.1 : Int)) :: t.2.2.2.2.1 :: lgp G sb :: L)
    (fun t => t.2.1 ≤ G.all.length ∧ t.2.2.2.2.2.2 ++ rcs G.all t.1 t.2.1 = B ∧ RL t.2.2.2.2.1 t.2.2.2.2.2.1 (t.2.2.2.2.2.2.map (·.2)) ∧ t.2.2.1.2.1 ≤ t.2.1 ∧ t.2.2.2.1.2.1 ≤ t.2.1 ∧ G.all.length + 1 ≤ t.1 + t.2.1) (fun t => t.1)
    (G.all.length + 1, 0, (none, 0, 0), (none, 0, 0), S0, [], []) rfl ?_ ⟨by dsimp only; omega, hB, ⟨rfl, fun i r c h => by simp at h⟩, by dsimp only; omega, by dsimp only; omega, by dsimp only; omega⟩ ?_
  · show Sub (ow 36 13 (none, 0, 0) [] :: ow 3 1 (none, 0, 0) [] :: S0 :: lgp G sb :: L) _
    exact SX.p
  rintro ⟨k, a, ⟨p, pn, pc⟩, ⟨q, qn, qc⟩, S, rs, done⟩ ⟨h1, h2, h3, h4, h5, h6⟩
  dsimp only at h1 h2 h3 h4 h5 h6 ⊢
  repeat' ((fail_if_success with_reducible refine nph ?_); first | (with_reducible first | (refine d_seq ?_; intro K hK) | (refine hK _ _ ?_; clear hK K) | refine d_blk ?_ | refine d_rt0 ?_ | refine d_sk0 ?_ | refine d_ex0 ?_ | (refine r_nwc ?_; intro b)) | (first | ((with_reducible refine d_cnd ?_); refine And.intro ?_ ?_) | with_reducible refine r_cnd ?_ ?_) <;> intro hc <;> try simp only [push_cast, Int.reduceEq, Int.reduceLT, Int.reduceLE, Int.reduceNe] at hc | with_reducible refine r_rq (by first | decide | omega) ?_ | ((with_reducible first | apply i_lds | apply i_ldsq | apply i_ld | apply i_ldq); exact rfl) | ((with_reducible first | apply i_ldn | apply i_ldnq); exact rfl; exact rfl; exact rfl) | (with_reducible first | refine r_ph0 ?_ | apply i_kp0) | ((with_reducible first | apply i_st | apply i_stl); (focus simp); exact rfl) | ((try with_reducible refine d_reg ?_); simp only [go_sem, Nat.reduceAdd, Nat.reduceEqDiff, Int.reduceToNat, Nat.reduceMul, Nat.reduceSub]) | clear hK K)
  · have hlt : a < G.all.length := by omega
    obtain ⟨k', rfl⟩ : ∃ k', k = k' + 1 := ⟨k - 1, by omega⟩
    rw [show rcs G.all (k' + 1) a = if a < G.all.length then (if (opn G.all (a : Int)).2.2 = 0 then (a + 1, (opn G.all (a : Int)).1) :: rcs G.all k' (a + (opn G.all (a : Int)).2.1.toNat) else []) else [] from rfl, if_pos hlt] at h2
    have R := g35 G sb hl ((a + 1 : Nat) : Int)
    unfold Lg.read at R
    have ea : ((a + 1 : Nat) : Int) - 1 = (a : Int) := by omega
    rw [if_neg (by omega), ea] at R
    have hst := opn_step (s := G.all) (a := a) (by omega)
    generalize opn G.all (a : Int) = o at *
    obtain ⟨c, n, e⟩ := o
    dsimp only at h2 R hst
    by_cases he : e = 0
    · subst he
      obtain ⟨m, rfl, m1, m2⟩ := hst rfl
      rw [if_pos rfl] at R h2
      rw [Int.toNat_natCast] at h2
      dsimp only at R
      refine i_cal R ?_
      rintro ⟨⟨k1, k2, k3, k4, k5, k6, k7, k8, k9, k10, k11, k12, k13⟩, y⟩ X ⟨A, rfl, hr, hy⟩
      dsimp only at hr hy
      subst hy
      repeat' ((fail_if_success with_reducible refine nph ?_); first | (with_reducible first | (refine d_seq ?_; intro K hK) | (refine hK _ _ ?_; clear hK K) | refine d_blk ?_ | refine d_rt0 ?_ | refine d_sk0 ?_ | refine d_ex0 ?_ | (refine r_nwc ?_; intro b)) | (first | ((with_reducible refine d_cnd ?_); refine And.intro ?_ ?_) | with_reducible refine r_cnd ?_ ?_) <;> intro hc <;> try simp only [push_cast, Int.reduceEq, Int.reduceLT, Int.reduceLE, Int.reduceNe] at hc | with_reducible refine r_rq (by first | decide | omega) ?_ | ((with_reducible first | apply i_lds | apply i_ldsq | apply i_ld | apply i_ldq); exact rfl) | ((with_reducible first | apply i_ldn | apply i_ldnq); exact rfl; exact rfl; exact rfl) | (with_reducible first | refine r_ph0 ?_ | apply i_kp0) | ((with_reducible first | apply i_st | apply i_stl); (focus simp); exact rfl) | ((try with_reducible refine d_reg ?_); simp only [go_sem, Nat.reduceAdd, Nat.reduceEqDiff, Int.reduceToNat, Nat.reduceMul, Nat.reduceSub]) | clear hK K)
      all_goals try (first | contradiction | (simp only [ reduceCtorEq] at *; done) | (exfalso; omega))
      refine i_ldn (e := e_api_Rec) (x := ⟨k1, k2, k3, k4, k5, k6, k7, k8, k9, k10, k11, k12, k13⟩) rfl rfl rfl ?_
      repeat' ((fail_if_success with_reducible refine nph ?_); first | (with_reducible first | (refine d_seq ?_; intro K hK) | (refine hK _ _ ?_; clear hK K) | refine d_blk ?_ | refine d_rt0 ?_ | refine d_sk0 ?_ | refine d_ex0 ?_ | (refine r_nwc ?_; intro b)) | (first | ((with_reducible refine d_cnd ?_); refine And.intro ?_ ?_) | with_reducible refine r_cnd ?_ ?_) <;> intro hc <;> try simp only [push_cast, Int.reduceEq, Int.reduceLT, Int.reduceLE, Int.reduceNe] at hc | with_reducible refine r_rq (by first | decide | omega) ?_ | ((with_reducible first | apply i_lds | apply i_ldsq | apply i_ld | apply i_ldq); exact rfl) | ((with_reducible first | apply i_ldn | apply i_ldnq); exact rfl; exact rfl; exact rfl) | (with_reducible first | refine r_ph0 ?_ | apply i_kp0) | ((with_reducible first | apply i_st | apply i_stl); (focus simp); exact rfl) | ((try with_reducible refine d_reg ?_); simp only [go_sem, Nat.reduceAdd, Nat.reduceEqDiff, Int.reduceToNat, Nat.reduceMul, Nat.reduceSub]) | clear hK K)
      refine i_app (t := 36) (sz := 13) (m := 1) (news := rcl ⟨k1, k2, k3, k4, k5, k6, k7, k8, k9, k10, k11, k12, k13⟩) (p, pn, pc) 160 (by kernel_rfl) (by decide) rfl rfl (by dsimp only; omega) fun o' ho' _ => ?_
      have e1 : rs.flatMap rcl ++ rcl ⟨k1, k2, k3, k4, k5, k6, k7, k8, k9, k10, k11, k12, k13⟩ = (rs ++ [(⟨k1, k2, k3, k4, k5, k6, k7, k8, k9, k10, k11, k12, k13⟩ : api_Rec)]).flatMap rcl := by rw [List.flatMap_append]; simp
      rw [e1]
      repeat' ((fail_if_success with_reducible refine nph ?_); first | (with_reducible first | (refine d_seq ?_; intro K hK) | (refine hK _ _ ?_; clear hK K) | refine d_blk ?_ | refine d_rt0 ?_ | refine d_sk0 ?_ | refine d_ex0 ?_ | (refine r_nwc ?_; intro b)) | (first | ((with_reducible refine d_cnd ?_); refine And.intro ?_ ?_) | with_reducible refine r_cnd ?_ ?_) <;> intro hc <;> try simp only [push_cast, Int.reduceEq, Int.reduceLT, Int.reduceLE, Int.reduceNe] at hc | with_reducible refine r_rq (by first | decide | omega) ?_ | ((with_reducible first | apply i_lds | apply i_ldsq | apply i_ld | apply i_ldq); exact rfl) | ((with_reducible first | apply i_ldn | apply i_ldnq); exact rfl; exact rfl; exact rfl) | (with_reducible first | refine r_ph0 ?_ | apply i_kp0) | ((with_reducible first | apply i_st | apply i_stl); (focus simp); exact rfl) | ((try with_reducible refine d_reg ?_); simp only [go_sem, Nat.reduceAdd, Nat.reduceEqDiff, Int.reduceToNat, Nat.reduceMul, Nat.reduceSub]) | clear hK K)
      refine i_app (t := 3) (sz := 1) (m := 1) (news := [.int .i64 ((a + 1 : Nat) : Int)]) (q, qn, qc) 8 (by kernel_rfl) (by decide) rfl rfl (by dsimp only; omega) fun o2 ho2 _ => ?_
      have e2 : (done.map fun x => Value.int .i64 (x.1 : Int)) ++ [.int .i64 ((a + 1 : Nat) : Int)] = (done ++ [(a + 1, c)]).map fun x => .int .i64 (x.1 : Int) := by simp
      rw [e2]
      repeat' ((fail_if_success with_reducible refine nph ?_); first | (with_reducible first | (refine d_seq ?_; intro K hK) | (refine hK _ _ ?_; clear hK K) | refine d_blk ?_ | refine d_rt0 ?_ | refine d_sk0 ?_ | refine d_ex0 ?_ | (refine r_nwc ?_; intro b)) | (first | ((with_reducible refine d_cnd ?_); refine And.intro ?_ ?_) | with_reducible refine r_cnd ?_ ?_) <;> intro hc <;> try simp only [push_cast, Int.reduceEq, Int.reduceLT, Int.reduceLE, Int.reduceNe] at hc | with_reducible refine r_rq (by first | decide | omega) ?_ | ((with_reducible first | apply i_lds | apply i_ldsq | apply i_ld | apply i_ldq); exact rfl) | ((with_reducible first | apply i_ldn | apply i_ldnq); exact rfl; exact rfl; exact rfl) | (with_reducible first | refine r_ph0 ?_ | apply i_kp0) | ((with_reducible first | apply i_st | apply i_stl); (focus simp); exact rfl) | ((try with_reducible refine d_reg ?_); simp only [go_sem, Nat.reduceAdd, Nat.reduceEqDiff, Int.reduceToNat, Nat.reduceMul, Nat.reduceSub]) | clear hK K)
      have e3 : ((a + 1 : Nat) : Int) + (m : Int) = ((a + m + 1 : Nat) : Int) := by omega
      rw [e3]
      refine E.sub (L' := [A, S] ++ (ow 36 13 o' ((rs ++ [(⟨k1, k2, k3, k4, k5, k6, k7, k8, k9, k10, k11, k12, k13⟩ : api_Rec)]).flatMap rcl) :: ow 3 1 o2 ((done ++ [(a + 1, c)]).map fun x => .int .i64 (x.1 : Int)) :: lgp G sb :: L)) SX.p ?_
      refine E.close ?_
      exact i_bk (k', a + m, o', o2, HS [A, S], rs ++ [⟨k1, k2, k3, k4, k5, k6, k7, k8, k9, k10, k11, k12, k13⟩], done ++ [(a + 1, c)]) rfl ⟨by dsimp only; omega, by dsimp only; rw [List.append_assoc]; exact h2, by dsimp only; rw [List.map_append]; exact h3.snoc hr, by dsimp only at ho' ⊢; omega, by dsimp only at ho2 ⊢; omega, by dsimp only; omega⟩ (by dsimp only; omega)
    · rw [if_neg he] at R h2
      rw [List.append_nil] at h2
      subst h2
      dsimp only at R
      refine i_cal R ?_
      rintro ⟨⟨k1, k2, k3, k4, k5, k6, k7, k8, k9, k10, k11, k12, k13⟩, y⟩ X ⟨A, rfl, hr, hy⟩
      dsimp only at hr hy
      subst hy
      repeat' ((fail_if_success with_reducible refine nph ?_); first | (with_reducible first | (refine d_seq ?_; intro K hK) | (refine hK _ _ ?_; clear hK K) | refine d_blk ?_ | refine d_rt0 ?_ | refine d_sk0 ?_ | refine d_ex0 ?_ | (refine r_nwc ?_; intro b)) | (first | ((with_reducible refine d_cnd ?_); refine And.intro ?_ ?_) | with_reducible refine r_cnd ?_ ?_) <;> intro hc <;> try simp only [push_cast, Int.reduceEq, Int.reduceLT, Int.reduceLE, Int.reduceNe] at hc | with_reducible refine r_rq (by first | decide | omega) ?_ | ((with_reducible first | apply i_lds | apply i_ldsq | apply i_ld | apply i_ldq); exact rfl) | ((with_reducible first | apply i_ldn | apply i_ldnq); exact rfl; exact rfl; exact rfl) | (with_reducible first | refine r_ph0 ?_ | apply i_kp0) | ((with_reducible first | apply i_st | apply i_stl); (focus simp); exact rfl) | ((try with_reducible refine d_reg ?_); simp only [go_sem, Nat.reduceAdd, Nat.reduceEqDiff, Int.reduceToNat, Nat.reduceMul, Nat.reduceSub]) | clear hK K)
      all_goals try (first | contradiction | (simp only [ reduceCtorEq] at *; done) | (exfalso; omega))
      exact i_done (e := eT2 eSl eSl) ((p, pn, pc), (q, qn, qc)) [ow 36 13 (p, pn, pc) (rs.flatMap rcl), ow 3 1 (q, qn, qc) (done.map fun x => .int .i64 (x.1 : Int)), S, lgp G sb] rfl ⟨S, rs, rfl, h3⟩
  · have e : rcs G.all k a = [] := by
      cases k with
      | zero => rfl
      | succ k => unfold rcs; rw [if_neg (by omega)]
    rw [e, List.append_nil] at h2
    subst h2
    exact i_done (e := eT2 eSl eSl) ((p, pn, pc), (q, qn, qc)) [ow 36 13 (p, pn, pc) (rs.flatMap rcl), ow 3 1 (q, qn, qc) (done.map fun x => .int .i64 (x.1 : Int)), S, lgp G sb] rfl ⟨S, rs, rfl, h3⟩
end Go.Sp
/- The log: From. -/
namespace Go.Sp
open Go Go.Proofs
set_option linter.unusedSimpArgs false
set_option linter.unusedVariables false
set_option maxRecDepth 10000
def frl (s : List UInt8) (most : Int) : Nat → Nat → List UInt8 × Int
  | 0, a => (s.take a, 0)
  | k + 1, a => if (opn s (a : Int)).2.2 = 0 then (if 0 < a ∧ most - (a : Int) < (opn s (a : Int)).2.1 then (s.take a, 0) else frl s most k (a + (opn s (a : Int)).2.1.toNat))
    else if a = 0 ∧ 0 < s.length then ([], 4) else (s.take a, 0)
def Lg.from (G : Lg) (lsn most : Int) : List UInt8 × Int :=
  if lsn < 1 ∨ (G.durable : Int) + 1 < lsn then ([], 6) else
  (fun s : List UInt8 => frl s (if most < 0 then 0 else most) (s.length + 1) 0) ((G.all.take G.durable).drop (lsn - 1).toNat)
end Go.Sp
/- The log's law: a number as bytes; a small record. -/
namespace Go.Sp
open Go Go.Proofs
set_option linter.unusedSimpArgs false
set_option linter.unusedVariables false
set_option maxRecDepth 10000
def cm (n : Int) : Rc := { Rc.z 7 with txn := n, prev := 1 }
theorem g37 (n : Int) : Fp e_api_Rec Tryz.prog 37 #[.int .i64 n] [] ⟨7, n, 1, 0, 0, [], [], [], 0, (none, 0, 0), (none, 0, 0), 0, 0⟩ := fun L => by
  refine c37_fn rfl rfl ?_
  repeat' ((fail_if_success with_reducible refine nph ?_); first | (with_reducible first | (refine d_seq ?_; intro K hK) | (refine hK _ _ ?_; clear hK K) | refine d_blk ?_ | refine d_rt0 ?_ | refine d_sk0 ?_ | refine d_ex0 ?_ | (refine r_nwc ?_; intro b)) | (first | ((with_reducible refine d_cnd ?_); refine And.intro ?_ ?_) | with_reducible refine r_cnd ?_ ?_) <;> intro hc <;> try simp only [push_cast, Int.reduceEq, Int.reduceLT, Int.reduceLE, Int.reduceNe] at hc | with_reducible refine r_rq (by first | decide | omega) ?_ | ((with_reducible first | apply i_lds | apply i_ldsq | apply i_ld | apply i_ldq); exact rfl) | ((with_reducible first | apply i_ldn | apply i_ldnq); exact rfl; exact rfl; exact rfl) | (with_reducible first | refine r_ph0 ?_ | apply i_kp0) | ((with_reducible first | apply i_st | apply i_stl); (focus simp); exact rfl) | ((try with_reducible refine d_reg ?_); simp only [go_sem, Nat.reduceAdd, Nat.reduceEqDiff, Int.reduceToNat, Nat.reduceMul, Nat.reduceSub]) | clear hK K)
  refine i_ldn (e := e_api_Rec) (x := ⟨7, n, 1, 0, 0, [], [], [], 0, (none, 0, 0), (none, 0, 0), 0, 0⟩) rfl rfl rfl ?_
  (with_reducible first | apply i_ret0 | apply i_ret2 | apply i_ret3 | apply i_ret); exact rfl
  rfl
theorem cm_at (A : HP) (n : Int) : RcAt A ⟨7, n, 1, 0, 0, [], [], [], 0, (none, 0, 0), (none, 0, 0), 0, 0⟩ (cm n) := ⟨rfl, Rs_nil, Rs_nil, by simp [cm, Rc.z], by simp [cm, Rc.z]⟩
theorem cm_frame {n : Int} (h : fitN n 6) : ∃ f, (cm n).frame = (f, 0) ∧ f.length = 19 := by
  have hc : (cm n).clean = cm n := rfl
  have p1 : fitN 7 1 := ⟨by decide, by decide⟩
  have p6 : fitN 1 6 := ⟨by decide, by decide⟩
  have hb : (cm n).body = (lowb 7 1 ++ lowb n 6 ++ lowb 1 6, 0) := by
    have e : (cm n).body = bfin (layN (layN (layN ([], 0) 7 1) n 6) 1 6) 0 := rfl
    rw [e, layN_go p1, layN_go h, layN_go p6]
    unfold bfin
    rw [if_pos rfl, if_pos rfl, if_neg (by simp only [List.length_append, lowb_len, List.length_nil]; omega)]
    simp
  refine ⟨_, by unfold Rc.frame; rw [hc, hb, if_pos rfl], ?_⟩
  simp only [List.length_append, lowb_len]
end Go.Sp
/- What each region of the Go functions does. Written by my own generator. -/
namespace Go.Sp
open Go
set_option maxRecDepth 100000
set_option linter.unusedVariables false
open Go.Proofs
/-! gharry.gharrylaw08.few -/
end Go.Sp
/- The log's law: a record of few pages and transactions. -/
namespace Go.Sp
open Go Go.Proofs
set_option linter.unusedSimpArgs false
set_option linter.unusedVariables false
set_option maxRecDepth 10000
def few (c : Rc) : Rc := { c with imgs := c.imgs.take 2, tbl := c.tbl.take 3 }
end Go.Sp
/- The log on a disk that nothing lets go. -/
namespace Go.Sp
open Go Go.Proofs
set_option linter.unusedSimpArgs false
set_option linter.unusedVariables false
set_option maxRecDepth 10000
theorem calm_get {Z : Dk} {sb n : Nat} (h : Z.calm sb n) {i : Nat} (hi : i < n) {s : List UInt8} (hs : s.length ≤ 64) (j : Nat) : (Z.write (i : Int) s).2.get (j : Int) = if i = j then wh s else Z.get (j : Int) := by
  obtain ⟨_, _, w3, _, w5⟩ := h.write hi hs
  unfold Dk.get
  rw [w5, w3]
  by_cases e : i = j
  · subst e
    rw [if_pos rfl, if_pos rfl]
    rfl
  · rw [if_neg (by omega), if_neg e]
theorem sec_len (G : Lg) (i : Nat) : (G.sec i).length ≤ 64 := by
  have := part_le G.all i
  unfold Lg.sec
  simp only [List.length_append, lowb_len]
  omega
/-- A sector is written. -/
theorem lw_calm {Z : Dk} {sb n : Nat} (h : Z.calm sb n) {G : Lg} (hG : G.ok n) (i : Nat) : (Z.lw G i).1 = 0 ∧ (Z.lw G i).2.calm sb n ∧ ∀ j : Nat, (Z.lw G i).2.get (j : Int) = if i < G.sectors ∧ j = G.base + i then wh (G.sec i) else Z.get (j : Int) := by
  have hfit := hG.fit
  unfold Dk.lw
  by_cases h1 : G.sectors ≤ i
  · rw [if_pos h1]
    exact ⟨rfl, h, fun j => by rw [if_neg (by omega)]⟩
  · rw [if_neg h1]
    obtain ⟨w1, w2, _⟩ := h.write (i := G.base + i) (by omega) (sec_len G i)
    refine ⟨w1, w2, fun j => ?_⟩
    rw [calm_get h (by omega) (sec_len G i)]
    by_cases hj : G.base + i = j
    · rw [if_pos hj, if_pos ⟨by omega, hj.symm⟩]
    · rw [if_neg hj, if_neg (by omega)]
theorem lws_calm {sb n : Nat} {G : Lg} (hG : G.ok n) : ∀ (k i : Nat) {Z : Dk}, Z.calm sb n → G.sectors + 1 ≤ k + i → (lws G k i Z).1 = 0 ∧ (lws G k i Z).2.calm sb n ∧ ∀ j : Nat, (lws G k i Z).2.get (j : Int) = if G.base + i ≤ j ∧ 58 * (j - G.base) < G.all.length then wh (G.sec (j - G.base)) else Z.get (j : Int)
  | 0, i, Z, h, hk => by
    have := hG.le
    refine ⟨rfl, h, fun j => ?_⟩
    rw [if_neg (by omega)]
    rfl
  | k + 1, i, Z, h, hk => by
    have hle := hG.le
    by_cases hi : 58 * i < G.all.length
    · obtain ⟨a1, a2, a3⟩ := lw_calm h hG i
      obtain ⟨b1, b2, b3⟩ := lws_calm hG k (i + 1) a2 (by omega)
      have e : lws G (k + 1) i Z = lws G k (i + 1) (Z.lw G i).2 := by
        show (if 58 * i < G.all.length then _ else _) = _
        rw [if_pos hi, if_pos a1]
      rw [e]
      refine ⟨b1, b2, fun j => ?_⟩
      rw [b3, a3]
      by_cases hj : j = G.base + i
      · rw [if_neg (by omega), if_pos ⟨by omega, hj⟩, if_pos ⟨by omega, by rw [hj, Nat.add_sub_cancel_left]; exact hi⟩, hj, Nat.add_sub_cancel_left]
      · by_cases hm : G.base + (i + 1) ≤ j ∧ 58 * (j - G.base) < G.all.length
        · rw [if_pos hm, if_pos ⟨by omega, hm.2⟩]
        · rw [if_neg hm, if_neg (by omega), if_neg (by omega)]
    · have e : lws G (k + 1) i Z = (0, Z) := by
        show (if 58 * i < G.all.length then _ else _) = _
        rw [if_neg hi]
      rw [e]
      refine ⟨rfl, h, fun j => ?_⟩
      rw [if_neg (by omega)]
end Go.Sp
/- What is scanned of a log's sectors. -/
namespace Go.Sp
open Go Go.Proofs
set_option linter.unusedSimpArgs false
set_option linter.unusedVariables false
set_option maxRecDepth 10000
def secb (r : Nat) (p : List UInt8) : List UInt8 := lowb (r : Int) 4 ++ lowb (p.length : Int) 2 ++ p
theorem sec_b (G : Lg) (i : Nat) : G.sec i = secb G.run (part G.all i) := rfl
def at4 (v : List UInt8) : Nat := be (v.take 4)
def n2 (v : List UInt8) : Nat := be ((v.drop 4).take 2)
theorem secb_rd {r : Nat} {p : List UInt8} (hr : r < 4294967296) (hp : p.length ≤ 58) : at4 (wh (secb r p)) = r ∧ n2 (wh (secb r p)) = p.length ∧ ((wh (secb r p)).drop 6).take p.length = p := by
  have l4 := lowb_len (r : Int) 4
  have l2 := lowb_len (p.length : Int) 2
  have e : wh (secb r p) = lowb (r : Int) 4 ++ (lowb (p.length : Int) 2 ++ (p ++ List.replicate (64 - (secb r p).length) 0)) := by
    unfold wh secb
    simp
  have b4 : be (lowb (r : Int) 4) = r := nat_eq (be_fits (by omega) (by rw [show ((256 ^ 4 : Nat) : Int) = 4294967296 by decide]; omega))
  have b2 : be (lowb (p.length : Int) 2) = p.length := nat_eq (be_fits (by omega) (by rw [show ((256 ^ 2 : Nat) : Int) = 65536 by decide]; omega))
  generalize List.replicate (64 - (secb r p).length) (0 : UInt8) = Y at e
  unfold at4 n2
  rw [e]
  refine ⟨by rw [List.take_left' l4, b4], by rw [List.drop_left' l4, List.take_left' l2, b2], ?_⟩
  have e2 : (lowb (r : Int) 4 ++ (lowb (p.length : Int) 2 ++ (p ++ Y))).drop 6 = p ++ Y := by
    rw [← List.append_assoc]
    exact List.drop_left' (by rw [List.length_append, l4, l2])
  rw [e2]
  exact List.take_left' rfl
def prv (ρ : Nat → Nat) (i : Nat) : Nat := if i = 0 then 1 else ρ (i - 1)
/-- What the sectors tell: their bytes go on, each in a run not ahead of the last, and behind them they stop. -/
structure Tells (Z : Dk) (base S : Nat) (all : List UInt8) (ρ : Nat → Nat) : Prop where
  secs : ∀ m, 58 * m < all.length → m < S → Z.get ((base + m : Nat) : Int) = wh (secb (ρ m) (part all m))
  mono : ∀ m, prv ρ m ≤ ρ m
  lt : ∀ m, ρ m < 4294967296
  stop : ∀ m, m < S → 58 * m = all.length → at4 (Z.get ((base + m : Nat) : Int)) < prv ρ m ∨ n2 (Z.get ((base + m : Nat) : Int)) = 0
  le : all.length ≤ 58 * S
theorem part_drop (all : List UInt8) (i : Nat) : all.drop (58 * i) = part all i ++ all.drop (58 * (i + 1)) := by
  unfold part
  rw [show 58 * (i + 1) = 58 * i + 58 by omega, ← List.drop_drop, List.take_append_drop]
theorem part_len (all : List UInt8) (i : Nat) : (part all i).length = min 58 (all.length - 58 * i) := by
  unfold part
  rw [List.length_take, List.length_drop]
theorem scn_is {Z : Dk} {base S top : Nat} {all : List UInt8} {ρ : Nat → Nat} (h : Tells Z base S all ρ) (ht : ∀ m, 58 * m < all.length → ρ m ≤ top) : ∀ k i, S = i + k → 58 * i ≤ all.length → Z.scn base top k i (prv ρ i) = all.drop (58 * i)
  | 0, i, hS, hi => by
    have := h.le
    rw [List.drop_eq_nil_of_le (by omega)]
    rfl
  | k + 1, i, hS, hi => by
    have hp := part_len all i
    by_cases hlt : 58 * i < all.length
    · obtain ⟨a1, a2, a3⟩ := secb_rd (r := ρ i) (p := part all i) (h.lt i) (part_le all i)
      have e := h.secs i hlt (by omega)
      unfold at4 at a1
      unfold n2 at a2
      have hm := h.mono i
      have htt := ht i hlt
      unfold Dk.scn
      rw [e, a1, a2, a3, if_neg (by have := part_le all i; omega), part_drop]
      by_cases h58 : (part all i).length < 58
      · rw [if_pos h58, List.drop_eq_nil_of_le (by omega)]
      · rw [if_neg h58]
        have ih := scn_is h ht k (i + 1) (by omega) (by omega)
        rw [show prv ρ (i + 1) = ρ i from rfl] at ih
        rw [ih]
    · have he : 58 * i = all.length := by omega
      rw [List.drop_eq_nil_of_le (by omega)]
      have hs := h.stop i (by omega) he
      unfold at4 n2 at hs
      unfold Dk.scn
      rcases hs with hs | hs
      · rw [if_pos (.inl hs)]
      · rw [hs]
        split
        · rfl
        · rfl
end Go.Sp
/- Frames in a row are whole. -/
namespace Go.Sp
open Go Go.Proofs
set_option linter.unusedSimpArgs false
set_option linter.unusedVariables false
set_option maxRecDepth 10000
def Frs (fs : List (List UInt8)) : Prop := ∀ f ∈ fs, ∃ c : Rc, c.short ∧ c.frame = (f, 0)
theorem whl_frs : ∀ (fs : List (List UInt8)) (s : List UInt8) (Y : List UInt8) (k a : Nat), Frs fs → a ≤ s.length → s.drop a = fs.flatten ++ Y → (opn0 Y).2.2 ≠ 0 → fs.length < k → whl s k a = a + fs.flatten.length
  | [], s, Y, k + 1, a, _, ha, hd, hY, _ => by
    unfold whl
    rw [opn_nat ha, hd]
    simp only [List.flatten_nil, List.nil_append, List.length_nil, Nat.add_zero]
    rw [if_neg hY]
  | f :: fs, s, Y, k + 1, a, hf, ha, hd, hY, hk => by
    obtain ⟨c, hs, hc⟩ := hf f (by simp)
    have e : s.drop a = f ++ (fs.flatten ++ Y) := by rw [hd]; simp
    have hl := congrArg List.length e
    rw [List.length_drop, List.length_append] at hl
    unfold whl
    rw [opn_nat ha, e, opn0_frame hs hc]
    dsimp only
    rw [if_pos rfl, Int.toNat_natCast]
    have e2 : s.drop (a + f.length) = fs.flatten ++ Y := by
      rw [← List.drop_drop, e]
      exact List.drop_left' rfl
    rw [whl_frs fs s Y k (a + f.length) (fun g hg => hf g (by simp [hg])) (by omega) e2 hY (by simp only [List.length_cons] at hk; omega)]
    simp only [List.flatten_cons, List.length_append]
    omega
theorem opn0_nil : (opn0 []).2.2 ≠ 0 := by decide
theorem frs_len : ∀ {fs : List (List UInt8)}, Frs fs → fs.length ≤ fs.flatten.length
  | [], _ => by simp
  | f :: fs, h => by
    obtain ⟨c, hs, hc⟩ := h f (by simp)
    have h1 := frame_len hs hc
    have h2 := frs_len (fs := fs) fun g hg => h g (by simp [hg])
    simp only [List.flatten_cons, List.length_append, List.length_cons]
    omega
theorem whole_frs {fs : List (List UInt8)} (h : Frs fs) : whole fs.flatten = fs.flatten.length := by
  have := whl_frs fs fs.flatten [] (fs.flatten.length + 1) 0 h (by omega) (by simp) opn0_nil (by have := frs_len h; omega)
  simpa [whole] using this
/-- Records with their frames, and where they stand. -/
def rl : List (List UInt8 × Rc) → Nat → List (Nat × Rc)
  | [], _ => []
  | x :: ps, a => (a + 1, x.2.clean) :: rl ps (a + x.1.length)
def Prs (ps : List (List UInt8 × Rc)) : Prop := ∀ x ∈ ps, x.2.short ∧ x.2.frame = (x.1, 0)
theorem Prs.frs {ps : List (List UInt8 × Rc)} (h : Prs ps) : Frs (ps.map (·.1)) := fun f hf => by
  obtain ⟨x, hx, rfl⟩ := List.mem_map.1 hf
  exact ⟨x.2, h x hx⟩
theorem rcs_prs : ∀ (ps : List (List UInt8 × Rc)) (s : List UInt8) (k a : Nat), Prs ps → a ≤ s.length → s.drop a = (ps.map (·.1)).flatten → ps.length < k → rcs s k a = rl ps a
  | [], s, k + 1, a, _, ha, hd, _ => by
    have hl := congrArg List.length hd
    rw [List.length_drop] at hl
    simp only [List.map_nil, List.flatten_nil, List.length_nil] at hl
    unfold rcs
    rw [if_neg (by omega)]
    rfl
  | x :: ps, s, k + 1, a, hp, ha, hd, hk => by
    obtain ⟨hs, hc⟩ := hp x (by simp)
    have h7 := frame_len hs hc
    have e : s.drop a = x.1 ++ (ps.map (·.1)).flatten := by rw [hd]; simp
    have hl := congrArg List.length e
    rw [List.length_drop, List.length_append] at hl
    unfold rcs
    rw [if_pos (by omega), opn_nat ha, e, opn0_frame hs hc]
    dsimp only
    rw [if_pos rfl, Int.toNat_natCast]
    have e2 : s.drop (a + x.1.length) = (ps.map (·.1)).flatten := by
      rw [← List.drop_drop, e]
      exact List.drop_left' rfl
    rw [rcs_prs ps s k (a + x.1.length) (fun y hy => hp y (by simp [hy])) (by omega) e2 (by simp only [List.length_cons] at hk; omega)]
    rfl
theorem recs_prs {ps : List (List UInt8 × Rc)} (h : Prs ps) : recs (ps.map (·.1)).flatten = rl ps 0 := by
  refine rcs_prs ps _ _ 0 h (by omega) (by simp) ?_
  have := frs_len h.frs
  rw [List.length_map] at this
  omega
end Go.Sp
/- The log on a disk that nothing lets go: mend, Flush. -/
namespace Go.Sp
open Go Go.Proofs
set_option linter.unusedSimpArgs false
set_option linter.unusedVariables false
set_option maxRecDepth 10000
theorem lmend_calm {Z : Dk} {sb n : Nat} (h : Z.calm sb n) {G : Lg} (hG : G.ok n) : (Z.lmend G).1 = 0 ∧ (Z.lmend G).2.2 = G ∧ (Z.lmend G).2.1.calm sb n ∧ (Z.lmend G).2.1.es = [] ∧ ∀ j : Nat, j < n → (Z.lmend G).2.1.get (j : Int) = if G.durable / 58 < G.sectors ∧ j = G.base + G.durable / 58 then wh (G.sec (G.durable / 58)) else Z.get (j : Int) := by
  have hn : 0 < n := by have := hG.fit; have := hG.s1; omega
  obtain ⟨a1, a2, a3⟩ := lw_calm h hG (G.durable / 58)
  obtain ⟨b1, b2, b3, _, b5⟩ := a2.sync hn
  unfold Dk.lmend
  rw [if_pos a1]
  dsimp only
  refine ⟨b1, by rw [b1]; exact down_0 G, b2, b3, fun j hj => ?_⟩
  rw [b5 j hj, a3]
theorem lflush_calm {Z : Dk} {sb n : Nat} (h : Z.calm sb n) {G : Lg} (hG : G.ok n) (hd : G.dead = false) : (Z.lflush G).1 = 0 ∧ (Z.lflush G).2.2 = { G with durable := G.all.length } ∧ (Z.lflush G).2.1.calm sb n ∧ (G.durable < G.all.length → (Z.lflush G).2.1.es = []) ∧
    (G.durable = G.all.length → (Z.lflush G).2.1 = Z) ∧ ∀ j : Nat, j < n → (Z.lflush G).2.1.get (j : Int) = if G.durable < G.all.length ∧ G.base + G.durable / 58 ≤ j ∧ 58 * (j - G.base) < G.all.length then wh (G.sec (j - G.base)) else Z.get (j : Int) := by
  have hn : 0 < n := by have := hG.fit; have := hG.s1; omega
  have hdu := hG.du
  unfold Dk.lflush
  rw [if_neg (by rw [hd]; decide)]
  by_cases hq : G.durable = G.all.length
  · rw [if_pos hq]
    refine ⟨rfl, ?_, h, fun hlt => by omega, fun _ => rfl, fun j hj => by rw [if_neg (by omega)]⟩
    dsimp only
    rw [← hq]
  · rw [if_neg hq]
    obtain ⟨a1, a2, a3⟩ := lws_calm hG (G.sectors + 1) (G.durable / 58) h (by omega)
    obtain ⟨b1, b2, b3, _, b5⟩ := a2.sync hn
    dsimp only
    rw [if_pos a1, if_pos b1]
    refine ⟨rfl, rfl, b2, fun _ => b3, fun e => absurd e hq, fun j hj => ?_⟩
    dsimp only
    rw [b5 j hj, a3]
    by_cases hj2 : G.base + G.durable / 58 ≤ j ∧ 58 * (j - G.base) < G.all.length
    · rw [if_pos hj2, if_pos ⟨by omega, hj2⟩]
    · rw [if_neg hj2, if_neg (fun hx => hj2 hx.2)]
end Go.Sp
/- The log on a disk that nothing lets go: what its sectors tell stays so. -/
namespace Go.Sp
open Go Go.Proofs
set_option linter.unusedSimpArgs false
set_option linter.unusedVariables false
set_option maxRecDepth 10000
structure Wi (Z : Dk) (sb n : Nat) (G : Lg) (ρ : Nat → Nat) : Prop where
  calm : Z.calm sb n
  ok : G.ok n
  dead : G.dead = false
  tells : Tells Z G.base G.sectors (G.all.take G.durable) ρ
  top : ∀ m, 58 * m < G.durable → ρ m ≤ G.run
  fresh : ∀ m, m < G.sectors → G.durable < 58 * m → at4 (Z.get ((G.base + m : Nat) : Int)) < G.run
  edge : ∀ m, m < G.sectors → G.durable = 58 * m → at4 (Z.get ((G.base + m : Nat) : Int)) < G.run ∨ (at4 (Z.get ((G.base + m : Nat) : Int)) = G.run ∧ n2 (Z.get ((G.base + m : Nat) : Int)) = 0)
theorem Wi.append {Z : Dk} {sb n : Nat} {G : Lg} {ρ : Nat → Nat} (h : Wi Z sb n G ρ) {s : List UInt8} (hs : G.all.length + s.length ≤ 58 * G.sectors) : Wi Z sb n { G with all := G.all ++ s } ρ := by
  obtain ⟨a1, a2, a3, a4, a5, a6, a7⟩ := h
  have hdu := a2.du
  have e : (G.all ++ s).take G.durable = G.all.take G.durable := List.take_append_of_le_length hdu
  refine ⟨a1, ⟨a2.s1, a2.fit, a2.n1, a2.r1, a2.r2, by dsimp only; rw [List.length_append]; omega, by dsimp only; rw [List.length_append]; exact hs⟩, a3, ?_, a5, a6, a7⟩
  dsimp only
  rw [e]
  exact a4
theorem part_take {all : List UInt8} {d m : Nat} (h : 58 * m + 58 ≤ d) : part (all.take d) m = part all m := by
  unfold part
  rw [List.drop_take, List.take_take, show min 58 (d - 58 * m) = 58 by omega]
theorem Wi.flush {Z : Dk} {sb n : Nat} {G : Lg} {ρ : Nat → Nat} (h : Wi Z sb n G ρ) : ∃ ρ', Wi (Z.lflush G).2.1 sb n { G with durable := G.all.length } ρ' := by
  obtain ⟨a1, a2, a3, a4, a5, a6, a7⟩ := h
  have hdu := a2.du
  have hle := a2.le
  have hfit := a2.fit
  obtain ⟨l1, l2, l3, l4, l5, l6⟩ := lflush_calm a1 a2 a3
  by_cases hq : G.durable = G.all.length
  · refine ⟨ρ, ?_⟩
    rw [l5 hq, ← hq]
    exact ⟨a1, a2, a3, a4, a5, a6, a7⟩
  · have hget : ∀ m, m < G.sectors → (Z.lflush G).2.1.get ((G.base + m : Nat) : Int) = if G.durable / 58 ≤ m ∧ 58 * m < G.all.length then wh (G.sec m) else Z.get ((G.base + m : Nat) : Int) := fun m hm => by
      rw [l6 (G.base + m) (by omega)]
      have e : G.base + m - G.base = m := by omega
      rw [e]
      by_cases hc : G.durable / 58 ≤ m ∧ 58 * m < G.all.length
      · rw [if_pos hc, if_pos ⟨by omega, by omega, hc.2⟩]
      · rw [if_neg hc, if_neg (by omega)]
    refine ⟨fun m => if m < G.durable / 58 then ρ m else G.run, l3, ⟨a2.s1, a2.fit, a2.n1, a2.r1, a2.r2, Nat.le_refl _, hle⟩, a3, ?_, ?_, ?_, ?_⟩
    · dsimp only
      rw [List.take_length]
      refine ⟨fun m m1 m2 => ?_, fun m => ?_, fun m => ?_, fun m m1 m2 => ?_, hle⟩
      · rw [hget m m2]
        by_cases hm : m < G.durable / 58
        · rw [if_neg (by omega), if_pos hm, a4.secs m (by rw [List.length_take]; omega) m2, part_take (by omega)]
        · rw [if_pos ⟨by omega, m1⟩, if_neg hm]
          rfl
      · have hm0 := a4.mono m
        have hr := a2.r1
        unfold prv at hm0 ⊢
        by_cases m0 : m = 0
        · rw [if_pos m0] at hm0 ⊢
          split <;> omega
        · rw [if_neg m0] at hm0 ⊢
          dsimp only
          by_cases h1 : m < G.durable / 58
          · rw [if_pos (by omega), if_pos h1]; exact hm0
          · rw [if_neg h1]
            split
            · exact a5 (m - 1) (by omega)
            · exact Nat.le_refl _
      · split
        · exact a4.lt m
        · exact a2.r2
      · left
        rw [hget m m1, if_neg (by omega)]
        have hf := a6 m m1 (by omega)
        have hm0 : ¬ m = 0 := by omega
        unfold prv
        rw [if_neg hm0]
        dsimp only
        rw [if_neg (by omega)]
        exact hf
    · intro m hm
      dsimp only
      split
      · exact a5 m (by omega)
      · exact Nat.le_refl _
    · intro m m1 m2
      dsimp only at m1 m2 ⊢
      rw [hget m m1, if_neg (by omega)]
      exact a6 m m1 (by omega)
    · intro m m1 m2
      dsimp only at m1 m2 ⊢
      left
      rw [hget m m1, if_neg (by omega)]
      exact a6 m m1 (by omega)
end Go.Sp
/- The log on a disk that nothing lets go: it is mended, and found again. -/
namespace Go.Sp
open Go Go.Proofs
set_option linter.unusedSimpArgs false
set_option linter.unusedVariables false
set_option maxRecDepth 10000
theorem scan_wi {Z : Dk} {sb n : Nat} {G : Lg} {ρ : Nat → Nat} (h : Wi Z sb n G ρ) {top : Nat} (ht : G.run ≤ top) : Z.scn G.base top G.sectors 0 1 = G.all.take G.durable := by
  have e := scn_is h.tells (top := top) (fun m hm => Nat.le_trans (h.top m (by rw [List.length_take] at hm; omega)) ht) G.sectors 0 (by omega) (by omega)
  simpa [prv] using e
/-- What is mended: the sector at the log's end is of this run, and what stands behind it is of an older one. -/
theorem mend_wi {Z : Dk} {sb n : Nat} {G : Lg} {ρ : Nat → Nat} (hc : Z.calm sb n) (hG : G.ok n) (hd : G.dead = false) (hdur : G.durable = G.all.length)
    (secs : ∀ m, 58 * m < G.durable → m < G.sectors → m < G.durable / 58 → Z.get ((G.base + m : Nat) : Int) = wh (secb (ρ m) (part G.all m)))
    (mono : ∀ m, prv ρ m ≤ ρ m) (lt : ∀ m, ρ m < 4294967296) (top : ∀ m, m < G.durable / 58 → ρ m ≤ G.run)
    (fresh : ∀ m, m < G.sectors → G.durable / 58 < m → at4 (Z.get ((G.base + m : Nat) : Int)) < G.run) :
    ∃ ρ', Wi (Z.lmend G).2.1 sb n G ρ' ∧ (Z.lmend G).1 = 0 ∧ (Z.lmend G).2.2 = G ∧ (Z.lmend G).2.1.es = [] := by
  obtain ⟨m1, m2, m3, m4, m5⟩ := lmend_calm hc hG
  have hfit := hG.fit
  have hle := hG.le
  have hget : ∀ m, m < G.sectors → (Z.lmend G).2.1.get ((G.base + m : Nat) : Int) = if m = G.durable / 58 then wh (G.sec m) else Z.get ((G.base + m : Nat) : Int) := fun m hm => by
    rw [m5 (G.base + m) (by omega)]
    by_cases e : m = G.durable / 58
    · rw [if_pos e, if_pos ⟨by omega, by omega⟩, e]
    · rw [if_neg e, if_neg (by omega)]
  have hr2 := hG.r2
  refine ⟨fun m => if m < G.durable / 58 then ρ m else G.run, ⟨m3, hG, hd, ?_, ?_, ?_, ?_⟩, m1, m2, m4⟩
  · rw [hdur, List.take_length, ← hdur]
    refine ⟨fun m a b => ?_, fun m => ?_, fun m => ?_, fun m a b => ?_, by omega⟩
    · rw [hget m b]
      by_cases hm : m < G.durable / 58
      · rw [if_neg (by omega), if_pos hm]
        exact secs m (by omega) b hm
      · have : m = G.durable / 58 := by omega
        rw [if_pos this, if_neg hm]
        rfl
    · have hm0 := mono m
      have hr := hG.r1
      unfold prv at hm0 ⊢
      by_cases m0 : m = 0
      · rw [if_pos m0] at hm0 ⊢
        split <;> omega
      · rw [if_neg m0] at hm0 ⊢
        dsimp only
        by_cases h1 : m < G.durable / 58
        · rw [if_pos (by omega), if_pos h1]; exact hm0
        · rw [if_neg h1]
          split
          · exact top (m - 1) (by omega)
          · exact Nat.le_refl _
    · split
      · exact lt m
      · exact hG.r2
    · right
      rw [hget m a, if_pos (by omega)]
      obtain ⟨_, b2, _⟩ := secb_rd (r := G.run) (p := part G.all m) hr2 (part_le G.all m)
      rw [sec_b, b2, part_len]
      omega
  · intro m hm
    split
    · exact top m (by omega)
    · exact Nat.le_refl _
  · intro m a b
    rw [hget m a, if_neg (by omega)]
    exact fresh m a (by omega)
  · intro m a b
    right
    rw [hget m a, if_pos (by omega)]
    obtain ⟨b1, b2, _⟩ := secb_rd (r := G.run) (p := part G.all m) hr2 (part_le G.all m)
    rw [sec_b]
    exact ⟨b1, by rw [b2, part_len]; omega⟩
end Go.Sp
/- The log on a disk that nothing lets go: Open, Cut, a loss of power. -/
namespace Go.Sp
open Go Go.Proofs
set_option linter.unusedSimpArgs false
set_option linter.unusedVariables false
set_option maxRecDepth 10000
/-- What is read stays so. -/
theorem Wi.mv {Z Y : Dk} {sb n : Nat} {G : Lg} {ρ : Nat → Nat} (h : Wi Z sb n G ρ) (hc : Y.calm sb n) (hg : ∀ j : Nat, j < n → Y.get (j : Int) = Z.get (j : Int)) : Wi Y sb n G ρ := by
  have hfit := h.ok.fit
  refine ⟨hc, h.ok, h.dead, ⟨fun m a b => ?_, h.tells.mono, h.tells.lt, fun m a b => ?_, h.tells.le⟩, h.top, fun m a b => ?_, fun m a b => ?_⟩
  · rw [hg _ (by omega)]; exact h.tells.secs m a b
  · rw [hg _ (by omega)]; exact h.tells.stop m a b
  · rw [hg _ (by omega)]; exact h.fresh m a b
  · rw [hg _ (by omega)]; exact h.edge m a b
theorem off_get {Z : Dk} {sb n : Nat} (h : Z.calm sb n) (he : Z.es = []) (keep : Int) (j : Nat) : (Z.off keep).on.get (j : Int) = Z.get (j : Int) := by
  obtain ⟨_, _, _, _, h5⟩ := h.off keep
  rcases h5 j with h6 | ⟨v, h6, _⟩
  · rw [h6]
    unfold Dk.get
    rw [he]
    simp [gk]
  · rw [he] at h6
    cases h6
theorem Wi.off {Z : Dk} {sb n : Nat} {G : Lg} {ρ : Nat → Nat} (h : Wi Z sb n G ρ) (he : Z.es = []) (keep : Int) : Wi (Z.off keep).on sb n G ρ :=
  h.mv (h.calm.off keep).1 fun j _ => off_get h.calm he keep j
/-- On a disk of which the sectors have nothing an empty log is found. -/
theorem found_zero {Z : Dk} {q base S run : Nat} (h : at4 (Z.get ((base : Nat) : Int)) = 0) (hS : 1 ≤ S) : Z.found q base S run = ⟨q, base, S, run, [], 0, false⟩ := by
  have e : Z.scn base run S 0 1 = [] := by
    obtain ⟨k, rfl⟩ : ∃ k, S = k + 1 := ⟨S - 1, by omega⟩
    unfold Dk.scn
    unfold at4 at h
    rw [Nat.add_zero, h, if_pos (by omega)]
  unfold Dk.found
  rw [e]
  rfl
theorem mend_zero {Z : Dk} {sb n q base S run : Nat} (hc : Z.calm sb n) (hz : ∀ m, m < S → at4 (Z.get ((base + m : Nat) : Int)) = 0) (hS : 1 ≤ S) (hf : base + S ≤ n) (hn : n ≤ 8192) (r1 : 1 ≤ run) (r2 : run < 4294967296) :
    ∃ ρ', Wi (Z.lmend ⟨q, base, S, run, [], 0, false⟩).2.1 sb n ⟨q, base, S, run, [], 0, false⟩ ρ' ∧ (Z.lmend ⟨q, base, S, run, [], 0, false⟩).1 = 0 ∧ (Z.lmend ⟨q, base, S, run, [], 0, false⟩).2.2 = ⟨q, base, S, run, [], 0, false⟩ ∧ (Z.lmend ⟨q, base, S, run, [], 0, false⟩).2.1.es = [] := by
  refine mend_wi (ρ := fun _ => 1) hc ⟨hS, hf, hn, r1, r2, Nat.le_refl _, by simp⟩ rfl rfl (fun m a => ?_) (fun m => ?_) (fun m => by decide) (fun m _ => r1) (fun m a _ => ?_)
  · simp at a
  · unfold prv; split <;> exact Nat.le_refl _
  · show at4 (Z.get ((base + m : Nat) : Int)) < run
    rw [hz m a]
    exact r1
/-- A log that was left is found as far as it lasts, in a greater run. -/
theorem found_wi {Z : Dk} {sb n : Nat} {G : Lg} {ρ : Nat → Nat} (h : Wi Z sb n G ρ) {q run : Nat} (hr : G.run ≤ run) (hw : whole (G.all.take G.durable) = G.durable) :
    Z.found q G.base G.sectors run = ⟨q, G.base, G.sectors, run, G.all.take G.durable, G.durable, false⟩ := by
  unfold Dk.found
  rw [scan_wi h hr, hw, List.take_take, Nat.min_self]
theorem mend_again {Z : Dk} {sb n : Nat} {G : Lg} {ρ : Nat → Nat} (h : Wi Z sb n G ρ) {q run : Nat} (hr : G.run < run) (r2 : run < 4294967296) :
    ∃ ρ', Wi (Z.lmend ⟨q, G.base, G.sectors, run, G.all.take G.durable, G.durable, false⟩).2.1 sb n ⟨q, G.base, G.sectors, run, G.all.take G.durable, G.durable, false⟩ ρ' ∧ (Z.lmend ⟨q, G.base, G.sectors, run, G.all.take G.durable, G.durable, false⟩).1 = 0 ∧
      (Z.lmend ⟨q, G.base, G.sectors, run, G.all.take G.durable, G.durable, false⟩).2.2 = ⟨q, G.base, G.sectors, run, G.all.take G.durable, G.durable, false⟩ ∧ (Z.lmend ⟨q, G.base, G.sectors, run, G.all.take G.durable, G.durable, false⟩).2.1.es = [] := by
  have hok := h.ok
  have hdu := hok.du
  have hle := hok.le
  have hl : (G.all.take G.durable).length = G.durable := by rw [List.length_take]; omega
  refine mend_wi (ρ := ρ) h.calm ⟨hok.s1, hok.fit, hok.n1, Nat.le_trans hok.r1 (Nat.le_of_lt hr), r2, by dsimp only; rw [hl]; omega, by dsimp only; rw [hl]; omega⟩ rfl hl.symm (fun m a b c => ?_) h.tells.mono h.tells.lt (fun m a => ?_) (fun m a b => ?_)
  · dsimp only at a b c ⊢
    exact h.tells.secs m (by rw [hl]; exact a) b
  · dsimp only at a ⊢
    exact Nat.le_trans (h.top m (by omega)) (Nat.le_of_lt hr)
  · dsimp only at a b ⊢
    exact Nat.lt_trans (h.fresh m a (by omega)) hr
end Go.Sp
/- The log on a disk that nothing lets go: its calls. -/
namespace Go.Sp
open Go Go.Proofs
set_option linter.unusedSimpArgs false
set_option linter.unusedVariables false
set_option maxRecDepth 10000
theorem at4_nil : at4 (wh []) = 0 := by decide
theorem new_get {sb bb mb n j : Nat} (h : j < n) : (Dk.new sb bb mb n).get (j : Int) = wh [] := by
  unfold Dk.get Dk.new
  simp [gk, h]
theorem wopen0 {Z : Dk} {sb n : Nat} (hc : Z.calm sb n) {base S run : Nat} (hz : ∀ m, m < S → at4 (Z.get ((base + m : Nat) : Int)) = 0) (hS : 1 ≤ S) (hf : base + S ≤ n) (hn : n ≤ 8192) (r1 : 1 ≤ run) (r2 : run < 4294967296) :
    Fn (eT2 eP eI) Tryz.prog 17 #[.pointer (some ⟨sb, 0, none⟩), .int .i64 (base : Int), .int .i64 (S : Int), .int .i64 (run : Int)] [dk Z] fun y X => ∃ (q : Nat) (Y : Dk) (ρ : Nat → Nat), y = (some ⟨q, 0, none⟩, 0) ∧ X = [lgp ⟨q, base, S, run, [], 0, false⟩ sb, dk Y] ∧ Wi Y sb n ⟨q, base, S, run, [], 0, false⟩ ρ ∧ Y.es = [] := fun L w hw => by
  have F := g17 Z hc.ok (base : Int) (S : Int) (run : Int) (by unfold wf64; omega) (by unfold wf64; omega)
  rw [hc.sb] at F
  refine (F L w hw).mono ?_
  rintro _ w' ⟨y, he, X, hX, hW⟩
  have e0 : lchk Z.sure.length (base : Int) (S : Int) (run : Int) = 0 := by
    unfold lchk
    rw [hc.n, if_neg (by omega), if_neg (by omega)]
  rw [if_pos e0, if_pos hc.up] at hX
  obtain ⟨q, b, k, r, e1, e2, e3, hok, h⟩ := hX
  obtain rfl : b = base := by omega
  obtain rfl : k = S := by omega
  obtain rfl : r = run := by omega
  rw [found_zero (by have := hz 0 (by omega); simpa using this) hS] at h
  obtain ⟨ρ, m1, m2, m3, m4⟩ := mend_zero (q := q) hc hz hS hf hn r1 r2
  rw [if_pos m2, m3] at h
  exact ⟨y, he, X, ⟨q, _, ρ, h.1, h.2, m1, m4⟩, hW⟩
theorem wopen {Z : Dk} {sb n : Nat} {G : Lg} {ρ : Nat → Nat} (h : Wi Z sb n G ρ) {run : Nat} (hr : G.run < run) (r2 : run < 4294967296) (hw : whole (G.all.take G.durable) = G.durable) :
    Fn (eT2 eP eI) Tryz.prog 17 #[.pointer (some ⟨sb, 0, none⟩), .int .i64 (G.base : Int), .int .i64 (G.sectors : Int), .int .i64 (run : Int)] [dk Z] fun y X => ∃ (q : Nat) (Y : Dk) (ρ' : Nat → Nat), y = (some ⟨q, 0, none⟩, 0) ∧ X = [lgp ⟨q, G.base, G.sectors, run, G.all.take G.durable, G.durable, false⟩ sb, dk Y] ∧ Wi Y sb n ⟨q, G.base, G.sectors, run, G.all.take G.durable, G.durable, false⟩ ρ' ∧ Y.es = [] := fun L w hw' => by
  have hc := h.calm
  have hok := h.ok
  have hfit := hok.fit
  have hn1 := hok.n1
  have hs1 := hok.s1
  have F := g17 Z hc.ok (G.base : Int) (G.sectors : Int) (run : Int) (by unfold wf64; omega) (by unfold wf64; omega)
  rw [hc.sb] at F
  refine (F L w hw').mono ?_
  rintro _ w' ⟨y, he, X, hX, hW⟩
  have e0 : lchk Z.sure.length (G.base : Int) (G.sectors : Int) (run : Int) = 0 := by
    unfold lchk
    rw [hc.n, if_neg (by omega), if_neg (by omega)]
  rw [if_pos e0, if_pos hc.up] at hX
  obtain ⟨q, b, k, r, e1, e2, e3, _, h4⟩ := hX
  obtain rfl : b = G.base := by omega
  obtain rfl : k = G.sectors := by omega
  obtain rfl : r = run := by omega
  rw [found_wi h (Nat.le_of_lt hr) hw] at h4
  obtain ⟨ρ', m1, m2, m3, m4⟩ := mend_again h (q := q) hr r2
  rw [if_pos m2, m3] at h4
  exact ⟨y, he, X, ⟨q, _, ρ', h4.1, h4.2, m1, m4⟩, hW⟩
theorem wappend {Z : Dk} {sb n : Nat} {G : Lg} {ρ : Nat → Nat} (h : Wi Z sb n G ρ) (A : HP) (r : api_Rec) (c : Rc) (hr : RcAt A r c) :
    Fq (eT2 eI eI) Tryz.prog 20 #[G.p, v_api_Rec r] [lgp G sb, A] [lgp (G.append c).2 sb, A] (G.append c).1 := by
  have hfit := h.ok.fit
  have hn1 := h.ok.n1
  exact g20 G sb h.ok.le (by omega) A r c hr
/-- What a record that is appended makes of a log that is not dead. -/
theorem append_is {G : Lg} (hd : G.dead = false) (c : Rc) : G.append c = if c.frame.2 = 0 then (if G.all.length + c.frame.1.length ≤ 58 * G.sectors then ((((G.all.length + 1 : Nat) : Int), 0), { G with all := G.all ++ c.frame.1 }) else ((0, 7), G)) else ((0, c.frame.2), G) := by
  unfold Lg.append Lg.add
  rw [if_neg (by rw [hd]; decide)]
  by_cases h0 : c.frame.2 = 0
  · rw [if_pos h0, if_pos h0]
    by_cases hq : G.all.length + c.frame.1.length ≤ 58 * G.sectors
    · rw [if_pos hq, if_neg (by omega)]
    · rw [if_neg hq, if_pos (by omega)]
  · rw [if_neg h0, if_neg h0]
theorem Wi.app {Z : Dk} {sb n : Nat} {G : Lg} {ρ : Nat → Nat} (h : Wi Z sb n G ρ) (c : Rc) : Wi Z sb n (G.append c).2 ρ := by
  rw [append_is h.dead]
  split
  · split
    · exact h.append (by assumption)
    · exact h
  · exact h
theorem wflush {Z : Dk} {sb n : Nat} {G : Lg} {ρ : Nat → Nat} (h : Wi Z sb n G ρ) :
    ∃ (Y : Dk) (ρ' : Nat → Nat), Fq eI Tryz.prog 21 #[G.p] [lgp G sb, dk Z] [lgp { G with durable := G.all.length } sb, dk Y] 0 ∧ Wi Y sb n { G with durable := G.all.length } ρ' ∧ (Z.es = [] → Y.es = []) := by
  obtain ⟨ρ', hW⟩ := h.flush
  obtain ⟨l1, l2, _, l4, l5, _⟩ := lflush_calm h.calm h.ok h.dead
  refine ⟨_, ρ', ?_, hW, fun he => ?_⟩
  · have F := g21 G Z h.calm.ok (by rw [h.calm.n]; exact h.ok)
    rw [l1, l2, h.calm.sb] at F
    exact F
  · have hdu := h.ok.du
    rcases Nat.lt_or_ge G.durable G.all.length with x | x
    · exact l4 x
    · rw [l5 (by omega)]; exact he
end Go.Sp
/- What a law's arguments are: structs that hold slices of flat values, and slices of such structs, read as they lie. -/
namespace Go.Sp
open Go
inductive Ln
  | f (l : Lf)
  | sl (sz : Nat) (ks : List Lf)
section
variable {H : Type} {enc : TypeId × Value → H} {P : Program} {w : World} {base : Nat} {spare : Nat → Bool} {held : Bool}
end
end Go.Sp
/- Records as arguments. -/
namespace Go.Sp
open Go Go.Proofs
set_option linter.unusedSimpArgs false
set_option linter.unusedVariables false
theorem rcl_len (r : api_Rec) : (rcl r).length = 13 := rfl
end Go.Sp
/- The log's layer: its example. -/
namespace Go.Sp
open Go Go.Proofs
set_option linter.unusedSimpArgs false
set_option linter.unusedVariables false
set_option maxRecDepth 10000
theorem i_sj {e : Enc} {L L' : List HP} {A : HP} {α : Type} {cel : α → List Value} {a : Addr} {n c sz i j : Nat} {xs : List α} {x : α} {k : e.α → W} {y : e.α} (hR : Rs A (some a, n, c) sz (xs.flatMap cel)) (hc : ∀ x, (cel x).length = sz) (hx : xs[i]? = some x) [ha : AX L A L'] (hv : (cel x)[j]? = some (e.enc y)) (h : E L (k y)) : E L (ld e ((a.add (i * sz)).add j) k) :=
  r_sj hR hc hx ha.p hv h
theorem RL.two {S : HP} {rs : List api_Rec} {a b : Rc} (h : RL S rs [a, b]) : ∃ r s, rs = [r, s] ∧ RcAt S s b := by
  have hn := h.n
  match rs, hn with
  | [r, s], _ => exact ⟨r, s, rfl, h.g 1 s b rfl rfl⟩
set_option maxHeartbeats 1000000 in
theorem g15 : Fp eB Tryz.prog 15 #[] [] true := fun L => by
  refine c15_fn rfl rfl ?_
  repeat' ((fail_if_success with_reducible refine nph ?_); first | (with_reducible first | (refine d_seq ?_; intro K hK) | (refine hK _ _ ?_; clear hK K) | refine d_blk ?_ | refine d_rt0 ?_ | refine d_sk0 ?_ | refine d_ex0 ?_ | (refine r_nwc ?_; intro b)) | (first | ((with_reducible refine d_cnd ?_); refine And.intro ?_ ?_) | with_reducible refine r_cnd ?_ ?_) <;> intro hc <;> try simp only [push_cast, Int.reduceEq, Int.reduceLT, Int.reduceLE, Int.reduceNe] at hc | with_reducible refine r_rq (by first | decide | omega) ?_ | ((with_reducible first | apply i_lds | apply i_ldsq | apply i_ld | apply i_ldq); exact rfl) | ((with_reducible first | apply i_ldn | apply i_ldnq); exact rfl; exact rfl; exact rfl) | (with_reducible first | refine r_ph0 ?_ | apply i_kp0) | ((with_reducible first | apply i_st | apply i_stl); (focus simp); exact rfl) | ((try with_reducible refine d_reg ?_); simp only [go_sem, Nat.reduceAdd, Nat.reduceEqDiff, Int.reduceToNat, Nat.reduceMul, Nat.reduceSub]) | clear hK K)
  refine i_cal (F25 20 (by decide) (by decide)) ?_
  rintro y X ⟨sb, bb, mb, rfl, rfl⟩
  have hc0 : (Dk.new sb bb mb 20).calm sb 20 := Dk.calm.new (by decide) (by decide)
  have hz : ∀ m, m < 10 → at4 ((Dk.new sb bb mb 20).get ((1 + m : Nat) : Int)) = 0 := fun m hm => by rw [new_get (by omega)]; exact at4_nil
  generalize Dk.new sb bb mb 20 = Z at *
  repeat' ((fail_if_success with_reducible refine nph ?_); first | (with_reducible first | (refine d_seq ?_; intro K hK) | (refine hK _ _ ?_; clear hK K) | refine d_blk ?_ | refine d_rt0 ?_ | refine d_sk0 ?_ | refine d_ex0 ?_ | (refine r_nwc ?_; intro b)) | (first | ((with_reducible refine d_cnd ?_); refine And.intro ?_ ?_) | with_reducible refine r_cnd ?_ ?_) <;> intro hc <;> try simp only [push_cast, Int.reduceEq, Int.reduceLT, Int.reduceLE, Int.reduceNe] at hc | with_reducible refine r_rq (by first | decide | omega) ?_ | ((with_reducible first | apply i_lds | apply i_ldsq | apply i_ld | apply i_ldq); exact rfl) | ((with_reducible first | apply i_ldn | apply i_ldnq); exact rfl; exact rfl; exact rfl) | (with_reducible first | refine r_ph0 ?_ | apply i_kp0) | ((with_reducible first | apply i_st | apply i_stl); (focus simp); exact rfl) | ((try with_reducible refine d_reg ?_); simp only [go_sem, Nat.reduceAdd, Nat.reduceEqDiff, Int.reduceToNat, Nat.reduceMul, Nat.reduceSub]) | clear hK K)
  all_goals try contradiction
  refine i_cal (wopen0 hc0 hz (by decide) (by decide) (by decide) (by decide : 1 ≤ 1) (by decide)) ?_
  rintro y X ⟨q, Y, ρ, rfl, rfl, hW, hE⟩
  repeat' ((fail_if_success with_reducible refine nph ?_); first | (with_reducible first | (refine d_seq ?_; intro K hK) | (refine hK _ _ ?_; clear hK K) | refine d_blk ?_ | refine d_rt0 ?_ | refine d_sk0 ?_ | refine d_ex0 ?_ | (refine r_nwc ?_; intro b)) | (first | ((with_reducible refine d_cnd ?_); refine And.intro ?_ ?_) | with_reducible refine r_cnd ?_ ?_) <;> intro hc <;> try simp only [push_cast, Int.reduceEq, Int.reduceLT, Int.reduceLE, Int.reduceNe] at hc | with_reducible refine r_rq (by first | decide | omega) ?_ | ((with_reducible first | apply i_lds | apply i_ldsq | apply i_ld | apply i_ldq); exact rfl) | ((with_reducible first | apply i_ldn | apply i_ldnq); exact rfl; exact rfl; exact rfl) | (with_reducible first | refine r_ph0 ?_ | apply i_kp0) | ((with_reducible first | apply i_st | apply i_stl); (focus simp); exact rfl) | ((try with_reducible refine d_reg ?_); simp only [go_sem, Nat.reduceAdd, Nat.reduceEqDiff, Int.reduceToNat, Nat.reduceMul, Nat.reduceSub]) | clear hK K)
  all_goals try contradiction
  obtain ⟨f1, c1, l1⟩ := cm_frame (n := 1) ⟨by decide, by decide⟩
  obtain ⟨f2, c2, l2⟩ := cm_frame (n := 2) ⟨by decide, by decide⟩
  obtain ⟨f3, c3, l3⟩ := cm_frame (n := 3) ⟨by decide, by decide⟩
  have e1 : (⟨q, 1, 10, 1, [], 0, false⟩ : Lg).append (cm 1) = ((1, 0), ⟨q, 1, 10, 1, f1, 0, false⟩) := by
    rw [append_is rfl, c1]
    simp [l1]
  have A1 := wappend hW (dk Y) _ _ (cm_at (dk Y) 1)
  have W1 := hW.app (cm 1)
  rw [e1] at A1 W1
  dsimp only at W1
  have e2 : (⟨q, 1, 10, 1, f1, 0, false⟩ : Lg).append (cm 2) = ((20, 0), ⟨q, 1, 10, 1, f1 ++ f2, 0, false⟩) := by
    rw [append_is rfl, c2]
    simp [l1, l2]
  have A2 := wappend W1 (dk Y) _ _ (cm_at (dk Y) 2)
  have W2 := W1.app (cm 2)
  rw [e2] at A2 W2
  dsimp only at W2
  obtain ⟨V, ρ3, F3, W3, hE3⟩ := wflush W2
  dsimp only at F3 W3
  have l12 : (f1 ++ f2).length = 38 := by rw [List.length_append, l1, l2]
  rw [l12] at F3 W3
  have e4 : (⟨q, 1, 10, 1, f1 ++ f2, 38, false⟩ : Lg).append (cm 3) = ((39, 0), ⟨q, 1, 10, 1, f1 ++ f2 ++ f3, 38, false⟩) := by
    rw [append_is rfl, c3]
    simp [l1, l2, l3]
  have A4 := wappend W3 (dk V) _ _ (cm_at (dk V) 3)
  have W4 := W3.app (cm 3)
  rw [e4] at A4 W4
  dsimp only at W4
  have C5 := calm_c W4.calm (by decide) 0
  have C6 := calm_o W4.calm 0
  have W6 := W4.off (hE3 hE) 0
  have hps : Prs [(f1, cm 1), (f2, cm 2)] := fun x hx => by
    simp only [List.mem_cons, List.not_mem_nil, or_false] at hx
    rcases hx with rfl | rfl
    · exact ⟨⟨Nat.zero_le _, Nat.zero_le _⟩, c1⟩
    · exact ⟨⟨Nat.zero_le _, Nat.zero_le _⟩, c2⟩
  have ht : (f1 ++ f2 ++ f3).take 38 = f1 ++ f2 := List.take_left' l12
  have hwh : whole (f1 ++ f2) = 38 := by
    have := whole_frs hps.frs
    simpa [l1, l2] using this
  have O7 := wopen W6 (run := 2) (Nat.lt_succ_self 1) (by decide) (by dsimp only; rw [ht]; exact hwh)
  dsimp only at O7
  rw [ht] at O7
  have hrec : recs (f1 ++ f2) = [(1, cm 1), (20, cm 2)] := by
    have := recs_prs hps
    simp only [List.map_cons, List.map_nil, List.flatten_cons, List.flatten_nil, List.append_nil] at this
    rw [this]
    simp only [rl, l1]
    rfl
  refine i_clp (g37 1) ?_
  refine i_clq A1 ?_
  repeat' ((fail_if_success with_reducible refine nph ?_); first | (with_reducible first | (refine d_seq ?_; intro K hK) | (refine hK _ _ ?_; clear hK K) | refine d_blk ?_ | refine d_rt0 ?_ | refine d_sk0 ?_ | refine d_ex0 ?_ | (refine r_nwc ?_; intro b)) | (first | ((with_reducible refine d_cnd ?_); refine And.intro ?_ ?_) | with_reducible refine r_cnd ?_ ?_) <;> intro hc <;> try simp only [push_cast, Int.reduceEq, Int.reduceLT, Int.reduceLE, Int.reduceNe] at hc | with_reducible refine r_rq (by first | decide | omega) ?_ | ((with_reducible first | apply i_lds | apply i_ldsq | apply i_ld | apply i_ldq); exact rfl) | ((with_reducible first | apply i_ldn | apply i_ldnq); exact rfl; exact rfl; exact rfl) | (with_reducible first | refine r_ph0 ?_ | apply i_kp0) | ((with_reducible first | apply i_st | apply i_stl); (focus simp); exact rfl) | ((try with_reducible refine d_reg ?_); simp only [go_sem, Nat.reduceAdd, Nat.reduceEqDiff, Int.reduceToNat, Nat.reduceMul, Nat.reduceSub]) | clear hK K)
  refine i_clp (g37 2) ?_
  refine i_clq A2 ?_
  repeat' ((fail_if_success with_reducible refine nph ?_); first | (with_reducible first | (refine d_seq ?_; intro K hK) | (refine hK _ _ ?_; clear hK K) | refine d_blk ?_ | refine d_rt0 ?_ | refine d_sk0 ?_ | refine d_ex0 ?_ | (refine r_nwc ?_; intro b)) | (first | ((with_reducible refine d_cnd ?_); refine And.intro ?_ ?_) | with_reducible refine r_cnd ?_ ?_) <;> intro hc <;> try simp only [push_cast, Int.reduceEq, Int.reduceLT, Int.reduceLE, Int.reduceNe] at hc | with_reducible refine r_rq (by first | decide | omega) ?_ | ((with_reducible first | apply i_lds | apply i_ldsq | apply i_ld | apply i_ldq); exact rfl) | ((with_reducible first | apply i_ldn | apply i_ldnq); exact rfl; exact rfl; exact rfl) | (with_reducible first | refine r_ph0 ?_ | apply i_kp0) | ((with_reducible first | apply i_st | apply i_stl); (focus simp); exact rfl) | ((try with_reducible refine d_reg ?_); simp only [go_sem, Nat.reduceAdd, Nat.reduceEqDiff, Int.reduceToNat, Nat.reduceMul, Nat.reduceSub]) | clear hK K)
  refine i_clq F3 ?_
  repeat' ((fail_if_success with_reducible refine nph ?_); first | (with_reducible first | (refine d_seq ?_; intro K hK) | (refine hK _ _ ?_; clear hK K) | refine d_blk ?_ | refine d_rt0 ?_ | refine d_sk0 ?_ | refine d_ex0 ?_ | (refine r_nwc ?_; intro b)) | (first | ((with_reducible refine d_cnd ?_); refine And.intro ?_ ?_) | with_reducible refine r_cnd ?_ ?_) <;> intro hc <;> try simp only [push_cast, Int.reduceEq, Int.reduceLT, Int.reduceLE, Int.reduceNe] at hc | with_reducible refine r_rq (by first | decide | omega) ?_ | ((with_reducible first | apply i_lds | apply i_ldsq | apply i_ld | apply i_ldq); exact rfl) | ((with_reducible first | apply i_ldn | apply i_ldnq); exact rfl; exact rfl; exact rfl) | (with_reducible first | refine r_ph0 ?_ | apply i_kp0) | ((with_reducible first | apply i_st | apply i_stl); (focus simp); exact rfl) | ((try with_reducible refine d_reg ?_); simp only [go_sem, Nat.reduceAdd, Nat.reduceEqDiff, Int.reduceToNat, Nat.reduceMul, Nat.reduceSub]) | clear hK K)
  all_goals try contradiction
  refine i_clp (g37 3) ?_
  refine i_clq A4 ?_
  repeat' ((fail_if_success with_reducible refine nph ?_); first | (with_reducible first | (refine d_seq ?_; intro K hK) | (refine hK _ _ ?_; clear hK K) | refine d_blk ?_ | refine d_rt0 ?_ | refine d_sk0 ?_ | refine d_ex0 ?_ | (refine r_nwc ?_; intro b)) | (first | ((with_reducible refine d_cnd ?_); refine And.intro ?_ ?_) | with_reducible refine r_cnd ?_ ?_) <;> intro hc <;> try simp only [push_cast, Int.reduceEq, Int.reduceLT, Int.reduceLE, Int.reduceNe] at hc | with_reducible refine r_rq (by first | decide | omega) ?_ | ((with_reducible first | apply i_lds | apply i_ldsq | apply i_ld | apply i_ldq); exact rfl) | ((with_reducible first | apply i_ldn | apply i_ldnq); exact rfl; exact rfl; exact rfl) | (with_reducible first | refine r_ph0 ?_ | apply i_kp0) | ((with_reducible first | apply i_st | apply i_stl); (focus simp); exact rfl) | ((try with_reducible refine d_reg ?_); simp only [go_sem, Nat.reduceAdd, Nat.reduceEqDiff, Int.reduceToNat, Nat.reduceMul, Nat.reduceSub]) | clear hK K)
  refine i_clq C5 ?_
  repeat' ((fail_if_success with_reducible refine nph ?_); first | (with_reducible first | (refine d_seq ?_; intro K hK) | (refine hK _ _ ?_; clear hK K) | refine d_blk ?_ | refine d_rt0 ?_ | refine d_sk0 ?_ | refine d_ex0 ?_ | (refine r_nwc ?_; intro b)) | (first | ((with_reducible refine d_cnd ?_); refine And.intro ?_ ?_) | with_reducible refine r_cnd ?_ ?_) <;> intro hc <;> try simp only [push_cast, Int.reduceEq, Int.reduceLT, Int.reduceLE, Int.reduceNe] at hc | with_reducible refine r_rq (by first | decide | omega) ?_ | ((with_reducible first | apply i_lds | apply i_ldsq | apply i_ld | apply i_ldq); exact rfl) | ((with_reducible first | apply i_ldn | apply i_ldnq); exact rfl; exact rfl; exact rfl) | (with_reducible first | refine r_ph0 ?_ | apply i_kp0) | ((with_reducible first | apply i_st | apply i_stl); (focus simp); exact rfl) | ((try with_reducible refine d_reg ?_); simp only [go_sem, Nat.reduceAdd, Nat.reduceEqDiff, Int.reduceToNat, Nat.reduceMul, Nat.reduceSub]) | clear hK K)
  refine i_clq C6 ?_
  repeat' ((fail_if_success with_reducible refine nph ?_); first | (with_reducible first | (refine d_seq ?_; intro K hK) | (refine hK _ _ ?_; clear hK K) | refine d_blk ?_ | refine d_rt0 ?_ | refine d_sk0 ?_ | refine d_ex0 ?_ | (refine r_nwc ?_; intro b)) | (first | ((with_reducible refine d_cnd ?_); refine And.intro ?_ ?_) | with_reducible refine r_cnd ?_ ?_) <;> intro hc <;> try simp only [push_cast, Int.reduceEq, Int.reduceLT, Int.reduceLE, Int.reduceNe] at hc | with_reducible refine r_rq (by first | decide | omega) ?_ | ((with_reducible first | apply i_lds | apply i_ldsq | apply i_ld | apply i_ldq); exact rfl) | ((with_reducible first | apply i_ldn | apply i_ldnq); exact rfl; exact rfl; exact rfl) | (with_reducible first | refine r_ph0 ?_ | apply i_kp0) | ((with_reducible first | apply i_st | apply i_stl); (focus simp); exact rfl) | ((try with_reducible refine d_reg ?_); simp only [go_sem, Nat.reduceAdd, Nat.reduceEqDiff, Int.reduceToNat, Nat.reduceMul, Nat.reduceSub]) | clear hK K)
  refine i_cal O7 ?_
  rintro y X ⟨q2, Y2, ρ2, rfl, rfl, hW2, hE2⟩
  repeat' ((fail_if_success with_reducible refine nph ?_); first | (with_reducible first | (refine d_seq ?_; intro K hK) | (refine hK _ _ ?_; clear hK K) | refine d_blk ?_ | refine d_rt0 ?_ | refine d_sk0 ?_ | refine d_ex0 ?_ | (refine r_nwc ?_; intro b)) | (first | ((with_reducible refine d_cnd ?_); refine And.intro ?_ ?_) | with_reducible refine r_cnd ?_ ?_) <;> intro hc <;> try simp only [push_cast, Int.reduceEq, Int.reduceLT, Int.reduceLE, Int.reduceNe] at hc | with_reducible refine r_rq (by first | decide | omega) ?_ | ((with_reducible first | apply i_lds | apply i_ldsq | apply i_ld | apply i_ldq); exact rfl) | ((with_reducible first | apply i_ldn | apply i_ldnq); exact rfl; exact rfl; exact rfl) | (with_reducible first | refine r_ph0 ?_ | apply i_kp0) | ((with_reducible first | apply i_st | apply i_stl); (focus simp); exact rfl) | ((try with_reducible refine d_reg ?_); simp only [go_sem, Nat.reduceAdd, Nat.reduceEqDiff, Int.reduceToNat, Nat.reduceMul, Nat.reduceSub]) | clear hK K)
  all_goals try contradiction
  have hlen : (f1 ++ f2).length ≤ 1000000 := by omega
  have R8 := g25 ⟨q2, 1, 10, 2, f1 ++ f2, 38, false⟩ sb hlen
  dsimp only at R8
  rw [hrec] at R8
  refine i_cal R8 ?_
  rintro ⟨⟨p, n, c⟩, y2⟩ X ⟨S, rs, rfl, hRL⟩
  replace hRL : RL S rs [cm 1, cm 2] := hRL
  dsimp only [List.cons_append, List.nil_append]
  obtain ⟨r1, r2, rfl, hr⟩ := hRL.two
  have hr2 := hr.e
  have htx : r2.Txn = 2 := by
    have := congrArg Rc.txn hr2
    exact this.symm
  refine i_ow (t := 36) (sz := 13) (p, n, c) fun hR => ?_
  obtain rfl : n = 2 := hR.len rcl_len (by decide)
  obtain ⟨a, rfl⟩ := hR.ptr (by decide)
  repeat' ((fail_if_success with_reducible refine nph ?_); first | (with_reducible first | (refine d_seq ?_; intro K hK) | (refine hK _ _ ?_; clear hK K) | refine d_blk ?_ | refine d_rt0 ?_ | refine d_sk0 ?_ | refine d_ex0 ?_ | (refine r_nwc ?_; intro b)) | (first | ((with_reducible refine d_cnd ?_); refine And.intro ?_ ?_) | with_reducible refine r_cnd ?_ ?_) <;> intro hc <;> try simp only [push_cast, Int.reduceEq, Int.reduceLT, Int.reduceLE, Int.reduceNe] at hc | with_reducible refine r_rq (by first | decide | omega) ?_ | ((with_reducible first | apply i_lds | apply i_ldsq | apply i_ld | apply i_ldq); exact rfl) | ((with_reducible first | apply i_ldn | apply i_ldnq); exact rfl; exact rfl; exact rfl) | (with_reducible first | refine r_ph0 ?_ | apply i_kp0) | ((with_reducible first | apply i_st | apply i_stl); (focus simp); exact rfl) | ((try with_reducible refine d_reg ?_); simp only [go_sem, Nat.reduceAdd, Nat.reduceEqDiff, Int.reduceToNat, Nat.reduceMul, Nat.reduceSub]) | clear hK K)
  all_goals try contradiction
  refine i_sj (i := 1) (j := 1) hR rcl_len (x := r2) rfl rfl ?_
  repeat' ((fail_if_success with_reducible refine nph ?_); first | (with_reducible first | (refine d_seq ?_; intro K hK) | (refine hK _ _ ?_; clear hK K) | refine d_blk ?_ | refine d_rt0 ?_ | refine d_sk0 ?_ | refine d_ex0 ?_ | (refine r_nwc ?_; intro b)) | (first | ((with_reducible refine d_cnd ?_); refine And.intro ?_ ?_) | with_reducible refine r_cnd ?_ ?_) <;> intro hc <;> try simp only [push_cast, Int.reduceEq, Int.reduceLT, Int.reduceLE, Int.reduceNe] at hc | with_reducible refine r_rq (by first | decide | omega) ?_ | ((with_reducible first | apply i_lds | apply i_ldsq | apply i_ld | apply i_ldq); exact rfl) | ((with_reducible first | apply i_ldn | apply i_ldnq); exact rfl; exact rfl; exact rfl) | (with_reducible first | refine r_ph0 ?_ | apply i_kp0) | ((with_reducible first | apply i_st | apply i_stl); (focus simp); exact rfl) | ((try with_reducible refine d_reg ?_); simp only [go_sem, Nat.reduceAdd, Nat.reduceEqDiff, Int.reduceToNat, Nat.reduceMul, Nat.reduceSub]) | clear hK K)
  rw [htx]
  (with_reducible first | apply i_ret0 | apply i_ret2 | apply i_ret3 | apply i_ret); exact rfl
  rfl
end Go.Sp
/- What each region of the Go functions does. Written by my own generator. -/
namespace Go.Sp
open Go
set_option maxRecDepth 100000
set_option linter.unusedVariables false
open Go.Proofs
/-! gharry.gharrylaw08.WalNobody -/
noncomputable def c8 : Cfg := { P := Tryz.prog, n := 103, T := TT, body := (Tryz.f8.body).getD .skip, res := Tryz.f8.results.toList, li := lk [] [(0, [0, 1]), (1, [0, 1]), (2, [0, 1, 5]), (3, [0, 1, 5, 6]), (4, [0, 1, 5, 6, 8]), (5, [0, 5, 6, 8, 10]), (6, [0, 5, 6, 8, 10, 13]), (7, [0, 5, 6, 8, 10, 13, 15]), (8, [0, 5, 6, 8, 10, 13, 15, 16, 17])], lo := lk [] [(0, [0, 1]), (1, [0, 1, 5]), (2, [0, 1, 5, 6]), (3, [0, 1, 5, 6, 8]), (4, [0, 5, 6, 8, 10]), (5, [0, 5, 6, 8, 10, 13]), (6, [0, 5, 6, 8, 10, 13, 15]), (7, [0, 5, 6, 8, 10, 13, 15, 16, 17]), (8, [4]), (1000000, [4])], ord := lk (false, []) [] }
@[go_sem] theorem c8_i0 : c8.li 0 = [0, 1] := rfl
@[go_sem] theorem c8_i1 : c8.li 1 = [0, 1] := rfl
@[go_sem] theorem c8_i2 : c8.li 2 = [0, 1, 5] := rfl
@[go_sem] theorem c8_i3 : c8.li 3 = [0, 1, 5, 6] := rfl
@[go_sem] theorem c8_i4 : c8.li 4 = [0, 1, 5, 6, 8] := rfl
@[go_sem] theorem c8_i5 : c8.li 5 = [0, 5, 6, 8, 10] := rfl
@[go_sem] theorem c8_i6 : c8.li 6 = [0, 5, 6, 8, 10, 13] := rfl
@[go_sem] theorem c8_i7 : c8.li 7 = [0, 5, 6, 8, 10, 13, 15] := rfl
@[go_sem] theorem c8_i8 : c8.li 8 = [0, 5, 6, 8, 10, 13, 15, 16, 17] := rfl
@[go_sem] theorem c8_r0 (n0 : Int) (s1 : List UInt8) (K : Env → W) : RP c8 0 [(0, .int .i64 n0), (1, str s1)] K =
    (K [(0, .int .i64 n0), (1, str s1)]) := by kernel_rfl
@[go_sem] theorem c8_r1 (n0 : Int) (s1 : List UInt8) (K : Env → W) : RP c8 1 [(0, .int .i64 n0), (1, str s1)] K =
    (K [(0, .int .i64 n0), (1, str s1), (5, .pointer none)]) := by kernel_rfl
@[go_sem] theorem c8_r2 (n0 : Int) (s1 : List UInt8) (l5 : Option Addr) (K : Env → W) : RP c8 2 [(0, .int .i64 n0), (1, str s1), (5, .pointer l5)] K =
    (nwc #[.pointer none, .int .i64 (0 : Int), .int .i64 (0 : Int), .int .i64 (0 : Int), str (([] : List UInt8)), .int .i64 (0 : Int), .bool false] 66 fun y1_ => (K [(0, .int .i64 n0), (1, str s1), (5, .pointer l5), (6, .pointer (some y1_))])) := by kernel_rfl
@[go_sem] theorem c8_r3 (n0 : Int) (s1 : List UInt8) (l5 : Option Addr) (z6 : Addr) (K : Env → W) : RP c8 3 [(0, .int .i64 n0), (1, str s1), (5, .pointer l5), (6, .pointer (some z6))] K =
    (cal e_api_Rec Tryz.prog 37 #[.int .i64 n0] fun (y1_ : api_Rec) => (cal (eT2 eI eI) Tryz.prog 20 #[.pointer l5, v_api_Rec y1_] fun (y2_ : (Int × Int)) => (K [(0, .int .i64 n0), (1, str s1), (5, .pointer l5), (6, .pointer (some z6)), (8, .int .i64 y2_.2)]))) := by kernel_rfl
@[go_sem] theorem c8_r4 (n0 : Int) (s1 : List UInt8) (l5 : Option Addr) (z6 : Addr) (e8 : Int) (K : Env → W) : RP c8 4 [(0, .int .i64 n0), (1, str s1), (5, .pointer l5), (6, .pointer (some z6)), (8, .int .i64 e8)] K =
    (cal (eT2 eI eI) Tryz.prog 38 #[.pointer (some z6), str s1] fun (y1_ : (Int × Int)) => (K [(0, .int .i64 n0), (5, .pointer l5), (6, .pointer (some z6)), (8, .int .i64 e8), (10, .int .i64 y1_.2)])) := by kernel_rfl
@[go_sem] theorem c8_r5 (n0 : Int) (l5 : Option Addr) (z6 : Addr) (e8 : Int) (f10 : Int) (K : Env → W) : RP c8 5 [(0, .int .i64 n0), (5, .pointer l5), (6, .pointer (some z6)), (8, .int .i64 e8), (10, .int .i64 f10)] K =
    (cal (eT3 e_api_Rec eI eI) Tryz.prog 35 #[.pointer l5, .int .i64 n0] fun (y1_ : (api_Rec × Int × Int)) => (nwc #[.int .i64 (0 : Int), .int .i64 (0 : Int), .int .i64 (0 : Int), .int .i64 (0 : Int), .int .i64 (0 : Int), str (([] : List UInt8)), str (([] : List UInt8)), str (([] : List UInt8)), .int .i64 (0 : Int), .slice none 0 0, .slice none 0 0, .int .i64 (0 : Int), .int .i64 (0 : Int)] 36 fun y2_ => (stl [.int .i64 y1_.1.Kind, .int .i64 y1_.1.Txn, .int .i64 y1_.1.Prev, .int .i64 y1_.1.Page, .int .i64 y1_.1.Act, str y1_.1.Key, str y1_.1.Old, str y1_.1.New, .int .i64 y1_.1.Next, .slice y1_.1.Images.1 y1_.1.Images.2.1 y1_.1.Images.2.2, .slice y1_.1.Table.1 y1_.1.Table.2.1 y1_.1.Table.2.2, .int .i64 y1_.1.Epoch, .int .i64 y1_.1.Node] y2_ 0 (K [(0, .int .i64 n0), (5, .pointer l5), (6, .pointer (some z6)), (8, .int .i64 e8), (10, .int .i64 f10), (13, .int .i64 y1_.2.2)])))) := by kernel_rfl
@[go_sem] theorem c8_r6 (n0 : Int) (l5 : Option Addr) (z6 : Addr) (e8 : Int) (f10 : Int) (g13 : Int) (K : Env → W) : RP c8 6 [(0, .int .i64 n0), (5, .pointer l5), (6, .pointer (some z6)), (8, .int .i64 e8), (10, .int .i64 f10), (13, .int .i64 g13)] K =
    (cal (eT2 eS eI) Tryz.prog 39 #[.pointer (some z6), .int .i64 n0, .int .i64 n0] fun (y1_ : ((List UInt8) × Int)) => (K [(0, .int .i64 n0), (5, .pointer l5), (6, .pointer (some z6)), (8, .int .i64 e8), (10, .int .i64 f10), (13, .int .i64 g13), (15, .int .i64 y1_.2)])) := by kernel_rfl
@[go_sem] theorem c8_r7 (n0 : Int) (l5 : Option Addr) (z6 : Addr) (e8 : Int) (f10 : Int) (g13 : Int) (h15 : Int) (K : Env → W) : RP c8 7 [(0, .int .i64 n0), (5, .pointer l5), (6, .pointer (some z6)), (8, .int .i64 e8), (10, .int .i64 f10), (13, .int .i64 g13), (15, .int .i64 h15)] K =
    (cal (eT2 eSl eSl) Tryz.prog 25 #[.pointer (some z6)] fun (y1_ : ((Option Addr × Nat × Nat) × (Option Addr × Nat × Nat))) => (K [(0, .int .i64 n0), (5, .pointer l5), (6, .pointer (some z6)), (8, .int .i64 e8), (10, .int .i64 f10), (13, .int .i64 g13), (15, .int .i64 h15), (16, .slice y1_.1.1 y1_.1.2.1 y1_.1.2.2), (17, .slice y1_.2.1 y1_.2.2.1 y1_.2.2.2)])) := by kernel_rfl
@[go_sem] theorem c8_r8 (n0 : Int) (l5 : Option Addr) (z6 : Addr) (e8 : Int) (f10 : Int) (g13 : Int) (h15 : Int) (r16p : Option Addr) (r16n r16c : Nat) (at17p : Option Addr) (at17n at17c : Nat) (K : Env → W) : RP c8 8 [(0, .int .i64 n0), (5, .pointer l5), (6, .pointer (some z6)), (8, .int .i64 e8), (10, .int .i64 f10), (13, .int .i64 g13), (15, .int .i64 h15), (16, .slice r16p r16n r16c), (17, .slice at17p at17n at17c)] K =
    (cnd ((e8 == (11 : Int))) (cnd ((f10 == (11 : Int))) (cnd ((g13 == (11 : Int))) (cnd ((h15 == (11 : Int))) (cal eI Tryz.prog 21 #[.pointer l5] fun (y1_ : Int) => (cnd ((y1_ == (11 : Int))) (cal eI Tryz.prog 40 #[.pointer (some z6), .int .i64 n0] fun (y2_ : Int) => (cnd ((y2_ == (11 : Int))) (cal eI Tryz.prog 33 #[.pointer l5, .int .i64 n0, .int .i64 n0] fun (y3_ : Int) => (cnd ((y3_ == (11 : Int))) (cal eB Tryz.prog 32 #[.pointer (some z6), .int .i64 (1 : Int)] fun (y4_ : Bool) => (cnd ((!y4_)) (cal eI Tryz.prog 28 #[.pointer l5] fun (y5_ : Int) => (cal eI Tryz.prog 29 #[.pointer (some z6)] fun (y6_ : Int) => (cal eI Tryz.prog 30 #[.pointer l5] fun (y7_ : Int) => (cal eI Tryz.prog 31 #[.pointer (some z6)] fun (y8_ : Int) => (cnd (((IntKind.wrap .i64 ((IntKind.wrap .i64 ((IntKind.wrap .i64 ((IntKind.wrap .i64 ((IntKind.wrap .i64 (y5_ + y6_)) + y7_)) + y8_)) + (r16n : Int))) + (at17n : Int))) == (0 : Int))) (cal eB Tryz.prog 15 #[] fun (y9_ : Bool) => (K [(4, .bool y9_)])) (K [(4, .bool false)])))))) (K [(4, .bool false)]))) (K [(4, .bool false)]))) (K [(4, .bool false)]))) (K [(4, .bool false)]))) (K [(4, .bool false)])) (K [(4, .bool false)])) (K [(4, .bool false)])) (K [(4, .bool false)])) := by kernel_rfl
@[go_sem] theorem c8_o : c8.lo 1000000 = [4] := rfl
@[go_sem] theorem c8_e (t4 : Bool) (k : Value → W) : RTp c8 [(4, .bool t4)] k = (k (.bool t4)) := by kernel_rfl
theorem c8_ok : (c8.P.follows .mixedOrders && okc c8 c8.body) = true := by kernel_rfl
theorem c8_fn {e : Enc} {args : Array Value} {G : e.α → W} {L : List HP} {ρ : Env} (hρ : envA 0 args.toList = ρ) (hs : Nat.ble args.size 103 = true) (h : E L (D c8 (.seq (.reg 0) (.seq (.reg 1) (.seq (.reg 2) (.seq (.reg 3) (.seq (.reg 4) (.seq (.reg 5) (.seq (.reg 6) (.seq (.reg 7) (.seq (.reg 8) (.ret)))))))))) (fnQ c8 e G) ρ)) : E L (cal e Tryz.prog 8 args G) :=
  d_fn (c := c8) Tryz.func8 (by kernel_rfl) (by kernel_rfl) (by kernel_rfl) c8_ok (by kernel_rfl) (by kernel_rfl) hρ hs h
end Go.Sp
/- The log's layer: a log that nobody opened. -/
namespace Go.Sp
open Go Go.Proofs
set_option linter.unusedSimpArgs false
set_option linter.unusedVariables false
set_option maxRecDepth 10000
abbrev zl (b : Nat) : HP := ar b 66 [.pointer none, .int .i64 0, .int .i64 0, .int .i64 0, str [], .int .i64 0, .bool false]
abbrev pz (b : Nat) : Value := .pointer (some ⟨b, 0, none⟩)
theorem g83z (b : Nat) : Fp eB Tryz.prog 83 #[pz b] [zl b] true := fun L => by
  refine c83_fn rfl rfl ?_
  repeat' ((fail_if_success with_reducible refine nph ?_); first | (with_reducible first | (refine d_seq ?_; intro K hK) | (refine hK _ _ ?_; clear hK K) | refine d_blk ?_ | refine d_rt0 ?_ | refine d_sk0 ?_ | refine d_ex0 ?_ | (refine r_nwc ?_; intro b)) | (first | ((with_reducible refine d_cnd ?_); refine And.intro ?_ ?_) | with_reducible refine r_cnd ?_ ?_) <;> intro hc <;> try simp only [push_cast, Int.reduceEq, Int.reduceLT, Int.reduceLE, Int.reduceNe] at hc | with_reducible refine r_rq (by first | decide | omega) ?_ | ((with_reducible first | apply i_lds | apply i_ldsq | apply i_ld | apply i_ldq); exact rfl) | ((with_reducible first | apply i_ldn | apply i_ldnq); exact rfl; exact rfl; exact rfl) | (with_reducible first | refine r_ph0 ?_ | apply i_kp0) | ((with_reducible first | apply i_st | apply i_stl); (focus simp); exact rfl) | ((try with_reducible refine d_reg ?_); simp only [go_sem, Nat.reduceAdd, Nat.reduceEqDiff, Int.reduceToNat, Nat.reduceMul, Nat.reduceSub]) | clear hK K)
  (with_reducible first | apply i_ret0 | apply i_ret2 | apply i_ret3 | apply i_ret); exact rfl
  rfl
theorem g75z (b : Nat) : Fp eI Tryz.prog 75 #[pz b] [zl b] 11 := fun L => by
  refine c75_fn rfl rfl ?_
  repeat' (first | refine i_clp (g83z b) ?_ | (fail_if_success with_reducible refine nph ?_); first | (with_reducible first | (refine d_seq ?_; intro K hK) | (refine hK _ _ ?_; clear hK K) | refine d_blk ?_ | refine d_rt0 ?_ | refine d_sk0 ?_ | refine d_ex0 ?_ | (refine r_nwc ?_; intro b)) | (first | ((with_reducible refine d_cnd ?_); refine And.intro ?_ ?_) | with_reducible refine r_cnd ?_ ?_) <;> intro hc <;> try simp only [push_cast, Int.reduceEq, Int.reduceLT, Int.reduceLE, Int.reduceNe] at hc | with_reducible refine r_rq (by first | decide | omega) ?_ | ((with_reducible first | apply i_lds | apply i_ldsq | apply i_ld | apply i_ldq); exact rfl) | ((with_reducible first | apply i_ldn | apply i_ldnq); exact rfl; exact rfl; exact rfl) | (with_reducible first | refine r_ph0 ?_ | apply i_kp0) | ((with_reducible first | apply i_st | apply i_stl); (focus simp); exact rfl) | ((try with_reducible refine d_reg ?_); simp only [go_sem, Nat.reduceAdd, Nat.reduceEqDiff, Int.reduceToNat, Nat.reduceMul, Nat.reduceSub]) | clear hK K)
  all_goals try (first | contradiction | (simp only [ reduceCtorEq] at *; done) | (exfalso; omega))
  (with_reducible first | apply i_ret0 | apply i_ret2 | apply i_ret3 | apply i_ret); exact rfl
  rfl
theorem g38z (b : Nat) (s : List UInt8) : Fp (eT2 eI eI) Tryz.prog 38 #[pz b, str s] [zl b] (0, 11) := fun L => by
  refine c38_fn rfl rfl ?_
  repeat' (first | refine i_clp (g75z b) ?_ | (fail_if_success with_reducible refine nph ?_); first | (with_reducible first | (refine d_seq ?_; intro K hK) | (refine hK _ _ ?_; clear hK K) | refine d_blk ?_ | refine d_rt0 ?_ | refine d_sk0 ?_ | refine d_ex0 ?_ | (refine r_nwc ?_; intro b)) | (first | ((with_reducible refine d_cnd ?_); refine And.intro ?_ ?_) | with_reducible refine r_cnd ?_ ?_) <;> intro hc <;> try simp only [push_cast, Int.reduceEq, Int.reduceLT, Int.reduceLE, Int.reduceNe] at hc | with_reducible refine r_rq (by first | decide | omega) ?_ | ((with_reducible first | apply i_lds | apply i_ldsq | apply i_ld | apply i_ldq); exact rfl) | ((with_reducible first | apply i_ldn | apply i_ldnq); exact rfl; exact rfl; exact rfl) | (with_reducible first | refine r_ph0 ?_ | apply i_kp0) | ((with_reducible first | apply i_st | apply i_stl); (focus simp); exact rfl) | ((try with_reducible refine d_reg ?_); simp only [go_sem, Nat.reduceAdd, Nat.reduceEqDiff, Int.reduceToNat, Nat.reduceMul, Nat.reduceSub]) | clear hK K)
  all_goals try (first | contradiction | (simp only [ reduceCtorEq] at *; done) | (exfalso; omega))
  (with_reducible first | apply i_ret0 | apply i_ret2 | apply i_ret3 | apply i_ret); exact rfl
  rfl
theorem g39z (b : Nat) (x y : Int) : Fp (eT2 eS eI) Tryz.prog 39 #[pz b, .int .i64 x, .int .i64 y] [zl b] ([], 11) := fun L => by
  refine c39_fn rfl rfl ?_
  repeat' (first | refine i_clp (g83z b) ?_ | (fail_if_success with_reducible refine nph ?_); first | (with_reducible first | (refine d_seq ?_; intro K hK) | (refine hK _ _ ?_; clear hK K) | refine d_blk ?_ | refine d_rt0 ?_ | refine d_sk0 ?_ | refine d_ex0 ?_ | (refine r_nwc ?_; intro b)) | (first | ((with_reducible refine d_cnd ?_); refine And.intro ?_ ?_) | with_reducible refine r_cnd ?_ ?_) <;> intro hc <;> try simp only [push_cast, Int.reduceEq, Int.reduceLT, Int.reduceLE, Int.reduceNe] at hc | with_reducible refine r_rq (by first | decide | omega) ?_ | ((with_reducible first | apply i_lds | apply i_ldsq | apply i_ld | apply i_ldq); exact rfl) | ((with_reducible first | apply i_ldn | apply i_ldnq); exact rfl; exact rfl; exact rfl) | (with_reducible first | refine r_ph0 ?_ | apply i_kp0) | ((with_reducible first | apply i_st | apply i_stl); (focus simp); exact rfl) | ((try with_reducible refine d_reg ?_); simp only [go_sem, Nat.reduceAdd, Nat.reduceEqDiff, Int.reduceToNat, Nat.reduceMul, Nat.reduceSub]) | clear hK K)
  all_goals try (first | contradiction | (simp only [ reduceCtorEq] at *; done) | (exfalso; omega))
  (with_reducible first | apply i_ret0 | apply i_ret2 | apply i_ret3 | apply i_ret); exact rfl
  rfl
theorem g25z (b : Nat) : Fp (eT2 eSl eSl) Tryz.prog 25 #[pz b] [zl b] ((none, 0, 0), (none, 0, 0)) := fun L => by
  refine c25_fn rfl rfl ?_
  repeat' (first | refine i_clp (g83z b) ?_ | (fail_if_success with_reducible refine nph ?_); first | (with_reducible first | (refine d_seq ?_; intro K hK) | (refine hK _ _ ?_; clear hK K) | refine d_blk ?_ | refine d_rt0 ?_ | refine d_sk0 ?_ | refine d_ex0 ?_ | (refine r_nwc ?_; intro b)) | (first | ((with_reducible refine d_cnd ?_); refine And.intro ?_ ?_) | with_reducible refine r_cnd ?_ ?_) <;> intro hc <;> try simp only [push_cast, Int.reduceEq, Int.reduceLT, Int.reduceLE, Int.reduceNe] at hc | with_reducible refine r_rq (by first | decide | omega) ?_ | ((with_reducible first | apply i_lds | apply i_ldsq | apply i_ld | apply i_ldq); exact rfl) | ((with_reducible first | apply i_ldn | apply i_ldnq); exact rfl; exact rfl; exact rfl) | (with_reducible first | refine r_ph0 ?_ | apply i_kp0) | ((with_reducible first | apply i_st | apply i_stl); (focus simp); exact rfl) | ((try with_reducible refine d_reg ?_); simp only [go_sem, Nat.reduceAdd, Nat.reduceEqDiff, Int.reduceToNat, Nat.reduceMul, Nat.reduceSub]) | clear hK K)
  all_goals try (first | contradiction | (simp only [ reduceCtorEq] at *; done) | (exfalso; omega))
  refine i_ret (e := eT2 eSl eSl) (x := ((none, 0, 0), (none, 0, 0))) rfl ?_
  rfl
theorem g40z (b : Nat) (x : Int) : Fp eI Tryz.prog 40 #[pz b, .int .i64 x] [zl b] 11 := fun L => by
  refine c40_fn rfl rfl ?_
  repeat' (first | refine i_clp (g75z b) ?_ | (fail_if_success with_reducible refine nph ?_); first | (with_reducible first | (refine d_seq ?_; intro K hK) | (refine hK _ _ ?_; clear hK K) | refine d_blk ?_ | refine d_rt0 ?_ | refine d_sk0 ?_ | refine d_ex0 ?_ | (refine r_nwc ?_; intro b)) | (first | ((with_reducible refine d_cnd ?_); refine And.intro ?_ ?_) | with_reducible refine r_cnd ?_ ?_) <;> intro hc <;> try simp only [push_cast, Int.reduceEq, Int.reduceLT, Int.reduceLE, Int.reduceNe] at hc | with_reducible refine r_rq (by first | decide | omega) ?_ | ((with_reducible first | apply i_lds | apply i_ldsq | apply i_ld | apply i_ldq); exact rfl) | ((with_reducible first | apply i_ldn | apply i_ldnq); exact rfl; exact rfl; exact rfl) | (with_reducible first | refine r_ph0 ?_ | apply i_kp0) | ((with_reducible first | apply i_st | apply i_stl); (focus simp); exact rfl) | ((try with_reducible refine d_reg ?_); simp only [go_sem, Nat.reduceAdd, Nat.reduceEqDiff, Int.reduceToNat, Nat.reduceMul, Nat.reduceSub]) | clear hK K)
  all_goals try (first | contradiction | (simp only [ reduceCtorEq] at *; done) | (exfalso; omega))
  (with_reducible first | apply i_ret0 | apply i_ret2 | apply i_ret3 | apply i_ret); exact rfl
  rfl
theorem g32z (b : Nat) (x : Int) : Fp eB Tryz.prog 32 #[pz b, .int .i64 x] [zl b] false := fun L => by
  refine c32_fn rfl rfl ?_
  repeat' (first | refine i_clp (g83z b) ?_ | (fail_if_success with_reducible refine nph ?_); first | (with_reducible first | (refine d_seq ?_; intro K hK) | (refine hK _ _ ?_; clear hK K) | refine d_blk ?_ | refine d_rt0 ?_ | refine d_sk0 ?_ | refine d_ex0 ?_ | (refine r_nwc ?_; intro b)) | (first | ((with_reducible refine d_cnd ?_); refine And.intro ?_ ?_) | with_reducible refine r_cnd ?_ ?_) <;> intro hc <;> try simp only [push_cast, Int.reduceEq, Int.reduceLT, Int.reduceLE, Int.reduceNe] at hc | with_reducible refine r_rq (by first | decide | omega) ?_ | ((with_reducible first | apply i_lds | apply i_ldsq | apply i_ld | apply i_ldq); exact rfl) | ((with_reducible first | apply i_ldn | apply i_ldnq); exact rfl; exact rfl; exact rfl) | (with_reducible first | refine r_ph0 ?_ | apply i_kp0) | ((with_reducible first | apply i_st | apply i_stl); (focus simp); exact rfl) | ((try with_reducible refine d_reg ?_); simp only [go_sem, Nat.reduceAdd, Nat.reduceEqDiff, Int.reduceToNat, Nat.reduceMul, Nat.reduceSub]) | clear hK K)
  all_goals try (first | contradiction | (simp only [ reduceCtorEq] at *; done) | (exfalso; omega))
  (with_reducible first | apply i_ret0 | apply i_ret2 | apply i_ret3 | apply i_ret); exact rfl
  rfl
theorem g29z (b : Nat) : Fp eI Tryz.prog 29 #[pz b] [zl b] 0 := fun L => by
  refine c29_fn rfl rfl ?_
  repeat' (first | refine i_clp (g83z b) ?_ | (fail_if_success with_reducible refine nph ?_); first | (with_reducible first | (refine d_seq ?_; intro K hK) | (refine hK _ _ ?_; clear hK K) | refine d_blk ?_ | refine d_rt0 ?_ | refine d_sk0 ?_ | refine d_ex0 ?_ | (refine r_nwc ?_; intro b)) | (first | ((with_reducible refine d_cnd ?_); refine And.intro ?_ ?_) | with_reducible refine r_cnd ?_ ?_) <;> intro hc <;> try simp only [push_cast, Int.reduceEq, Int.reduceLT, Int.reduceLE, Int.reduceNe] at hc | with_reducible refine r_rq (by first | decide | omega) ?_ | ((with_reducible first | apply i_lds | apply i_ldsq | apply i_ld | apply i_ldq); exact rfl) | ((with_reducible first | apply i_ldn | apply i_ldnq); exact rfl; exact rfl; exact rfl) | (with_reducible first | refine r_ph0 ?_ | apply i_kp0) | ((with_reducible first | apply i_st | apply i_stl); (focus simp); exact rfl) | ((try with_reducible refine d_reg ?_); simp only [go_sem, Nat.reduceAdd, Nat.reduceEqDiff, Int.reduceToNat, Nat.reduceMul, Nat.reduceSub]) | clear hK K)
  all_goals try (first | contradiction | (simp only [ reduceCtorEq] at *; done) | (exfalso; omega))
  (with_reducible first | apply i_ret0 | apply i_ret2 | apply i_ret3 | apply i_ret); exact rfl
  rfl
theorem g31z (b : Nat) : Fp eI Tryz.prog 31 #[pz b] [zl b] 0 := fun L => by
  refine c31_fn rfl rfl ?_
  repeat' (first | refine i_clp (g83z b) ?_ | (fail_if_success with_reducible refine nph ?_); first | (with_reducible first | (refine d_seq ?_; intro K hK) | (refine hK _ _ ?_; clear hK K) | refine d_blk ?_ | refine d_rt0 ?_ | refine d_sk0 ?_ | refine d_ex0 ?_ | (refine r_nwc ?_; intro b)) | (first | ((with_reducible refine d_cnd ?_); refine And.intro ?_ ?_) | with_reducible refine r_cnd ?_ ?_) <;> intro hc <;> try simp only [push_cast, Int.reduceEq, Int.reduceLT, Int.reduceLE, Int.reduceNe] at hc | with_reducible refine r_rq (by first | decide | omega) ?_ | ((with_reducible first | apply i_lds | apply i_ldsq | apply i_ld | apply i_ldq); exact rfl) | ((with_reducible first | apply i_ldn | apply i_ldnq); exact rfl; exact rfl; exact rfl) | (with_reducible first | refine r_ph0 ?_ | apply i_kp0) | ((with_reducible first | apply i_st | apply i_stl); (focus simp); exact rfl) | ((try with_reducible refine d_reg ?_); simp only [go_sem, Nat.reduceAdd, Nat.reduceEqDiff, Int.reduceToNat, Nat.reduceMul, Nat.reduceSub]) | clear hK K)
  all_goals try (first | contradiction | (simp only [ reduceCtorEq] at *; done) | (exfalso; omega))
  (with_reducible first | apply i_ret0 | apply i_ret2 | apply i_ret3 | apply i_ret); exact rfl
  rfl
theorem g28n : Fp eI Tryz.prog 28 #[.pointer none] [] 0 := fun L => by
  refine c28_fn rfl rfl ?_
  repeat' (first | refine i_clp g83n ?_ | (fail_if_success with_reducible refine nph ?_); first | (with_reducible first | (refine d_seq ?_; intro K hK) | (refine hK _ _ ?_; clear hK K) | refine d_blk ?_ | refine d_rt0 ?_ | refine d_sk0 ?_ | refine d_ex0 ?_ | (refine r_nwc ?_; intro b)) | (first | ((with_reducible refine d_cnd ?_); refine And.intro ?_ ?_) | with_reducible refine r_cnd ?_ ?_) <;> intro hc <;> try simp only [push_cast, Int.reduceEq, Int.reduceLT, Int.reduceLE, Int.reduceNe] at hc | with_reducible refine r_rq (by first | decide | omega) ?_ | ((with_reducible first | apply i_lds | apply i_ldsq | apply i_ld | apply i_ldq); exact rfl) | ((with_reducible first | apply i_ldn | apply i_ldnq); exact rfl; exact rfl; exact rfl) | (with_reducible first | refine r_ph0 ?_ | apply i_kp0) | ((with_reducible first | apply i_st | apply i_stl); (focus simp); exact rfl) | ((try with_reducible refine d_reg ?_); simp only [go_sem, Nat.reduceAdd, Nat.reduceEqDiff, Int.reduceToNat, Nat.reduceMul, Nat.reduceSub]) | clear hK K)
  all_goals try (first | contradiction | (simp only [ reduceCtorEq] at *; done) | (exfalso; omega))
  (with_reducible first | apply i_ret0 | apply i_ret2 | apply i_ret3 | apply i_ret); exact rfl
  rfl
theorem g30n : Fp eI Tryz.prog 30 #[.pointer none] [] 0 := fun L => by
  refine c30_fn rfl rfl ?_
  repeat' (first | refine i_clp g83n ?_ | (fail_if_success with_reducible refine nph ?_); first | (with_reducible first | (refine d_seq ?_; intro K hK) | (refine hK _ _ ?_; clear hK K) | refine d_blk ?_ | refine d_rt0 ?_ | refine d_sk0 ?_ | refine d_ex0 ?_ | (refine r_nwc ?_; intro b)) | (first | ((with_reducible refine d_cnd ?_); refine And.intro ?_ ?_) | with_reducible refine r_cnd ?_ ?_) <;> intro hc <;> try simp only [push_cast, Int.reduceEq, Int.reduceLT, Int.reduceLE, Int.reduceNe] at hc | with_reducible refine r_rq (by first | decide | omega) ?_ | ((with_reducible first | apply i_lds | apply i_ldsq | apply i_ld | apply i_ldq); exact rfl) | ((with_reducible first | apply i_ldn | apply i_ldnq); exact rfl; exact rfl; exact rfl) | (with_reducible first | refine r_ph0 ?_ | apply i_kp0) | ((with_reducible first | apply i_st | apply i_stl); (focus simp); exact rfl) | ((try with_reducible refine d_reg ?_); simp only [go_sem, Nat.reduceAdd, Nat.reduceEqDiff, Int.reduceToNat, Nat.reduceMul, Nat.reduceSub]) | clear hK K)
  all_goals try (first | contradiction | (simp only [ reduceCtorEq] at *; done) | (exfalso; omega))
  (with_reducible first | apply i_ret0 | apply i_ret2 | apply i_ret3 | apply i_ret); exact rfl
  rfl
theorem g21n : Fp eI Tryz.prog 21 #[.pointer none] [] 11 := fun L => by
  refine c21_fn rfl rfl ?_
  repeat' (first | refine i_clp g75n ?_ | (fail_if_success with_reducible refine nph ?_); first | (with_reducible first | (refine d_seq ?_; intro K hK) | (refine hK _ _ ?_; clear hK K) | refine d_blk ?_ | refine d_rt0 ?_ | refine d_sk0 ?_ | refine d_ex0 ?_ | (refine r_nwc ?_; intro b)) | (first | ((with_reducible refine d_cnd ?_); refine And.intro ?_ ?_) | with_reducible refine r_cnd ?_ ?_) <;> intro hc <;> try simp only [push_cast, Int.reduceEq, Int.reduceLT, Int.reduceLE, Int.reduceNe] at hc | with_reducible refine r_rq (by first | decide | omega) ?_ | ((with_reducible first | apply i_lds | apply i_ldsq | apply i_ld | apply i_ldq); exact rfl) | ((with_reducible first | apply i_ldn | apply i_ldnq); exact rfl; exact rfl; exact rfl) | (with_reducible first | refine r_ph0 ?_ | apply i_kp0) | ((with_reducible first | apply i_st | apply i_stl); (focus simp); exact rfl) | ((try with_reducible refine d_reg ?_); simp only [go_sem, Nat.reduceAdd, Nat.reduceEqDiff, Int.reduceToNat, Nat.reduceMul, Nat.reduceSub]) | clear hK K)
  all_goals try (first | contradiction | (simp only [ reduceCtorEq] at *; done) | (exfalso; omega))
  (with_reducible first | apply i_ret0 | apply i_ret2 | apply i_ret3 | apply i_ret); exact rfl
  rfl
theorem g33n (x y : Int) : Fp eI Tryz.prog 33 #[.pointer none, .int .i64 x, .int .i64 y] [] 11 := fun L => by
  refine c33_fn rfl rfl ?_
  repeat' (first | refine i_clp g75n ?_ | (fail_if_success with_reducible refine nph ?_); first | (with_reducible first | (refine d_seq ?_; intro K hK) | (refine hK _ _ ?_; clear hK K) | refine d_blk ?_ | refine d_rt0 ?_ | refine d_sk0 ?_ | refine d_ex0 ?_ | (refine r_nwc ?_; intro b)) | (first | ((with_reducible refine d_cnd ?_); refine And.intro ?_ ?_) | with_reducible refine r_cnd ?_ ?_) <;> intro hc <;> try simp only [push_cast, Int.reduceEq, Int.reduceLT, Int.reduceLE, Int.reduceNe] at hc | with_reducible refine r_rq (by first | decide | omega) ?_ | ((with_reducible first | apply i_lds | apply i_ldsq | apply i_ld | apply i_ldq); exact rfl) | ((with_reducible first | apply i_ldn | apply i_ldnq); exact rfl; exact rfl; exact rfl) | (with_reducible first | refine r_ph0 ?_ | apply i_kp0) | ((with_reducible first | apply i_st | apply i_stl); (focus simp); exact rfl) | ((try with_reducible refine d_reg ?_); simp only [go_sem, Nat.reduceAdd, Nat.reduceEqDiff, Int.reduceToNat, Nat.reduceMul, Nat.reduceSub]) | clear hK K)
  all_goals try (first | contradiction | (simp only [ reduceCtorEq] at *; done) | (exfalso; omega))
  (with_reducible first | apply i_ret0 | apply i_ret2 | apply i_ret3 | apply i_ret); exact rfl
  rfl
theorem g20n (r : api_Rec) : Fp (eT2 eI eI) Tryz.prog 20 #[.pointer none, v_api_Rec r] [] (0, 11) := fun L => by
  refine c20_fn rfl rfl ?_
  repeat' (first | refine i_clp g75n ?_ | (fail_if_success with_reducible refine nph ?_); first | (with_reducible first | (refine d_seq ?_; intro K hK) | (refine hK _ _ ?_; clear hK K) | refine d_blk ?_ | refine d_rt0 ?_ | refine d_sk0 ?_ | refine d_ex0 ?_ | (refine r_nwc ?_; intro b)) | (first | ((with_reducible refine d_cnd ?_); refine And.intro ?_ ?_) | with_reducible refine r_cnd ?_ ?_) <;> intro hc <;> try simp only [push_cast, Int.reduceEq, Int.reduceLT, Int.reduceLE, Int.reduceNe] at hc | with_reducible refine r_rq (by first | decide | omega) ?_ | ((with_reducible first | apply i_lds | apply i_ldsq | apply i_ld | apply i_ldq); exact rfl) | ((with_reducible first | apply i_ldn | apply i_ldnq); exact rfl; exact rfl; exact rfl) | (with_reducible first | refine r_ph0 ?_ | apply i_kp0) | ((with_reducible first | apply i_st | apply i_stl); (focus simp); exact rfl) | ((try with_reducible refine d_reg ?_); simp only [go_sem, Nat.reduceAdd, Nat.reduceEqDiff, Int.reduceToNat, Nat.reduceMul, Nat.reduceSub]) | clear hK K)
  all_goals try (first | contradiction | (simp only [ reduceCtorEq] at *; done) | (exfalso; omega))
  (with_reducible first | apply i_ret0 | apply i_ret2 | apply i_ret3 | apply i_ret); exact rfl
  rfl
theorem g35n (x : Int) : Fp (eT3 e_api_Rec eI eI) Tryz.prog 35 #[.pointer none, .int .i64 x] [] (rz 0, 0, 11) := fun L => by
  refine c35_fn rfl rfl ?_
  repeat' (first | refine i_clp g83n ?_ | (fail_if_success with_reducible refine nph ?_); first | (with_reducible first | (refine d_seq ?_; intro K hK) | (refine hK _ _ ?_; clear hK K) | refine d_blk ?_ | refine d_rt0 ?_ | refine d_sk0 ?_ | refine d_ex0 ?_ | (refine r_nwc ?_; intro b)) | (first | ((with_reducible refine d_cnd ?_); refine And.intro ?_ ?_) | with_reducible refine r_cnd ?_ ?_) <;> intro hc <;> try simp only [push_cast, Int.reduceEq, Int.reduceLT, Int.reduceLE, Int.reduceNe] at hc | with_reducible refine r_rq (by first | decide | omega) ?_ | ((with_reducible first | apply i_lds | apply i_ldsq | apply i_ld | apply i_ldq); exact rfl) | ((with_reducible first | apply i_ldn | apply i_ldnq); exact rfl; exact rfl; exact rfl) | (with_reducible first | refine r_ph0 ?_ | apply i_kp0) | ((with_reducible first | apply i_st | apply i_stl); (focus simp); exact rfl) | ((try with_reducible refine d_reg ?_); simp only [go_sem, Nat.reduceAdd, Nat.reduceEqDiff, Int.reduceToNat, Nat.reduceMul, Nat.reduceSub]) | clear hK K)
  all_goals try (first | contradiction | (simp only [ reduceCtorEq] at *; done) | (exfalso; omega))
  refine i_ldn (e := e_api_Rec) (x := rz 0) rfl rfl rfl ?_
  (with_reducible first | apply i_ret0 | apply i_ret2 | apply i_ret3 | apply i_ret); exact rfl
  rfl
set_option maxHeartbeats 200000 in
theorem g8 (n : Int) (s : List UInt8) : Fp eB Tryz.prog 8 #[.int .i64 n, str s] [] true := fun L => by
  refine c8_fn rfl rfl ?_
  repeat' ((fail_if_success with_reducible refine nph ?_); first | (with_reducible first | (refine d_seq ?_; intro K hK) | (refine hK _ _ ?_; clear hK K) | refine d_blk ?_ | refine d_rt0 ?_ | refine d_sk0 ?_ | refine d_ex0 ?_ | (refine r_nwc ?_; intro b)) | (first | ((with_reducible refine d_cnd ?_); refine And.intro ?_ ?_) | with_reducible refine r_cnd ?_ ?_) <;> intro hc <;> try simp only [push_cast, Int.reduceEq, Int.reduceLT, Int.reduceLE, Int.reduceNe] at hc | with_reducible refine r_rq (by first | decide | omega) ?_ | ((with_reducible first | apply i_lds | apply i_ldsq | apply i_ld | apply i_ldq); exact rfl) | ((with_reducible first | apply i_ldn | apply i_ldnq); exact rfl; exact rfl; exact rfl) | (with_reducible first | refine r_ph0 ?_ | apply i_kp0) | ((with_reducible first | apply i_st | apply i_stl); (focus simp); exact rfl) | ((try with_reducible refine d_reg ?_); simp only [go_sem, Nat.reduceAdd, Nat.reduceEqDiff, Int.reduceToNat, Nat.reduceMul, Nat.reduceSub]) | clear hK K)
  rename Nat => zb
  refine i_clp (g37 n) ?_
  refine i_clp (g20n _) ?_
  repeat' ((fail_if_success with_reducible refine nph ?_); first | (with_reducible first | (refine d_seq ?_; intro K hK) | (refine hK _ _ ?_; clear hK K) | refine d_blk ?_ | refine d_rt0 ?_ | refine d_sk0 ?_ | refine d_ex0 ?_ | (refine r_nwc ?_; intro b)) | (first | ((with_reducible refine d_cnd ?_); refine And.intro ?_ ?_) | with_reducible refine r_cnd ?_ ?_) <;> intro hc <;> try simp only [push_cast, Int.reduceEq, Int.reduceLT, Int.reduceLE, Int.reduceNe] at hc | with_reducible refine r_rq (by first | decide | omega) ?_ | ((with_reducible first | apply i_lds | apply i_ldsq | apply i_ld | apply i_ldq); exact rfl) | ((with_reducible first | apply i_ldn | apply i_ldnq); exact rfl; exact rfl; exact rfl) | (with_reducible first | refine r_ph0 ?_ | apply i_kp0) | ((with_reducible first | apply i_st | apply i_stl); (focus simp); exact rfl) | ((try with_reducible refine d_reg ?_); simp only [go_sem, Nat.reduceAdd, Nat.reduceEqDiff, Int.reduceToNat, Nat.reduceMul, Nat.reduceSub]) | clear hK K)
  refine i_clp (g38z zb s) ?_
  repeat' ((fail_if_success with_reducible refine nph ?_); first | (with_reducible first | (refine d_seq ?_; intro K hK) | (refine hK _ _ ?_; clear hK K) | refine d_blk ?_ | refine d_rt0 ?_ | refine d_sk0 ?_ | refine d_ex0 ?_ | (refine r_nwc ?_; intro b)) | (first | ((with_reducible refine d_cnd ?_); refine And.intro ?_ ?_) | with_reducible refine r_cnd ?_ ?_) <;> intro hc <;> try simp only [push_cast, Int.reduceEq, Int.reduceLT, Int.reduceLE, Int.reduceNe] at hc | with_reducible refine r_rq (by first | decide | omega) ?_ | ((with_reducible first | apply i_lds | apply i_ldsq | apply i_ld | apply i_ldq); exact rfl) | ((with_reducible first | apply i_ldn | apply i_ldnq); exact rfl; exact rfl; exact rfl) | (with_reducible first | refine r_ph0 ?_ | apply i_kp0) | ((with_reducible first | apply i_st | apply i_stl); (focus simp); exact rfl) | ((try with_reducible refine d_reg ?_); simp only [go_sem, Nat.reduceAdd, Nat.reduceEqDiff, Int.reduceToNat, Nat.reduceMul, Nat.reduceSub]) | clear hK K)
  refine i_clp (g35n n) ?_
  repeat' ((fail_if_success with_reducible refine nph ?_); first | (with_reducible first | (refine d_seq ?_; intro K hK) | (refine hK _ _ ?_; clear hK K) | refine d_blk ?_ | refine d_rt0 ?_ | refine d_sk0 ?_ | refine d_ex0 ?_ | (refine r_nwc ?_; intro b)) | (first | ((with_reducible refine d_cnd ?_); refine And.intro ?_ ?_) | with_reducible refine r_cnd ?_ ?_) <;> intro hc <;> try simp only [push_cast, Int.reduceEq, Int.reduceLT, Int.reduceLE, Int.reduceNe] at hc | with_reducible refine r_rq (by first | decide | omega) ?_ | ((with_reducible first | apply i_lds | apply i_ldsq | apply i_ld | apply i_ldq); exact rfl) | ((with_reducible first | apply i_ldn | apply i_ldnq); exact rfl; exact rfl; exact rfl) | (with_reducible first | refine r_ph0 ?_ | apply i_kp0) | ((with_reducible first | apply i_st | apply i_stl); (focus simp); exact rfl) | ((try with_reducible refine d_reg ?_); simp only [go_sem, Nat.reduceAdd, Nat.reduceEqDiff, Int.reduceToNat, Nat.reduceMul, Nat.reduceSub]) | clear hK K)
  refine i_clp (g39z zb n n) ?_
  repeat' ((fail_if_success with_reducible refine nph ?_); first | (with_reducible first | (refine d_seq ?_; intro K hK) | (refine hK _ _ ?_; clear hK K) | refine d_blk ?_ | refine d_rt0 ?_ | refine d_sk0 ?_ | refine d_ex0 ?_ | (refine r_nwc ?_; intro b)) | (first | ((with_reducible refine d_cnd ?_); refine And.intro ?_ ?_) | with_reducible refine r_cnd ?_ ?_) <;> intro hc <;> try simp only [push_cast, Int.reduceEq, Int.reduceLT, Int.reduceLE, Int.reduceNe] at hc | with_reducible refine r_rq (by first | decide | omega) ?_ | ((with_reducible first | apply i_lds | apply i_ldsq | apply i_ld | apply i_ldq); exact rfl) | ((with_reducible first | apply i_ldn | apply i_ldnq); exact rfl; exact rfl; exact rfl) | (with_reducible first | refine r_ph0 ?_ | apply i_kp0) | ((with_reducible first | apply i_st | apply i_stl); (focus simp); exact rfl) | ((try with_reducible refine d_reg ?_); simp only [go_sem, Nat.reduceAdd, Nat.reduceEqDiff, Int.reduceToNat, Nat.reduceMul, Nat.reduceSub]) | clear hK K)
  refine i_clp (g25z zb) ?_
  repeat' ((fail_if_success with_reducible refine nph ?_); first | (with_reducible first | (refine d_seq ?_; intro K hK) | (refine hK _ _ ?_; clear hK K) | refine d_blk ?_ | refine d_rt0 ?_ | refine d_sk0 ?_ | refine d_ex0 ?_ | (refine r_nwc ?_; intro b)) | (first | ((with_reducible refine d_cnd ?_); refine And.intro ?_ ?_) | with_reducible refine r_cnd ?_ ?_) <;> intro hc <;> try simp only [push_cast, Int.reduceEq, Int.reduceLT, Int.reduceLE, Int.reduceNe] at hc | with_reducible refine r_rq (by first | decide | omega) ?_ | ((with_reducible first | apply i_lds | apply i_ldsq | apply i_ld | apply i_ldq); exact rfl) | ((with_reducible first | apply i_ldn | apply i_ldnq); exact rfl; exact rfl; exact rfl) | (with_reducible first | refine r_ph0 ?_ | apply i_kp0) | ((with_reducible first | apply i_st | apply i_stl); (focus simp); exact rfl) | ((try with_reducible refine d_reg ?_); simp only [go_sem, Nat.reduceAdd, Nat.reduceEqDiff, Int.reduceToNat, Nat.reduceMul, Nat.reduceSub]) | clear hK K)
  all_goals try contradiction
  refine i_clp g21n ?_
  repeat' ((fail_if_success with_reducible refine nph ?_); first | (with_reducible first | (refine d_seq ?_; intro K hK) | (refine hK _ _ ?_; clear hK K) | refine d_blk ?_ | refine d_rt0 ?_ | refine d_sk0 ?_ | refine d_ex0 ?_ | (refine r_nwc ?_; intro b)) | (first | ((with_reducible refine d_cnd ?_); refine And.intro ?_ ?_) | with_reducible refine r_cnd ?_ ?_) <;> intro hc <;> try simp only [push_cast, Int.reduceEq, Int.reduceLT, Int.reduceLE, Int.reduceNe] at hc | with_reducible refine r_rq (by first | decide | omega) ?_ | ((with_reducible first | apply i_lds | apply i_ldsq | apply i_ld | apply i_ldq); exact rfl) | ((with_reducible first | apply i_ldn | apply i_ldnq); exact rfl; exact rfl; exact rfl) | (with_reducible first | refine r_ph0 ?_ | apply i_kp0) | ((with_reducible first | apply i_st | apply i_stl); (focus simp); exact rfl) | ((try with_reducible refine d_reg ?_); simp only [go_sem, Nat.reduceAdd, Nat.reduceEqDiff, Int.reduceToNat, Nat.reduceMul, Nat.reduceSub]) | clear hK K)
  all_goals try contradiction
  refine i_clp (g40z zb n) ?_
  repeat' ((fail_if_success with_reducible refine nph ?_); first | (with_reducible first | (refine d_seq ?_; intro K hK) | (refine hK _ _ ?_; clear hK K) | refine d_blk ?_ | refine d_rt0 ?_ | refine d_sk0 ?_ | refine d_ex0 ?_ | (refine r_nwc ?_; intro b)) | (first | ((with_reducible refine d_cnd ?_); refine And.intro ?_ ?_) | with_reducible refine r_cnd ?_ ?_) <;> intro hc <;> try simp only [push_cast, Int.reduceEq, Int.reduceLT, Int.reduceLE, Int.reduceNe] at hc | with_reducible refine r_rq (by first | decide | omega) ?_ | ((with_reducible first | apply i_lds | apply i_ldsq | apply i_ld | apply i_ldq); exact rfl) | ((with_reducible first | apply i_ldn | apply i_ldnq); exact rfl; exact rfl; exact rfl) | (with_reducible first | refine r_ph0 ?_ | apply i_kp0) | ((with_reducible first | apply i_st | apply i_stl); (focus simp); exact rfl) | ((try with_reducible refine d_reg ?_); simp only [go_sem, Nat.reduceAdd, Nat.reduceEqDiff, Int.reduceToNat, Nat.reduceMul, Nat.reduceSub]) | clear hK K)
  all_goals try contradiction
  refine i_clp (g33n n n) ?_
  repeat' ((fail_if_success with_reducible refine nph ?_); first | (with_reducible first | (refine d_seq ?_; intro K hK) | (refine hK _ _ ?_; clear hK K) | refine d_blk ?_ | refine d_rt0 ?_ | refine d_sk0 ?_ | refine d_ex0 ?_ | (refine r_nwc ?_; intro b)) | (first | ((with_reducible refine d_cnd ?_); refine And.intro ?_ ?_) | with_reducible refine r_cnd ?_ ?_) <;> intro hc <;> try simp only [push_cast, Int.reduceEq, Int.reduceLT, Int.reduceLE, Int.reduceNe] at hc | with_reducible refine r_rq (by first | decide | omega) ?_ | ((with_reducible first | apply i_lds | apply i_ldsq | apply i_ld | apply i_ldq); exact rfl) | ((with_reducible first | apply i_ldn | apply i_ldnq); exact rfl; exact rfl; exact rfl) | (with_reducible first | refine r_ph0 ?_ | apply i_kp0) | ((with_reducible first | apply i_st | apply i_stl); (focus simp); exact rfl) | ((try with_reducible refine d_reg ?_); simp only [go_sem, Nat.reduceAdd, Nat.reduceEqDiff, Int.reduceToNat, Nat.reduceMul, Nat.reduceSub]) | clear hK K)
  all_goals try contradiction
  refine i_clp (g32z zb 1) ?_
  repeat' ((fail_if_success with_reducible refine nph ?_); first | (with_reducible first | (refine d_seq ?_; intro K hK) | (refine hK _ _ ?_; clear hK K) | refine d_blk ?_ | refine d_rt0 ?_ | refine d_sk0 ?_ | refine d_ex0 ?_ | (refine r_nwc ?_; intro b)) | (first | ((with_reducible refine d_cnd ?_); refine And.intro ?_ ?_) | with_reducible refine r_cnd ?_ ?_) <;> intro hc <;> try simp only [push_cast, Int.reduceEq, Int.reduceLT, Int.reduceLE, Int.reduceNe] at hc | with_reducible refine r_rq (by first | decide | omega) ?_ | ((with_reducible first | apply i_lds | apply i_ldsq | apply i_ld | apply i_ldq); exact rfl) | ((with_reducible first | apply i_ldn | apply i_ldnq); exact rfl; exact rfl; exact rfl) | (with_reducible first | refine r_ph0 ?_ | apply i_kp0) | ((with_reducible first | apply i_st | apply i_stl); (focus simp); exact rfl) | ((try with_reducible refine d_reg ?_); simp only [go_sem, Nat.reduceAdd, Nat.reduceEqDiff, Int.reduceToNat, Nat.reduceMul, Nat.reduceSub]) | clear hK K)
  all_goals try contradiction
  refine i_clp g28n ?_
  refine i_clp (g29z zb) ?_
  refine i_clp g30n ?_
  refine i_clp (g31z zb) ?_
  repeat' ((fail_if_success with_reducible refine nph ?_); first | (with_reducible first | (refine d_seq ?_; intro K hK) | (refine hK _ _ ?_; clear hK K) | refine d_blk ?_ | refine d_rt0 ?_ | refine d_sk0 ?_ | refine d_ex0 ?_ | (refine r_nwc ?_; intro b)) | (first | ((with_reducible refine d_cnd ?_); refine And.intro ?_ ?_) | with_reducible refine r_cnd ?_ ?_) <;> intro hc <;> try simp only [push_cast, Int.reduceEq, Int.reduceLT, Int.reduceLE, Int.reduceNe] at hc | with_reducible refine r_rq (by first | decide | omega) ?_ | ((with_reducible first | apply i_lds | apply i_ldsq | apply i_ld | apply i_ldq); exact rfl) | ((with_reducible first | apply i_ldn | apply i_ldnq); exact rfl; exact rfl; exact rfl) | (with_reducible first | refine r_ph0 ?_ | apply i_kp0) | ((with_reducible first | apply i_st | apply i_stl); (focus simp); exact rfl) | ((try with_reducible refine d_reg ?_); simp only [go_sem, Nat.reduceAdd, Nat.reduceEqDiff, Int.reduceToNat, Nat.reduceMul, Nat.reduceSub]) | clear hK K)
  all_goals try contradiction
  refine i_clp g15 ?_
  repeat' ((fail_if_success with_reducible refine nph ?_); first | (with_reducible first | (refine d_seq ?_; intro K hK) | (refine hK _ _ ?_; clear hK K) | refine d_blk ?_ | refine d_rt0 ?_ | refine d_sk0 ?_ | refine d_ex0 ?_ | (refine r_nwc ?_; intro b)) | (first | ((with_reducible refine d_cnd ?_); refine And.intro ?_ ?_) | with_reducible refine r_cnd ?_ ?_) <;> intro hc <;> try simp only [push_cast, Int.reduceEq, Int.reduceLT, Int.reduceLE, Int.reduceNe] at hc | with_reducible refine r_rq (by first | decide | omega) ?_ | ((with_reducible first | apply i_lds | apply i_ldsq | apply i_ld | apply i_ldq); exact rfl) | ((with_reducible first | apply i_ldn | apply i_ldnq); exact rfl; exact rfl; exact rfl) | (with_reducible first | refine r_ph0 ?_ | apply i_kp0) | ((with_reducible first | apply i_st | apply i_stl); (focus simp); exact rfl) | ((try with_reducible refine d_reg ?_); simp only [go_sem, Nat.reduceAdd, Nat.reduceEqDiff, Int.reduceToNat, Nat.reduceMul, Nat.reduceSub]) | clear hK K)
  (with_reducible first | apply i_ret0 | apply i_ret2 | apply i_ret3 | apply i_ret); exact rfl
  rfl
end Go.Sp
