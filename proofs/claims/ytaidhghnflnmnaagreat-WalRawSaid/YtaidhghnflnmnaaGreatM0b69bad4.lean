/- Texts of a proof, one behind the other: U8 U9 V1 Gxf0 V2 V3 V4 V5 V6 V7 V8 V9 V10 K26 V11 W1 Gxr0 W10 V12 W5 W7 W11 Gyb0 W12. No condition. -/
import Derived.Test.YtaidhghnflnmnaaGreatM5ef8efa6
import Derived.Test.YtaidhghnflnmnaaGreatM5b477d79
import Derived.Test.YtaidhghnflnmnaaGreatMef586ca4
/- The log: Records. -/
namespace Go.Sp
open Go Go.Proofs
set_option linter.unusedSimpArgs false
set_option linter.unusedVariables false
set_option maxRecDepth 10000
/-- The records from a place on, and where each stands. -/
def rcs (s : List UInt8) : Nat → Nat → List (Nat × Rc)
  | 0, _ => []
  | k + 1, a => if a < s.length then (if (opn s (a : Int)).2.2 = 0 then (a + 1, (opn s (a : Int)).1) :: rcs s k (a + (opn s (a : Int)).2.1.toNat) else []) else []
def recs (s : List UInt8) : List (Nat × Rc) := rcs s (s.length + 1) 0
theorem Rs.wide {A B : HP} {s : SlV} {sz : Nat} {cs : List Value} (h : Rs A s sz cs) (w : ∀ x, B x → ∃ a, sub a x ∧ A a) : Rs B s sz cs :=
  ⟨h.1, h.2.1, fun a ha x hx j v hj => by
    obtain ⟨y, hy, hA⟩ := w x hx
    exact pc_sub hy (h.2.2 a ha y hA j v hj)⟩
theorem RcAt.wide {A B : HP} {r : api_Rec} {c : Rc} (h : RcAt A r c) (w : ∀ x, B x → ∃ a, sub a x ∧ A a) : RcAt B r c := ⟨h.e, h.i.wide w, h.t.wide w, h.li, h.lt⟩
theorem two1 {A S : HP} : ∀ x, HS [A, S] x → ∃ a, sub a x ∧ A a := fun x ⟨a, b, d, sa, sb, pa, pb⟩ => ⟨a, sa, pa⟩
theorem two2 {A S : HP} : ∀ x, HS [A, S] x → ∃ a, sub a x ∧ S a := fun x ⟨a, b, d, sa, sb, pa, ⟨c, e, d2, sc, se, pc, pe⟩⟩ => ⟨c, sc.trans sb, pc⟩
/-- The records are those. -/
structure RL (S : HP) (rs : List api_Rec) (cs : List Rc) : Prop where
  n : rs.length = cs.length
  g : ∀ (i : Nat) (r : api_Rec) (c : Rc), rs[i]? = some r → cs[i]? = some c → RcAt S r c
theorem RL.snoc {A S : HP} {rs : List api_Rec} {cs : List Rc} {r : api_Rec} {c : Rc} (h : RL S rs cs) (hr : RcAt A r c) : RL (HS [A, S]) (rs ++ [r]) (cs ++ [c]) := by
  refine ⟨by rw [List.length_append, List.length_append, h.n]; rfl, fun i r' c' h1 h2 => ?_⟩
  rcases Nat.lt_or_ge i rs.length with hi | hi
  · rw [List.getElem?_append_left hi] at h1
    rw [List.getElem?_append_left (by rw [← h.n]; exact hi)] at h2
    exact (h.g i r' c' h1 h2).wide two2
  · rw [List.getElem?_append_right hi] at h1
    rw [List.getElem?_append_right (by rw [← h.n]; exact hi)] at h2
    have e : i - rs.length = 0 := by
      rcases Nat.eq_zero_or_pos (i - rs.length) with h0 | h0
      · exact h0
      · rw [List.getElem?_eq_none (by simp; omega)] at h1; cases h1
    rw [e] at h1
    rw [← h.n, e] at h2
    simp only [List.getElem?_cons_zero, Option.some.injEq] at h1 h2
    subst h1 h2
    exact hr.wide two1
set_option maxHeartbeats 2000000 in
theorem g25 (G : Lg) (sb : Nat) (hl : G.all.length ≤ 1000000) : Fn (eT2 eSl eSl) Tryz.prog 25 #[G.p] [lgp G sb] fun y X => ∃ (S : HP) (rs : List api_Rec), X = [ow 36 13 y.1 (rs.flatMap rcl), ow 3 1 y.2 ((recs G.all).map fun x => .int .i64 (x.1 : Int)), S, lgp G sb] ∧ RL S rs ((recs G.all).map (·.2)) := fun L => by
  refine c25_fn rfl rfl ?_
  generalize hB : recs G.all = B
  repeat' ((fail_if_success with_reducible refine nph ?_); first | (with_reducible first | (refine d_seq ?_; intro K hK) | (refine hK _ _ ?_; clear hK K) | (refine SG.p ?_; try intro b)) | ((with_reducible refine SC.p ?_); refine And.intro ?_ ?_) <;> intro hc <;> try simp only [push_cast, Int.reduceEq, Int.reduceLT, Int.reduceLE, Int.reduceNe] at hc | with_reducible refine r_rq (by first | decide | omega) ?_ | ((with_reducible refine SL.p ?_); first | refine ⟨_, rfl, ?_⟩ | refine ⟨_, _, _, rfl, ?_⟩ | (refine ⟨?_, rfl, ?_⟩; focus (simp; done))) | ((with_reducible first | apply i_ldn | apply i_ldnq); exact rfl; exact rfl; exact rfl) | ((try with_reducible refine d_reg ?_); simp only [go_sem, Nat.reduceAdd, Nat.reduceEqDiff, Int.reduceToNat, Nat.reduceMul, Nat.reduceSub]) | clear hK K)
  refine i_clp (g83 G sb) ?_
  repeat' ((fail_if_success with_reducible refine nph ?_); first | (with_reducible first | (refine d_seq ?_; intro K hK) | (refine hK _ _ ?_; clear hK K) | (refine SG.p ?_; try intro b)) | ((with_reducible refine SC.p ?_); refine And.intro ?_ ?_) <;> intro hc <;> try simp only [push_cast, Int.reduceEq, Int.reduceLT, Int.reduceLE, Int.reduceNe] at hc | with_reducible refine r_rq (by first | decide | omega) ?_ | ((with_reducible refine SL.p ?_); first | refine ⟨_, rfl, ?_⟩ | refine ⟨_, _, _, rfl, ?_⟩ | (refine ⟨?_, rfl, ?_⟩; focus (simp; done))) | ((with_reducible first | apply i_ldn | apply i_ldnq); exact rfl; exact rfl; exact rfl) | ((try with_reducible refine d_reg ?_); simp only [go_sem, Nat.reduceAdd, Nat.reduceEqDiff, Int.reduceToNat, Nat.reduceMul, Nat.reduceSub]) | clear hK K)
  all_goals try contradiction
  refine r_nilow 36 13 ?_
  refine r_nilow 3 1 ?_
  refine r_nilow 123 2 ?_
  obtain ⟨S0, hS0⟩ : ∃ S, S = ow 123 2 (none, 0, 0) [] := ⟨_, rfl⟩
  rw [← hS0]
  clear hS0
  refine d_lp [0, 4, 5, 6] (fun t : Nat × Nat × SlV × SlV × HP × List api_Rec × List (Nat × Rc) => [(0, .pointer (some ⟨G.q, 0, none⟩)), (4, .slice t.2.2.1.1 t.2.2.1.2.1 t.2.2.1.2.2), (5, .slice t.2.2.2.1.1 t.2.2.2.1.2.1 t.2.2.2.1.2.2), (6, .int .i64 ((t.2.1 + 1 : Nat) : Int))])
    (fun t => ow 36 13 t.2.2.1 (t.2.2.2.2.2.1.flatMap rcl) :: ow 3 1 t.2.2.2.1 (t.2.2.2.2.2.2.map fun x => .int .i64 (x.1 : Int)) :: t.2.2.2.2.1 :: lgp G sb :: L)
    (fun t => t.2.1 ≤ G.all.length ∧ t.2.2.2.2.2.2 ++ rcs G.all t.1 t.2.1 = B ∧ RL t.2.2.2.2.1 t.2.2.2.2.2.1 (t.2.2.2.2.2.2.map (·.2)) ∧ t.2.2.1.2.1 ≤ t.2.1 ∧ t.2.2.2.1.2.1 ≤ t.2.1 ∧ G.all.length + 1 ≤ t.1 + t.2.1) (fun t => t.1)
    (G.all.length + 1, 0, (none, 0, 0), (none, 0, 0), S0, [], []) rfl ?_ ⟨by dsimp only; omega, hB, ⟨rfl, fun i r c h => by simp at h⟩, by dsimp only; omega, by dsimp only; omega, by dsimp only; omega⟩ ?_
  · show Sub (ow 36 13 (none, 0, 0) [] :: ow 3 1 (none, 0, 0) [] :: S0 :: lgp G sb :: L) _
    exact SX.p
  rintro ⟨k, a, ⟨p, pn, pc⟩, ⟨q, qn, qc⟩, S, rs, done⟩ ⟨h1, h2, h3, h4, h5, h6⟩
  dsimp only at h1 h2 h3 h4 h5 h6 ⊢
  repeat' ((fail_if_success with_reducible refine nph ?_); first | (with_reducible first | (refine d_seq ?_; intro K hK) | (refine hK _ _ ?_; clear hK K) | (refine SG.p ?_; try intro b)) | ((with_reducible refine SC.p ?_); refine And.intro ?_ ?_) <;> intro hc <;> try simp only [push_cast, Int.reduceEq, Int.reduceLT, Int.reduceLE, Int.reduceNe] at hc | with_reducible refine r_rq (by first | decide | omega) ?_ | ((with_reducible refine SL.p ?_); first | refine ⟨_, rfl, ?_⟩ | refine ⟨_, _, _, rfl, ?_⟩ | (refine ⟨?_, rfl, ?_⟩; focus (simp; done))) | ((with_reducible first | apply i_ldn | apply i_ldnq); exact rfl; exact rfl; exact rfl) | ((try with_reducible refine d_reg ?_); simp only [go_sem, Nat.reduceAdd, Nat.reduceEqDiff, Int.reduceToNat, Nat.reduceMul, Nat.reduceSub]) | clear hK K)
  · have hlt : a < G.all.length := by omega
    obtain ⟨k', rfl⟩ : ∃ k', k = k' + 1 := ⟨k - 1, by omega⟩
    rw [show rcs G.all (k' + 1) a = if a < G.all.length then (if (opn G.all (a : Int)).2.2 = 0 then (a + 1, (opn G.all (a : Int)).1) :: rcs G.all k' (a + (opn G.all (a : Int)).2.1.toNat) else []) else [] from rfl, if_pos hlt] at h2
    have R := g35 G sb hl ((a + 1 : Nat) : Int)
    unfold Lg.read at R
    have ea : ((a + 1 : Nat) : Int) - 1 = (a : Int) := by omega
    rw [if_neg (by omega), ea] at R
    have hst := opn_step (s := G.all) (a := a) (by omega)
    generalize opn G.all (a : Int) = o at *
    obtain ⟨c, n, e⟩ := o
    dsimp only at h2 R hst
    by_cases he : e = 0
    · subst he
      obtain ⟨m, rfl, m1, m2⟩ := hst rfl
      rw [if_pos rfl] at R h2
      rw [Int.toNat_natCast] at h2
      dsimp only at R
      refine i_cal R ?_
      rintro ⟨⟨k1, k2, k3, k4, k5, k6, k7, k8, k9, k10, k11, k12, k13⟩, y⟩ X ⟨A, rfl, hr, hy⟩
      dsimp only at hr hy
      subst hy
      repeat' ((fail_if_success with_reducible refine nph ?_); first | (with_reducible first | (refine d_seq ?_; intro K hK) | (refine hK _ _ ?_; clear hK K) | (refine SG.p ?_; try intro b)) | ((with_reducible refine SC.p ?_); refine And.intro ?_ ?_) <;> intro hc <;> try simp only [push_cast, Int.reduceEq, Int.reduceLT, Int.reduceLE, Int.reduceNe] at hc | with_reducible refine r_rq (by first | decide | omega) ?_ | ((with_reducible refine SL.p ?_); first | refine ⟨_, rfl, ?_⟩ | refine ⟨_, _, _, rfl, ?_⟩ | (refine ⟨?_, rfl, ?_⟩; focus (simp; done))) | ((with_reducible first | apply i_ldn | apply i_ldnq); exact rfl; exact rfl; exact rfl) | ((try with_reducible refine d_reg ?_); simp only [go_sem, Nat.reduceAdd, Nat.reduceEqDiff, Int.reduceToNat, Nat.reduceMul, Nat.reduceSub]) | clear hK K)
      all_goals try (first | contradiction | (simp only [ reduceCtorEq] at *; done) | (exfalso; omega))
      refine i_ldn (e := e_api_Rec) (x := ⟨k1, k2, k3, k4, k5, k6, k7, k8, k9, k10, k11, k12, k13⟩) rfl rfl rfl ?_
      repeat' ((fail_if_success with_reducible refine nph ?_); first | (with_reducible first | (refine d_seq ?_; intro K hK) | (refine hK _ _ ?_; clear hK K) | (refine SG.p ?_; try intro b)) | ((with_reducible refine SC.p ?_); refine And.intro ?_ ?_) <;> intro hc <;> try simp only [push_cast, Int.reduceEq, Int.reduceLT, Int.reduceLE, Int.reduceNe] at hc | with_reducible refine r_rq (by first | decide | omega) ?_ | ((with_reducible refine SL.p ?_); first | refine ⟨_, rfl, ?_⟩ | refine ⟨_, _, _, rfl, ?_⟩ | (refine ⟨?_, rfl, ?_⟩; focus (simp; done))) | ((with_reducible first | apply i_ldn | apply i_ldnq); exact rfl; exact rfl; exact rfl) | ((try with_reducible refine d_reg ?_); simp only [go_sem, Nat.reduceAdd, Nat.reduceEqDiff, Int.reduceToNat, Nat.reduceMul, Nat.reduceSub]) | clear hK K)
      refine i_app (t := 36) (sz := 13) (m := 1) (news := rcl ⟨k1, k2, k3, k4, k5, k6, k7, k8, k9, k10, k11, k12, k13⟩) (p, pn, pc) 160 (by kernel_rfl) (by decide) rfl rfl (by dsimp only; omega) fun o' ho' _ => ?_
      have e1 : rs.flatMap rcl ++ rcl ⟨k1, k2, k3, k4, k5, k6, k7, k8, k9, k10, k11, k12, k13⟩ = (rs ++ [(⟨k1, k2, k3, k4, k5, k6, k7, k8, k9, k10, k11, k12, k13⟩ : api_Rec)]).flatMap rcl := by rw [List.flatMap_append]; simp
      rw [e1]
      repeat' ((fail_if_success with_reducible refine nph ?_); first | (with_reducible first | (refine d_seq ?_; intro K hK) | (refine hK _ _ ?_; clear hK K) | (refine SG.p ?_; try intro b)) | ((with_reducible refine SC.p ?_); refine And.intro ?_ ?_) <;> intro hc <;> try simp only [push_cast, Int.reduceEq, Int.reduceLT, Int.reduceLE, Int.reduceNe] at hc | with_reducible refine r_rq (by first | decide | omega) ?_ | ((with_reducible refine SL.p ?_); first | refine ⟨_, rfl, ?_⟩ | refine ⟨_, _, _, rfl, ?_⟩ | (refine ⟨?_, rfl, ?_⟩; focus (simp; done))) | ((with_reducible first | apply i_ldn | apply i_ldnq); exact rfl; exact rfl; exact rfl) | ((try with_reducible refine d_reg ?_); simp only [go_sem, Nat.reduceAdd, Nat.reduceEqDiff, Int.reduceToNat, Nat.reduceMul, Nat.reduceSub]) | clear hK K)
      refine i_app (t := 3) (sz := 1) (m := 1) (news := [.int .i64 ((a + 1 : Nat) : Int)]) (q, qn, qc) 8 (by kernel_rfl) (by decide) rfl rfl (by dsimp only; omega) fun o2 ho2 _ => ?_
      have e2 : (done.map fun x => Value.int .i64 (x.1 : Int)) ++ [.int .i64 ((a + 1 : Nat) : Int)] = (done ++ [(a + 1, c)]).map fun x => .int .i64 (x.1 : Int) := by simp
      rw [e2]
      repeat' ((fail_if_success with_reducible refine nph ?_); first | (with_reducible first | (refine d_seq ?_; intro K hK) | (refine hK _ _ ?_; clear hK K) | (refine SG.p ?_; try intro b)) | ((with_reducible refine SC.p ?_); refine And.intro ?_ ?_) <;> intro hc <;> try simp only [push_cast, Int.reduceEq, Int.reduceLT, Int.reduceLE, Int.reduceNe] at hc | with_reducible refine r_rq (by first | decide | omega) ?_ | ((with_reducible refine SL.p ?_); first | refine ⟨_, rfl, ?_⟩ | refine ⟨_, _, _, rfl, ?_⟩ | (refine ⟨?_, rfl, ?_⟩; focus (simp; done))) | ((with_reducible first | apply i_ldn | apply i_ldnq); exact rfl; exact rfl; exact rfl) | ((try with_reducible refine d_reg ?_); simp only [go_sem, Nat.reduceAdd, Nat.reduceEqDiff, Int.reduceToNat, Nat.reduceMul, Nat.reduceSub]) | clear hK K)
      have e3 : ((a + 1 : Nat) : Int) + (m : Int) = ((a + m + 1 : Nat) : Int) := by omega
      rw [e3]
      refine E.sub (L' := [A, S] ++ (ow 36 13 o' ((rs ++ [(⟨k1, k2, k3, k4, k5, k6, k7, k8, k9, k10, k11, k12, k13⟩ : api_Rec)]).flatMap rcl) :: ow 3 1 o2 ((done ++ [(a + 1, c)]).map fun x => .int .i64 (x.1 : Int)) :: lgp G sb :: L)) SX.p ?_
      refine E.close ?_
      exact i_bk (k', a + m, o', o2, HS [A, S], rs ++ [⟨k1, k2, k3, k4, k5, k6, k7, k8, k9, k10, k11, k12, k13⟩], done ++ [(a + 1, c)]) rfl ⟨by dsimp only; omega, by dsimp only; rw [List.append_assoc]; exact h2, by dsimp only; rw [List.map_append]; exact h3.snoc hr, by dsimp only at ho' ⊢; omega, by dsimp only at ho2 ⊢; omega, by dsimp only; omega⟩ (by dsimp only; omega)
    · rw [if_neg he] at R h2
      rw [List.append_nil] at h2
      subst h2
      dsimp only at R
      refine i_cal R ?_
      rintro ⟨⟨k1, k2, k3, k4, k5, k6, k7, k8, k9, k10, k11, k12, k13⟩, y⟩ X ⟨A, rfl, hr, hy⟩
      dsimp only at hr hy
      subst hy
      repeat' ((fail_if_success with_reducible refine nph ?_); first | (with_reducible first | (refine d_seq ?_; intro K hK) | (refine hK _ _ ?_; clear hK K) | (refine SG.p ?_; try intro b)) | ((with_reducible refine SC.p ?_); refine And.intro ?_ ?_) <;> intro hc <;> try simp only [push_cast, Int.reduceEq, Int.reduceLT, Int.reduceLE, Int.reduceNe] at hc | with_reducible refine r_rq (by first | decide | omega) ?_ | ((with_reducible refine SL.p ?_); first | refine ⟨_, rfl, ?_⟩ | refine ⟨_, _, _, rfl, ?_⟩ | (refine ⟨?_, rfl, ?_⟩; focus (simp; done))) | ((with_reducible first | apply i_ldn | apply i_ldnq); exact rfl; exact rfl; exact rfl) | ((try with_reducible refine d_reg ?_); simp only [go_sem, Nat.reduceAdd, Nat.reduceEqDiff, Int.reduceToNat, Nat.reduceMul, Nat.reduceSub]) | clear hK K)
      all_goals try (first | contradiction | (simp only [ reduceCtorEq] at *; done) | (exfalso; omega))
      exact i_done (e := eT2 eSl eSl) ((p, pn, pc), (q, qn, qc)) [ow 36 13 (p, pn, pc) (rs.flatMap rcl), ow 3 1 (q, qn, qc) (done.map fun x => .int .i64 (x.1 : Int)), S, lgp G sb] rfl ⟨S, rs, rfl, h3⟩
  · have e : rcs G.all k a = [] := by
      cases k with
      | zero => rfl
      | succ k => unfold rcs; rw [if_neg (by omega)]
    rw [e, List.append_nil] at h2
    subst h2
    exact i_done (e := eT2 eSl eSl) ((p, pn, pc), (q, qn, qc)) [ow 36 13 (p, pn, pc) (rs.flatMap rcl), ow 3 1 (q, qn, qc) (done.map fun x => .int .i64 (x.1 : Int)), S, lgp G sb] rfl ⟨S, rs, rfl, h3⟩
end Go.Sp
/- The log: From. -/
namespace Go.Sp
open Go Go.Proofs
set_option linter.unusedSimpArgs false
set_option linter.unusedVariables false
set_option maxRecDepth 10000
def frl (s : List UInt8) (most : Int) : Nat → Nat → List UInt8 × Int
  | 0, a => (s.take a, 0)
  | k + 1, a => if (opn s (a : Int)).2.2 = 0 then (if 0 < a ∧ most - (a : Int) < (opn s (a : Int)).2.1 then (s.take a, 0) else frl s most k (a + (opn s (a : Int)).2.1.toNat))
    else if a = 0 ∧ 0 < s.length then ([], 4) else (s.take a, 0)
def Lg.from (G : Lg) (lsn most : Int) : List UInt8 × Int :=
  if lsn < 1 ∨ (G.durable : Int) + 1 < lsn then ([], 6) else
  (fun s : List UInt8 => frl s (if most < 0 then 0 else most) (s.length + 1) 0) ((G.all.take G.durable).drop (lsn - 1).toNat)
end Go.Sp
/- The log's law: a number as bytes; a small record. -/
namespace Go.Sp
open Go Go.Proofs
set_option linter.unusedSimpArgs false
set_option linter.unusedVariables false
set_option maxRecDepth 10000
theorem g23 (n : Int) (w : Nat) (hw : w ≤ 6) (h0 : 0 ≤ n) (h1 : n ≤ 9223372036854775807) : Fp eS Tryz.prog 23 #[.int .i64 n, .int .i64 (w : Int)] [] (lowb n w) := fun L => by
  refine c23_fn rfl rfl ?_
  repeat' (first | (with_reducible first | (refine d_seq ?_; intro K hK) | (refine hK _ _ ?_; clear hK K) | (refine SG.p ?_; try intro b)) | ((with_reducible refine SC.p ?_); refine And.intro ?_ ?_) <;> intro hc <;> try simp only [push_cast, Int.reduceEq, Int.reduceLT, Int.reduceLE, Int.reduceNe] at hc | with_reducible refine r_rq (by first | decide | omega) ?_ | ((with_reducible refine SL.p ?_); first | refine ⟨_, rfl, ?_⟩ | refine ⟨_, _, _, rfl, ?_⟩ | (refine ⟨?_, rfl, ?_⟩; focus (simp; done))) | ((with_reducible first | apply i_ldn | apply i_ldnq); exact rfl; exact rfl; exact rfl) | ((try with_reducible refine d_reg ?_); simp only [go_sem, Nat.reduceAdd, Nat.reduceEqDiff, Int.reduceToNat, Nat.reduceMul, Nat.reduceSub]) | clear hK K)
  refine d_lp [0, 1, 5, 6] (fun i : Nat => [(0, .int .i64 (n / 256 ^ i)), (1, .int .i64 (w : Int)), (5, str (lowb n i)), (6, .int .i64 (i : Int))])
    (fun _ => L) (fun i => i ≤ w) (fun i => w - i) 0 (by simp only [lowb, Int.pow_zero, Int.ediv_one]; rfl) SX.p (by omega) ?_
  intro i hi
  have hp : (0 : Int) < 256 ^ i := Int.pow_pos (by decide)
  have g0 : 0 ≤ n / 256 ^ i := Int.ediv_nonneg h0 (by omega)
  have g1 : n / 256 ^ i ≤ n := Int.ediv_le_self _ h0
  have hlen := lowb_len n i
  repeat' (first | (with_reducible first | (refine d_seq ?_; intro K hK) | (refine hK _ _ ?_; clear hK K) | (refine SG.p ?_; try intro b)) | ((with_reducible refine SC.p ?_); refine And.intro ?_ ?_) <;> intro hc <;> try simp only [push_cast, Int.reduceEq, Int.reduceLT, Int.reduceLE, Int.reduceNe] at hc | with_reducible refine r_rq (by first | decide | omega) ?_ | ((with_reducible refine SL.p ?_); first | refine ⟨_, rfl, ?_⟩ | refine ⟨_, _, _, rfl, ?_⟩ | (refine ⟨?_, rfl, ?_⟩; focus (simp; done))) | ((with_reducible first | apply i_ldn | apply i_ldnq); exact rfl; exact rfl; exact rfl) | ((try with_reducible refine d_reg ?_); simp only [go_sem, Nat.reduceAdd, Nat.reduceEqDiff, Int.reduceToNat, Nat.reduceMul, Nat.reduceSub]) | clear hK K)
  · have e1 : (n / 256 ^ i).tmod 256 = (n / 256 ^ i) % 256 := tm g0
    have e2 : (n / 256 ^ i).tdiv 256 = n / 256 ^ (i + 1) := by
      rw [td g0, Int.ediv_ediv_of_nonneg (by omega), Int.pow_succ]
    have g2 : 0 ≤ n / 256 ^ (i + 1) := Int.ediv_nonneg h0 (Int.pow_nonneg (by decide))
    have g3 : n / 256 ^ (i + 1) ≤ n := Int.ediv_le_self _ h0
    refine r_conv (bs := [UInt8.ofNat ((n / 256 ^ i) % 256).toNat]) (by kernel_rfl) ((Rs_ar rfl).eqn ?_) .here ?_
    · rw [e1, wrap_b (by omega)]
      rfl
    refine r_rq (by simp only [List.length_cons, List.length_nil]; omega) ?_
    repeat' (first | (with_reducible first | (refine d_seq ?_; intro K hK) | (refine hK _ _ ?_; clear hK K) | (refine SG.p ?_; try intro b)) | ((with_reducible refine SC.p ?_); refine And.intro ?_ ?_) <;> intro hc <;> try simp only [push_cast, Int.reduceEq, Int.reduceLT, Int.reduceLE, Int.reduceNe] at hc | with_reducible refine r_rq (by first | decide | omega) ?_ | ((with_reducible refine SL.p ?_); first | refine ⟨_, rfl, ?_⟩ | refine ⟨_, _, _, rfl, ?_⟩ | (refine ⟨?_, rfl, ?_⟩; focus (simp; done))) | ((with_reducible first | apply i_ldn | apply i_ldnq); exact rfl; exact rfl; exact rfl) | ((try with_reducible refine d_reg ?_); simp only [go_sem, Nat.reduceAdd, Nat.reduceEqDiff, Int.reduceToNat, Nat.reduceMul, Nat.reduceSub]) | clear hK K)
    rw [e2, w64 (n := n / 256 ^ (i + 1)) (by omega) (by omega)]
    exact i_bk (i + 1) (by simp (disch := omega) only [w64]; rfl) (by omega) (by omega)
  · obtain rfl : i = w := by omega
    (with_reducible first | apply i_ret0 | apply i_ret2 | apply i_ret3 | apply i_ret); exact rfl
    rfl
def cm (n : Int) : Rc := { Rc.z 7 with txn := n, prev := 1 }
theorem g37 (n : Int) : Fp e_api_Rec Tryz.prog 37 #[.int .i64 n] [] ⟨7, n, 1, 0, 0, [], [], [], 0, (none, 0, 0), (none, 0, 0), 0, 0⟩ := fun L => by
  refine c37_fn rfl rfl ?_
  repeat' ((fail_if_success with_reducible refine nph ?_); first | (with_reducible first | (refine d_seq ?_; intro K hK) | (refine hK _ _ ?_; clear hK K) | (refine SG.p ?_; try intro b)) | ((with_reducible refine SC.p ?_); refine And.intro ?_ ?_) <;> intro hc <;> try simp only [push_cast, Int.reduceEq, Int.reduceLT, Int.reduceLE, Int.reduceNe] at hc | with_reducible refine r_rq (by first | decide | omega) ?_ | ((with_reducible refine SL.p ?_); first | refine ⟨_, rfl, ?_⟩ | refine ⟨_, _, _, rfl, ?_⟩ | (refine ⟨?_, rfl, ?_⟩; focus (simp; done))) | ((with_reducible first | apply i_ldn | apply i_ldnq); exact rfl; exact rfl; exact rfl) | ((try with_reducible refine d_reg ?_); simp only [go_sem, Nat.reduceAdd, Nat.reduceEqDiff, Int.reduceToNat, Nat.reduceMul, Nat.reduceSub]) | clear hK K)
  refine i_ldn (e := e_api_Rec) (x := ⟨7, n, 1, 0, 0, [], [], [], 0, (none, 0, 0), (none, 0, 0), 0, 0⟩) rfl rfl rfl ?_
  (with_reducible first | apply i_ret0 | apply i_ret2 | apply i_ret3 | apply i_ret); exact rfl
  rfl
theorem cm_at (A : HP) (n : Int) : RcAt A ⟨7, n, 1, 0, 0, [], [], [], 0, (none, 0, 0), (none, 0, 0), 0, 0⟩ (cm n) := ⟨rfl, Rs_nil, Rs_nil, by simp [cm, Rc.z], by simp [cm, Rc.z]⟩
theorem cm_frame {n : Int} (h : fitN n 6) : ∃ f, (cm n).frame = (f, 0) ∧ f.length = 19 := by
  have hc : (cm n).clean = cm n := rfl
  have p1 : fitN 7 1 := ⟨by decide, by decide⟩
  have p6 : fitN 1 6 := ⟨by decide, by decide⟩
  have hb : (cm n).body = (lowb 7 1 ++ lowb n 6 ++ lowb 1 6, 0) := by
    have e : (cm n).body = bfin (layN (layN (layN ([], 0) 7 1) n 6) 1 6) 0 := rfl
    rw [e, layN_go p1, layN_go h, layN_go p6]
    unfold bfin
    rw [if_pos rfl, if_pos rfl, if_neg (by simp only [List.length_append, lowb_len, List.length_nil]; omega)]
    simp
  refine ⟨_, by unfold Rc.frame; rw [hc, hb, if_pos rfl], ?_⟩
  simp only [List.length_append, lowb_len]
end Go.Sp
/- What each region of the Go functions does. Written by my own generator. -/
namespace Go.Sp
open Go
set_option maxRecDepth 100000
set_option linter.unusedVariables false
open Go.Proofs
/-! gharry.gharrylaw08.few -/
end Go.Sp
/- The log's law: a record of few pages and transactions. -/
namespace Go.Sp
open Go Go.Proofs
set_option linter.unusedSimpArgs false
set_option linter.unusedVariables false
set_option maxRecDepth 10000
def few (c : Rc) : Rc := { c with imgs := c.imgs.take 2, tbl := c.tbl.take 3 }
end Go.Sp
/- The log on a disk that nothing lets go. -/
namespace Go.Sp
open Go Go.Proofs
set_option linter.unusedSimpArgs false
set_option linter.unusedVariables false
set_option maxRecDepth 10000
theorem calm_get {Z : Dk} {sb n : Nat} (h : Z.calm sb n) {i : Nat} (hi : i < n) {s : List UInt8} (hs : s.length ≤ 64) (j : Nat) : (Z.write (i : Int) s).2.get (j : Int) = if i = j then wh s else Z.get (j : Int) := by
  obtain ⟨_, _, w3, _, w5⟩ := h.write hi hs
  unfold Dk.get
  rw [w5, w3]
  by_cases e : i = j
  · subst e
    rw [if_pos rfl, if_pos rfl]
    rfl
  · rw [if_neg (by omega), if_neg e]
theorem sec_len (G : Lg) (i : Nat) : (G.sec i).length ≤ 64 := by
  have := part_le G.all i
  unfold Lg.sec
  simp only [List.length_append, lowb_len]
  omega
/-- A sector is written. -/
theorem lw_calm {Z : Dk} {sb n : Nat} (h : Z.calm sb n) {G : Lg} (hG : G.ok n) (i : Nat) : (Z.lw G i).1 = 0 ∧ (Z.lw G i).2.calm sb n ∧ ∀ j : Nat, (Z.lw G i).2.get (j : Int) = if i < G.sectors ∧ j = G.base + i then wh (G.sec i) else Z.get (j : Int) := by
  have hfit := hG.fit
  unfold Dk.lw
  by_cases h1 : G.sectors ≤ i
  · rw [if_pos h1]
    exact ⟨rfl, h, fun j => by rw [if_neg (by omega)]⟩
  · rw [if_neg h1]
    obtain ⟨w1, w2, _⟩ := h.write (i := G.base + i) (by omega) (sec_len G i)
    refine ⟨w1, w2, fun j => ?_⟩
    rw [calm_get h (by omega) (sec_len G i)]
    by_cases hj : G.base + i = j
    · rw [if_pos hj, if_pos ⟨by omega, hj.symm⟩]
    · rw [if_neg hj, if_neg (by omega)]
theorem lws_calm {sb n : Nat} {G : Lg} (hG : G.ok n) : ∀ (k i : Nat) {Z : Dk}, Z.calm sb n → G.sectors + 1 ≤ k + i → (lws G k i Z).1 = 0 ∧ (lws G k i Z).2.calm sb n ∧ ∀ j : Nat, (lws G k i Z).2.get (j : Int) = if G.base + i ≤ j ∧ 58 * (j - G.base) < G.all.length then wh (G.sec (j - G.base)) else Z.get (j : Int)
  | 0, i, Z, h, hk => by
    have := hG.le
    refine ⟨rfl, h, fun j => ?_⟩
    rw [if_neg (by omega)]
    rfl
  | k + 1, i, Z, h, hk => by
    have hle := hG.le
    by_cases hi : 58 * i < G.all.length
    · obtain ⟨a1, a2, a3⟩ := lw_calm h hG i
      obtain ⟨b1, b2, b3⟩ := lws_calm hG k (i + 1) a2 (by omega)
      have e : lws G (k + 1) i Z = lws G k (i + 1) (Z.lw G i).2 := by
        show (if 58 * i < G.all.length then _ else _) = _
        rw [if_pos hi, if_pos a1]
      rw [e]
      refine ⟨b1, b2, fun j => ?_⟩
      rw [b3, a3]
      by_cases hj : j = G.base + i
      · rw [if_neg (by omega), if_pos ⟨by omega, hj⟩, if_pos ⟨by omega, by rw [hj, Nat.add_sub_cancel_left]; exact hi⟩, hj, Nat.add_sub_cancel_left]
      · by_cases hm : G.base + (i + 1) ≤ j ∧ 58 * (j - G.base) < G.all.length
        · rw [if_pos hm, if_pos ⟨by omega, hm.2⟩]
        · rw [if_neg hm, if_neg (by omega), if_neg (by omega)]
    · have e : lws G (k + 1) i Z = (0, Z) := by
        show (if 58 * i < G.all.length then _ else _) = _
        rw [if_neg hi]
      rw [e]
      refine ⟨rfl, h, fun j => ?_⟩
      rw [if_neg (by omega)]
end Go.Sp
/- What is scanned of a log's sectors. -/
namespace Go.Sp
open Go Go.Proofs
set_option linter.unusedSimpArgs false
set_option linter.unusedVariables false
set_option maxRecDepth 10000
def secb (r : Nat) (p : List UInt8) : List UInt8 := lowb (r : Int) 4 ++ lowb (p.length : Int) 2 ++ p
theorem sec_b (G : Lg) (i : Nat) : G.sec i = secb G.run (part G.all i) := rfl
def at4 (v : List UInt8) : Nat := be (v.take 4)
def n2 (v : List UInt8) : Nat := be ((v.drop 4).take 2)
theorem secb_rd {r : Nat} {p : List UInt8} (hr : r < 4294967296) (hp : p.length ≤ 58) : at4 (wh (secb r p)) = r ∧ n2 (wh (secb r p)) = p.length ∧ ((wh (secb r p)).drop 6).take p.length = p := by
  have l4 := lowb_len (r : Int) 4
  have l2 := lowb_len (p.length : Int) 2
  have e : wh (secb r p) = lowb (r : Int) 4 ++ (lowb (p.length : Int) 2 ++ (p ++ List.replicate (64 - (secb r p).length) 0)) := by
    unfold wh secb
    simp
  have b4 : be (lowb (r : Int) 4) = r := nat_eq (be_fits (by omega) (by rw [show ((256 ^ 4 : Nat) : Int) = 4294967296 by decide]; omega))
  have b2 : be (lowb (p.length : Int) 2) = p.length := nat_eq (be_fits (by omega) (by rw [show ((256 ^ 2 : Nat) : Int) = 65536 by decide]; omega))
  generalize List.replicate (64 - (secb r p).length) (0 : UInt8) = Y at e
  unfold at4 n2
  rw [e]
  refine ⟨by rw [List.take_left' l4, b4], by rw [List.drop_left' l4, List.take_left' l2, b2], ?_⟩
  have e2 : (lowb (r : Int) 4 ++ (lowb (p.length : Int) 2 ++ (p ++ Y))).drop 6 = p ++ Y := by
    rw [← List.append_assoc]
    exact List.drop_left' (by rw [List.length_append, l4, l2])
  rw [e2]
  exact List.take_left' rfl
def prv (ρ : Nat → Nat) (i : Nat) : Nat := if i = 0 then 1 else ρ (i - 1)
/-- What the sectors tell: their bytes go on, each in a run not ahead of the last, and behind them they stop. -/
structure Tells (Z : Dk) (base S : Nat) (all : List UInt8) (ρ : Nat → Nat) : Prop where
  secs : ∀ m, 58 * m < all.length → m < S → Z.get ((base + m : Nat) : Int) = wh (secb (ρ m) (part all m))
  mono : ∀ m, prv ρ m ≤ ρ m
  lt : ∀ m, ρ m < 4294967296
  stop : ∀ m, m < S → 58 * m = all.length → at4 (Z.get ((base + m : Nat) : Int)) < prv ρ m ∨ n2 (Z.get ((base + m : Nat) : Int)) = 0
  le : all.length ≤ 58 * S
theorem part_drop (all : List UInt8) (i : Nat) : all.drop (58 * i) = part all i ++ all.drop (58 * (i + 1)) := by
  unfold part
  rw [show 58 * (i + 1) = 58 * i + 58 by omega, ← List.drop_drop, List.take_append_drop]
theorem part_len (all : List UInt8) (i : Nat) : (part all i).length = min 58 (all.length - 58 * i) := by
  unfold part
  rw [List.length_take, List.length_drop]
theorem scn_is {Z : Dk} {base S top : Nat} {all : List UInt8} {ρ : Nat → Nat} (h : Tells Z base S all ρ) (ht : ∀ m, 58 * m < all.length → ρ m ≤ top) : ∀ k i, S = i + k → 58 * i ≤ all.length → Z.scn base top k i (prv ρ i) = all.drop (58 * i)
  | 0, i, hS, hi => by
    have := h.le
    rw [List.drop_eq_nil_of_le (by omega)]
    rfl
  | k + 1, i, hS, hi => by
    have hp := part_len all i
    by_cases hlt : 58 * i < all.length
    · obtain ⟨a1, a2, a3⟩ := secb_rd (r := ρ i) (p := part all i) (h.lt i) (part_le all i)
      have e := h.secs i hlt (by omega)
      unfold at4 at a1
      unfold n2 at a2
      have hm := h.mono i
      have htt := ht i hlt
      unfold Dk.scn
      rw [e, a1, a2, a3, if_neg (by have := part_le all i; omega), part_drop]
      by_cases h58 : (part all i).length < 58
      · rw [if_pos h58, List.drop_eq_nil_of_le (by omega)]
      · rw [if_neg h58]
        have ih := scn_is h ht k (i + 1) (by omega) (by omega)
        rw [show prv ρ (i + 1) = ρ i from rfl] at ih
        rw [ih]
    · have he : 58 * i = all.length := by omega
      rw [List.drop_eq_nil_of_le (by omega)]
      have hs := h.stop i (by omega) he
      unfold at4 n2 at hs
      unfold Dk.scn
      rcases hs with hs | hs
      · rw [if_pos (.inl hs)]
      · rw [hs]
        split
        · rfl
        · rfl
end Go.Sp
/- Frames in a row are whole. -/
namespace Go.Sp
open Go Go.Proofs
set_option linter.unusedSimpArgs false
set_option linter.unusedVariables false
set_option maxRecDepth 10000
def Frs (fs : List (List UInt8)) : Prop := ∀ f ∈ fs, ∃ c : Rc, c.short ∧ c.frame = (f, 0)
theorem whl_frs : ∀ (fs : List (List UInt8)) (s : List UInt8) (Y : List UInt8) (k a : Nat), Frs fs → a ≤ s.length → s.drop a = fs.flatten ++ Y → (opn0 Y).2.2 ≠ 0 → fs.length < k → whl s k a = a + fs.flatten.length
  | [], s, Y, k + 1, a, _, ha, hd, hY, _ => by
    unfold whl
    rw [opn_nat ha, hd]
    simp only [List.flatten_nil, List.nil_append, List.length_nil, Nat.add_zero]
    rw [if_neg hY]
  | f :: fs, s, Y, k + 1, a, hf, ha, hd, hY, hk => by
    obtain ⟨c, hs, hc⟩ := hf f (by simp)
    have e : s.drop a = f ++ (fs.flatten ++ Y) := by rw [hd]; simp
    have hl := congrArg List.length e
    rw [List.length_drop, List.length_append] at hl
    unfold whl
    rw [opn_nat ha, e, opn0_frame hs hc]
    dsimp only
    rw [if_pos rfl, Int.toNat_natCast]
    have e2 : s.drop (a + f.length) = fs.flatten ++ Y := by
      rw [← List.drop_drop, e]
      exact List.drop_left' rfl
    rw [whl_frs fs s Y k (a + f.length) (fun g hg => hf g (by simp [hg])) (by omega) e2 hY (by simp only [List.length_cons] at hk; omega)]
    simp only [List.flatten_cons, List.length_append]
    omega
theorem opn0_nil : (opn0 []).2.2 ≠ 0 := by decide
theorem frs_len : ∀ {fs : List (List UInt8)}, Frs fs → fs.length ≤ fs.flatten.length
  | [], _ => by simp
  | f :: fs, h => by
    obtain ⟨c, hs, hc⟩ := h f (by simp)
    have h1 := frame_len hs hc
    have h2 := frs_len (fs := fs) fun g hg => h g (by simp [hg])
    simp only [List.flatten_cons, List.length_append, List.length_cons]
    omega
theorem whole_frs {fs : List (List UInt8)} (h : Frs fs) : whole fs.flatten = fs.flatten.length := by
  have := whl_frs fs fs.flatten [] (fs.flatten.length + 1) 0 h (by omega) (by simp) opn0_nil (by have := frs_len h; omega)
  simpa [whole] using this
/-- Records with their frames, and where they stand. -/
def rl : List (List UInt8 × Rc) → Nat → List (Nat × Rc)
  | [], _ => []
  | x :: ps, a => (a + 1, x.2.clean) :: rl ps (a + x.1.length)
def Prs (ps : List (List UInt8 × Rc)) : Prop := ∀ x ∈ ps, x.2.short ∧ x.2.frame = (x.1, 0)
theorem Prs.frs {ps : List (List UInt8 × Rc)} (h : Prs ps) : Frs (ps.map (·.1)) := fun f hf => by
  obtain ⟨x, hx, rfl⟩ := List.mem_map.1 hf
  exact ⟨x.2, h x hx⟩
theorem rcs_prs : ∀ (ps : List (List UInt8 × Rc)) (s : List UInt8) (k a : Nat), Prs ps → a ≤ s.length → s.drop a = (ps.map (·.1)).flatten → ps.length < k → rcs s k a = rl ps a
  | [], s, k + 1, a, _, ha, hd, _ => by
    have hl := congrArg List.length hd
    rw [List.length_drop] at hl
    simp only [List.map_nil, List.flatten_nil, List.length_nil] at hl
    unfold rcs
    rw [if_neg (by omega)]
    rfl
  | x :: ps, s, k + 1, a, hp, ha, hd, hk => by
    obtain ⟨hs, hc⟩ := hp x (by simp)
    have h7 := frame_len hs hc
    have e : s.drop a = x.1 ++ (ps.map (·.1)).flatten := by rw [hd]; simp
    have hl := congrArg List.length e
    rw [List.length_drop, List.length_append] at hl
    unfold rcs
    rw [if_pos (by omega), opn_nat ha, e, opn0_frame hs hc]
    dsimp only
    rw [if_pos rfl, Int.toNat_natCast]
    have e2 : s.drop (a + x.1.length) = (ps.map (·.1)).flatten := by
      rw [← List.drop_drop, e]
      exact List.drop_left' rfl
    rw [rcs_prs ps s k (a + x.1.length) (fun y hy => hp y (by simp [hy])) (by omega) e2 (by simp only [List.length_cons] at hk; omega)]
    rfl
theorem recs_prs {ps : List (List UInt8 × Rc)} (h : Prs ps) : recs (ps.map (·.1)).flatten = rl ps 0 := by
  refine rcs_prs ps _ _ 0 h (by omega) (by simp) ?_
  have := frs_len h.frs
  rw [List.length_map] at this
  omega
end Go.Sp
/- The log on a disk that nothing lets go: mend, Flush. -/
namespace Go.Sp
open Go Go.Proofs
set_option linter.unusedSimpArgs false
set_option linter.unusedVariables false
set_option maxRecDepth 10000
theorem lmend_calm {Z : Dk} {sb n : Nat} (h : Z.calm sb n) {G : Lg} (hG : G.ok n) : (Z.lmend G).1 = 0 ∧ (Z.lmend G).2.2 = G ∧ (Z.lmend G).2.1.calm sb n ∧ (Z.lmend G).2.1.es = [] ∧ ∀ j : Nat, j < n → (Z.lmend G).2.1.get (j : Int) = if G.durable / 58 < G.sectors ∧ j = G.base + G.durable / 58 then wh (G.sec (G.durable / 58)) else Z.get (j : Int) := by
  have hn : 0 < n := by have := hG.fit; have := hG.s1; omega
  obtain ⟨a1, a2, a3⟩ := lw_calm h hG (G.durable / 58)
  obtain ⟨b1, b2, b3, _, b5⟩ := a2.sync hn
  unfold Dk.lmend
  rw [if_pos a1]
  dsimp only
  refine ⟨b1, by rw [b1]; exact down_0 G, b2, b3, fun j hj => ?_⟩
  rw [b5 j hj, a3]
theorem lflush_calm {Z : Dk} {sb n : Nat} (h : Z.calm sb n) {G : Lg} (hG : G.ok n) (hd : G.dead = false) : (Z.lflush G).1 = 0 ∧ (Z.lflush G).2.2 = { G with durable := G.all.length } ∧ (Z.lflush G).2.1.calm sb n ∧ (G.durable < G.all.length → (Z.lflush G).2.1.es = []) ∧
    (G.durable = G.all.length → (Z.lflush G).2.1 = Z) ∧ ∀ j : Nat, j < n → (Z.lflush G).2.1.get (j : Int) = if G.durable < G.all.length ∧ G.base + G.durable / 58 ≤ j ∧ 58 * (j - G.base) < G.all.length then wh (G.sec (j - G.base)) else Z.get (j : Int) := by
  have hn : 0 < n := by have := hG.fit; have := hG.s1; omega
  have hdu := hG.du
  unfold Dk.lflush
  rw [if_neg (by rw [hd]; decide)]
  by_cases hq : G.durable = G.all.length
  · rw [if_pos hq]
    refine ⟨rfl, ?_, h, fun hlt => by omega, fun _ => rfl, fun j hj => by rw [if_neg (by omega)]⟩
    dsimp only
    rw [← hq]
  · rw [if_neg hq]
    obtain ⟨a1, a2, a3⟩ := lws_calm hG (G.sectors + 1) (G.durable / 58) h (by omega)
    obtain ⟨b1, b2, b3, _, b5⟩ := a2.sync hn
    dsimp only
    rw [if_pos a1, if_pos b1]
    refine ⟨rfl, rfl, b2, fun _ => b3, fun e => absurd e hq, fun j hj => ?_⟩
    dsimp only
    rw [b5 j hj, a3]
    by_cases hj2 : G.base + G.durable / 58 ≤ j ∧ 58 * (j - G.base) < G.all.length
    · rw [if_pos hj2, if_pos ⟨by omega, hj2⟩]
    · rw [if_neg hj2, if_neg (fun hx => hj2 hx.2)]
end Go.Sp
/- The log on a disk that nothing lets go: what its sectors tell stays so. -/
namespace Go.Sp
open Go Go.Proofs
set_option linter.unusedSimpArgs false
set_option linter.unusedVariables false
set_option maxRecDepth 10000
structure Wi (Z : Dk) (sb n : Nat) (G : Lg) (ρ : Nat → Nat) : Prop where
  calm : Z.calm sb n
  ok : G.ok n
  dead : G.dead = false
  tells : Tells Z G.base G.sectors (G.all.take G.durable) ρ
  top : ∀ m, 58 * m < G.durable → ρ m ≤ G.run
  fresh : ∀ m, m < G.sectors → G.durable < 58 * m → at4 (Z.get ((G.base + m : Nat) : Int)) < G.run
  edge : ∀ m, m < G.sectors → G.durable = 58 * m → at4 (Z.get ((G.base + m : Nat) : Int)) < G.run ∨ (at4 (Z.get ((G.base + m : Nat) : Int)) = G.run ∧ n2 (Z.get ((G.base + m : Nat) : Int)) = 0)
theorem Wi.append {Z : Dk} {sb n : Nat} {G : Lg} {ρ : Nat → Nat} (h : Wi Z sb n G ρ) {s : List UInt8} (hs : G.all.length + s.length ≤ 58 * G.sectors) : Wi Z sb n { G with all := G.all ++ s } ρ := by
  obtain ⟨a1, a2, a3, a4, a5, a6, a7⟩ := h
  have hdu := a2.du
  have e : (G.all ++ s).take G.durable = G.all.take G.durable := List.take_append_of_le_length hdu
  refine ⟨a1, ⟨a2.s1, a2.fit, a2.n1, a2.r1, a2.r2, by dsimp only; rw [List.length_append]; omega, by dsimp only; rw [List.length_append]; exact hs⟩, a3, ?_, a5, a6, a7⟩
  dsimp only
  rw [e]
  exact a4
theorem part_take {all : List UInt8} {d m : Nat} (h : 58 * m + 58 ≤ d) : part (all.take d) m = part all m := by
  unfold part
  rw [List.drop_take, List.take_take, show min 58 (d - 58 * m) = 58 by omega]
theorem Wi.flush {Z : Dk} {sb n : Nat} {G : Lg} {ρ : Nat → Nat} (h : Wi Z sb n G ρ) : ∃ ρ', Wi (Z.lflush G).2.1 sb n { G with durable := G.all.length } ρ' := by
  obtain ⟨a1, a2, a3, a4, a5, a6, a7⟩ := h
  have hdu := a2.du
  have hle := a2.le
  have hfit := a2.fit
  obtain ⟨l1, l2, l3, l4, l5, l6⟩ := lflush_calm a1 a2 a3
  by_cases hq : G.durable = G.all.length
  · refine ⟨ρ, ?_⟩
    rw [l5 hq, ← hq]
    exact ⟨a1, a2, a3, a4, a5, a6, a7⟩
  · have hget : ∀ m, m < G.sectors → (Z.lflush G).2.1.get ((G.base + m : Nat) : Int) = if G.durable / 58 ≤ m ∧ 58 * m < G.all.length then wh (G.sec m) else Z.get ((G.base + m : Nat) : Int) := fun m hm => by
      rw [l6 (G.base + m) (by omega)]
      have e : G.base + m - G.base = m := by omega
      rw [e]
      by_cases hc : G.durable / 58 ≤ m ∧ 58 * m < G.all.length
      · rw [if_pos hc, if_pos ⟨by omega, by omega, hc.2⟩]
      · rw [if_neg hc, if_neg (by omega)]
    refine ⟨fun m => if m < G.durable / 58 then ρ m else G.run, l3, ⟨a2.s1, a2.fit, a2.n1, a2.r1, a2.r2, Nat.le_refl _, hle⟩, a3, ?_, ?_, ?_, ?_⟩
    · dsimp only
      rw [List.take_length]
      refine ⟨fun m m1 m2 => ?_, fun m => ?_, fun m => ?_, fun m m1 m2 => ?_, hle⟩
      · rw [hget m m2]
        by_cases hm : m < G.durable / 58
        · rw [if_neg (by omega), if_pos hm, a4.secs m (by rw [List.length_take]; omega) m2, part_take (by omega)]
        · rw [if_pos ⟨by omega, m1⟩, if_neg hm]
          rfl
      · have hm0 := a4.mono m
        have hr := a2.r1
        unfold prv at hm0 ⊢
        by_cases m0 : m = 0
        · rw [if_pos m0] at hm0 ⊢
          split <;> omega
        · rw [if_neg m0] at hm0 ⊢
          dsimp only
          by_cases h1 : m < G.durable / 58
          · rw [if_pos (by omega), if_pos h1]; exact hm0
          · rw [if_neg h1]
            split
            · exact a5 (m - 1) (by omega)
            · exact Nat.le_refl _
      · split
        · exact a4.lt m
        · exact a2.r2
      · left
        rw [hget m m1, if_neg (by omega)]
        have hf := a6 m m1 (by omega)
        have hm0 : ¬ m = 0 := by omega
        unfold prv
        rw [if_neg hm0]
        dsimp only
        rw [if_neg (by omega)]
        exact hf
    · intro m hm
      dsimp only
      split
      · exact a5 m (by omega)
      · exact Nat.le_refl _
    · intro m m1 m2
      dsimp only at m1 m2 ⊢
      rw [hget m m1, if_neg (by omega)]
      exact a6 m m1 (by omega)
    · intro m m1 m2
      dsimp only at m1 m2 ⊢
      left
      rw [hget m m1, if_neg (by omega)]
      exact a6 m m1 (by omega)
end Go.Sp
/- The log on a disk that nothing lets go: it is mended, and found again. -/
namespace Go.Sp
open Go Go.Proofs
set_option linter.unusedSimpArgs false
set_option linter.unusedVariables false
set_option maxRecDepth 10000
theorem scan_wi {Z : Dk} {sb n : Nat} {G : Lg} {ρ : Nat → Nat} (h : Wi Z sb n G ρ) {top : Nat} (ht : G.run ≤ top) : Z.scn G.base top G.sectors 0 1 = G.all.take G.durable := by
  have e := scn_is h.tells (top := top) (fun m hm => Nat.le_trans (h.top m (by rw [List.length_take] at hm; omega)) ht) G.sectors 0 (by omega) (by omega)
  simpa [prv] using e
/-- What is mended: the sector at the log's end is of this run, and what stands behind it is of an older one. -/
theorem mend_wi {Z : Dk} {sb n : Nat} {G : Lg} {ρ : Nat → Nat} (hc : Z.calm sb n) (hG : G.ok n) (hd : G.dead = false) (hdur : G.durable = G.all.length)
    (secs : ∀ m, 58 * m < G.durable → m < G.sectors → m < G.durable / 58 → Z.get ((G.base + m : Nat) : Int) = wh (secb (ρ m) (part G.all m)))
    (mono : ∀ m, prv ρ m ≤ ρ m) (lt : ∀ m, ρ m < 4294967296) (top : ∀ m, m < G.durable / 58 → ρ m ≤ G.run)
    (fresh : ∀ m, m < G.sectors → G.durable / 58 < m → at4 (Z.get ((G.base + m : Nat) : Int)) < G.run) :
    ∃ ρ', Wi (Z.lmend G).2.1 sb n G ρ' ∧ (Z.lmend G).1 = 0 ∧ (Z.lmend G).2.2 = G ∧ (Z.lmend G).2.1.es = [] := by
  obtain ⟨m1, m2, m3, m4, m5⟩ := lmend_calm hc hG
  have hfit := hG.fit
  have hle := hG.le
  have hget : ∀ m, m < G.sectors → (Z.lmend G).2.1.get ((G.base + m : Nat) : Int) = if m = G.durable / 58 then wh (G.sec m) else Z.get ((G.base + m : Nat) : Int) := fun m hm => by
    rw [m5 (G.base + m) (by omega)]
    by_cases e : m = G.durable / 58
    · rw [if_pos e, if_pos ⟨by omega, by omega⟩, e]
    · rw [if_neg e, if_neg (by omega)]
  have hr2 := hG.r2
  refine ⟨fun m => if m < G.durable / 58 then ρ m else G.run, ⟨m3, hG, hd, ?_, ?_, ?_, ?_⟩, m1, m2, m4⟩
  · rw [hdur, List.take_length, ← hdur]
    refine ⟨fun m a b => ?_, fun m => ?_, fun m => ?_, fun m a b => ?_, by omega⟩
    · rw [hget m b]
      by_cases hm : m < G.durable / 58
      · rw [if_neg (by omega), if_pos hm]
        exact secs m (by omega) b hm
      · have : m = G.durable / 58 := by omega
        rw [if_pos this, if_neg hm]
        rfl
    · have hm0 := mono m
      have hr := hG.r1
      unfold prv at hm0 ⊢
      by_cases m0 : m = 0
      · rw [if_pos m0] at hm0 ⊢
        split <;> omega
      · rw [if_neg m0] at hm0 ⊢
        dsimp only
        by_cases h1 : m < G.durable / 58
        · rw [if_pos (by omega), if_pos h1]; exact hm0
        · rw [if_neg h1]
          split
          · exact top (m - 1) (by omega)
          · exact Nat.le_refl _
    · split
      · exact lt m
      · exact hG.r2
    · right
      rw [hget m a, if_pos (by omega)]
      obtain ⟨_, b2, _⟩ := secb_rd (r := G.run) (p := part G.all m) hr2 (part_le G.all m)
      rw [sec_b, b2, part_len]
      omega
  · intro m hm
    split
    · exact top m (by omega)
    · exact Nat.le_refl _
  · intro m a b
    rw [hget m a, if_neg (by omega)]
    exact fresh m a (by omega)
  · intro m a b
    right
    rw [hget m a, if_pos (by omega)]
    obtain ⟨b1, b2, _⟩ := secb_rd (r := G.run) (p := part G.all m) hr2 (part_le G.all m)
    rw [sec_b]
    exact ⟨b1, by rw [b2, part_len]; omega⟩
end Go.Sp
/- The log on a disk that nothing lets go: Open, Cut, a loss of power. -/
namespace Go.Sp
open Go Go.Proofs
set_option linter.unusedSimpArgs false
set_option linter.unusedVariables false
set_option maxRecDepth 10000
/-- What is read stays so. -/
theorem Wi.mv {Z Y : Dk} {sb n : Nat} {G : Lg} {ρ : Nat → Nat} (h : Wi Z sb n G ρ) (hc : Y.calm sb n) (hg : ∀ j : Nat, j < n → Y.get (j : Int) = Z.get (j : Int)) : Wi Y sb n G ρ := by
  have hfit := h.ok.fit
  refine ⟨hc, h.ok, h.dead, ⟨fun m a b => ?_, h.tells.mono, h.tells.lt, fun m a b => ?_, h.tells.le⟩, h.top, fun m a b => ?_, fun m a b => ?_⟩
  · rw [hg _ (by omega)]; exact h.tells.secs m a b
  · rw [hg _ (by omega)]; exact h.tells.stop m a b
  · rw [hg _ (by omega)]; exact h.fresh m a b
  · rw [hg _ (by omega)]; exact h.edge m a b
theorem off_get {Z : Dk} {sb n : Nat} (h : Z.calm sb n) (he : Z.es = []) (keep : Int) (j : Nat) : (Z.off keep).on.get (j : Int) = Z.get (j : Int) := by
  obtain ⟨_, _, _, _, h5⟩ := h.off keep
  rcases h5 j with h6 | ⟨v, h6, _⟩
  · rw [h6]
    unfold Dk.get
    rw [he]
    simp [gk]
  · rw [he] at h6
    cases h6
theorem Wi.off {Z : Dk} {sb n : Nat} {G : Lg} {ρ : Nat → Nat} (h : Wi Z sb n G ρ) (he : Z.es = []) (keep : Int) : Wi (Z.off keep).on sb n G ρ :=
  h.mv (h.calm.off keep).1 fun j _ => off_get h.calm he keep j
/-- On a disk of which the sectors have nothing an empty log is found. -/
theorem found_zero {Z : Dk} {q base S run : Nat} (h : at4 (Z.get ((base : Nat) : Int)) = 0) (hS : 1 ≤ S) : Z.found q base S run = ⟨q, base, S, run, [], 0, false⟩ := by
  have e : Z.scn base run S 0 1 = [] := by
    obtain ⟨k, rfl⟩ : ∃ k, S = k + 1 := ⟨S - 1, by omega⟩
    unfold Dk.scn
    unfold at4 at h
    rw [Nat.add_zero, h, if_pos (by omega)]
  unfold Dk.found
  rw [e]
  rfl
theorem mend_zero {Z : Dk} {sb n q base S run : Nat} (hc : Z.calm sb n) (hz : ∀ m, m < S → at4 (Z.get ((base + m : Nat) : Int)) = 0) (hS : 1 ≤ S) (hf : base + S ≤ n) (hn : n ≤ 8192) (r1 : 1 ≤ run) (r2 : run < 4294967296) :
    ∃ ρ', Wi (Z.lmend ⟨q, base, S, run, [], 0, false⟩).2.1 sb n ⟨q, base, S, run, [], 0, false⟩ ρ' ∧ (Z.lmend ⟨q, base, S, run, [], 0, false⟩).1 = 0 ∧ (Z.lmend ⟨q, base, S, run, [], 0, false⟩).2.2 = ⟨q, base, S, run, [], 0, false⟩ ∧ (Z.lmend ⟨q, base, S, run, [], 0, false⟩).2.1.es = [] := by
  refine mend_wi (ρ := fun _ => 1) hc ⟨hS, hf, hn, r1, r2, Nat.le_refl _, by simp⟩ rfl rfl (fun m a => ?_) (fun m => ?_) (fun m => by decide) (fun m _ => r1) (fun m a _ => ?_)
  · simp at a
  · unfold prv; split <;> exact Nat.le_refl _
  · show at4 (Z.get ((base + m : Nat) : Int)) < run
    rw [hz m a]
    exact r1
/-- A log that was left is found as far as it lasts, in a greater run. -/
theorem found_wi {Z : Dk} {sb n : Nat} {G : Lg} {ρ : Nat → Nat} (h : Wi Z sb n G ρ) {q run : Nat} (hr : G.run ≤ run) (hw : whole (G.all.take G.durable) = G.durable) :
    Z.found q G.base G.sectors run = ⟨q, G.base, G.sectors, run, G.all.take G.durable, G.durable, false⟩ := by
  unfold Dk.found
  rw [scan_wi h hr, hw, List.take_take, Nat.min_self]
theorem mend_again {Z : Dk} {sb n : Nat} {G : Lg} {ρ : Nat → Nat} (h : Wi Z sb n G ρ) {q run : Nat} (hr : G.run < run) (r2 : run < 4294967296) :
    ∃ ρ', Wi (Z.lmend ⟨q, G.base, G.sectors, run, G.all.take G.durable, G.durable, false⟩).2.1 sb n ⟨q, G.base, G.sectors, run, G.all.take G.durable, G.durable, false⟩ ρ' ∧ (Z.lmend ⟨q, G.base, G.sectors, run, G.all.take G.durable, G.durable, false⟩).1 = 0 ∧
      (Z.lmend ⟨q, G.base, G.sectors, run, G.all.take G.durable, G.durable, false⟩).2.2 = ⟨q, G.base, G.sectors, run, G.all.take G.durable, G.durable, false⟩ ∧ (Z.lmend ⟨q, G.base, G.sectors, run, G.all.take G.durable, G.durable, false⟩).2.1.es = [] := by
  have hok := h.ok
  have hdu := hok.du
  have hle := hok.le
  have hl : (G.all.take G.durable).length = G.durable := by rw [List.length_take]; omega
  refine mend_wi (ρ := ρ) h.calm ⟨hok.s1, hok.fit, hok.n1, Nat.le_trans hok.r1 (Nat.le_of_lt hr), r2, by dsimp only; rw [hl]; omega, by dsimp only; rw [hl]; omega⟩ rfl hl.symm (fun m a b c => ?_) h.tells.mono h.tells.lt (fun m a => ?_) (fun m a b => ?_)
  · dsimp only at a b c ⊢
    exact h.tells.secs m (by rw [hl]; exact a) b
  · dsimp only at a ⊢
    exact Nat.le_trans (h.top m (by omega)) (Nat.le_of_lt hr)
  · dsimp only at a b ⊢
    exact Nat.lt_trans (h.fresh m a (by omega)) hr
end Go.Sp
/- The log on a disk that nothing lets go: its calls. -/
namespace Go.Sp
open Go Go.Proofs
set_option linter.unusedSimpArgs false
set_option linter.unusedVariables false
set_option maxRecDepth 10000
theorem at4_nil : at4 (wh []) = 0 := by decide
theorem new_get {sb bb mb n j : Nat} (h : j < n) : (Dk.new sb bb mb n).get (j : Int) = wh [] := by
  unfold Dk.get Dk.new
  simp [gk, h]
theorem wopen0 {Z : Dk} {sb n : Nat} (hc : Z.calm sb n) {base S run : Nat} (hz : ∀ m, m < S → at4 (Z.get ((base + m : Nat) : Int)) = 0) (hS : 1 ≤ S) (hf : base + S ≤ n) (hn : n ≤ 8192) (r1 : 1 ≤ run) (r2 : run < 4294967296) :
    Fn (eT2 eP eI) Tryz.prog 17 #[.pointer (some ⟨sb, 0, none⟩), .int .i64 (base : Int), .int .i64 (S : Int), .int .i64 (run : Int)] [dk Z] fun y X => ∃ (q : Nat) (Y : Dk) (ρ : Nat → Nat), y = (some ⟨q, 0, none⟩, 0) ∧ X = [lgp ⟨q, base, S, run, [], 0, false⟩ sb, dk Y] ∧ Wi Y sb n ⟨q, base, S, run, [], 0, false⟩ ρ ∧ Y.es = [] := fun L w hw => by
  have F := g17 Z hc.ok (base : Int) (S : Int) (run : Int) (by unfold wf64; omega) (by unfold wf64; omega)
  rw [hc.sb] at F
  refine (F L w hw).mono ?_
  rintro _ w' ⟨y, he, X, hX, hW⟩
  have e0 : lchk Z.sure.length (base : Int) (S : Int) (run : Int) = 0 := by
    unfold lchk
    rw [hc.n, if_neg (by omega), if_neg (by omega)]
  rw [if_pos e0, if_pos hc.up] at hX
  obtain ⟨q, b, k, r, e1, e2, e3, hok, h⟩ := hX
  obtain rfl : b = base := by omega
  obtain rfl : k = S := by omega
  obtain rfl : r = run := by omega
  rw [found_zero (by have := hz 0 (by omega); simpa using this) hS] at h
  obtain ⟨ρ, m1, m2, m3, m4⟩ := mend_zero (q := q) hc hz hS hf hn r1 r2
  rw [if_pos m2, m3] at h
  exact ⟨y, he, X, ⟨q, _, ρ, h.1, h.2, m1, m4⟩, hW⟩
theorem wopen {Z : Dk} {sb n : Nat} {G : Lg} {ρ : Nat → Nat} (h : Wi Z sb n G ρ) {run : Nat} (hr : G.run < run) (r2 : run < 4294967296) (hw : whole (G.all.take G.durable) = G.durable) :
    Fn (eT2 eP eI) Tryz.prog 17 #[.pointer (some ⟨sb, 0, none⟩), .int .i64 (G.base : Int), .int .i64 (G.sectors : Int), .int .i64 (run : Int)] [dk Z] fun y X => ∃ (q : Nat) (Y : Dk) (ρ' : Nat → Nat), y = (some ⟨q, 0, none⟩, 0) ∧ X = [lgp ⟨q, G.base, G.sectors, run, G.all.take G.durable, G.durable, false⟩ sb, dk Y] ∧ Wi Y sb n ⟨q, G.base, G.sectors, run, G.all.take G.durable, G.durable, false⟩ ρ' ∧ Y.es = [] := fun L w hw' => by
  have hc := h.calm
  have hok := h.ok
  have hfit := hok.fit
  have hn1 := hok.n1
  have hs1 := hok.s1
  have F := g17 Z hc.ok (G.base : Int) (G.sectors : Int) (run : Int) (by unfold wf64; omega) (by unfold wf64; omega)
  rw [hc.sb] at F
  refine (F L w hw').mono ?_
  rintro _ w' ⟨y, he, X, hX, hW⟩
  have e0 : lchk Z.sure.length (G.base : Int) (G.sectors : Int) (run : Int) = 0 := by
    unfold lchk
    rw [hc.n, if_neg (by omega), if_neg (by omega)]
  rw [if_pos e0, if_pos hc.up] at hX
  obtain ⟨q, b, k, r, e1, e2, e3, _, h4⟩ := hX
  obtain rfl : b = G.base := by omega
  obtain rfl : k = G.sectors := by omega
  obtain rfl : r = run := by omega
  rw [found_wi h (Nat.le_of_lt hr) hw] at h4
  obtain ⟨ρ', m1, m2, m3, m4⟩ := mend_again h (q := q) hr r2
  rw [if_pos m2, m3] at h4
  exact ⟨y, he, X, ⟨q, _, ρ', h4.1, h4.2, m1, m4⟩, hW⟩
theorem wappend {Z : Dk} {sb n : Nat} {G : Lg} {ρ : Nat → Nat} (h : Wi Z sb n G ρ) (A : HP) (r : api_Rec) (c : Rc) (hr : RcAt A r c) :
    Fq (eT2 eI eI) Tryz.prog 20 #[G.p, v_api_Rec r] [lgp G sb, A] [lgp (G.append c).2 sb, A] (G.append c).1 := by
  have hfit := h.ok.fit
  have hn1 := h.ok.n1
  exact g20 G sb h.ok.le (by omega) A r c hr
/-- What a record that is appended makes of a log that is not dead. -/
theorem append_is {G : Lg} (hd : G.dead = false) (c : Rc) : G.append c = if c.frame.2 = 0 then (if G.all.length + c.frame.1.length ≤ 58 * G.sectors then ((((G.all.length + 1 : Nat) : Int), 0), { G with all := G.all ++ c.frame.1 }) else ((0, 7), G)) else ((0, c.frame.2), G) := by
  unfold Lg.append Lg.add
  rw [if_neg (by rw [hd]; decide)]
  by_cases h0 : c.frame.2 = 0
  · rw [if_pos h0, if_pos h0]
    by_cases hq : G.all.length + c.frame.1.length ≤ 58 * G.sectors
    · rw [if_pos hq, if_neg (by omega)]
    · rw [if_neg hq, if_pos (by omega)]
  · rw [if_neg h0, if_neg h0]
theorem Wi.app {Z : Dk} {sb n : Nat} {G : Lg} {ρ : Nat → Nat} (h : Wi Z sb n G ρ) (c : Rc) : Wi Z sb n (G.append c).2 ρ := by
  rw [append_is h.dead]
  split
  · split
    · exact h.append (by assumption)
    · exact h
  · exact h
theorem wflush {Z : Dk} {sb n : Nat} {G : Lg} {ρ : Nat → Nat} (h : Wi Z sb n G ρ) :
    ∃ (Y : Dk) (ρ' : Nat → Nat), Fq eI Tryz.prog 21 #[G.p] [lgp G sb, dk Z] [lgp { G with durable := G.all.length } sb, dk Y] 0 ∧ Wi Y sb n { G with durable := G.all.length } ρ' ∧ (Z.es = [] → Y.es = []) := by
  obtain ⟨ρ', hW⟩ := h.flush
  obtain ⟨l1, l2, _, l4, l5, _⟩ := lflush_calm h.calm h.ok h.dead
  refine ⟨_, ρ', ?_, hW, fun he => ?_⟩
  · have F := g21 G Z h.calm.ok (by rw [h.calm.n]; exact h.ok)
    rw [l1, l2, h.calm.sb] at F
    exact F
  · have hdu := h.ok.du
    rcases Nat.lt_or_ge G.durable G.all.length with x | x
    · exact l4 x
    · rw [l5 (by omega)]; exact he
end Go.Sp
/- What a law's arguments are: structs that hold slices of flat values, and slices of such structs, read as they lie. -/
namespace Go.Sp
open Go
inductive Ln
  | f (l : Lf)
  | sl (sz : Nat) (ks : List Lf)
section
variable {H : Type} {enc : TypeId × Value → H} {P : Program} {w : World} {base : Nat} {spare : Nat → Bool} {held : Bool}
end
end Go.Sp
/- Records as arguments. -/
namespace Go.Sp
open Go Go.Proofs
set_option linter.unusedSimpArgs false
set_option linter.unusedVariables false
theorem rcl_len (r : api_Rec) : (rcl r).length = 13 := rfl
end Go.Sp
/- The log's layer: its example. -/
namespace Go.Sp
open Go Go.Proofs
set_option linter.unusedSimpArgs false
set_option linter.unusedVariables false
set_option maxRecDepth 10000
theorem i_sj {e : Enc} {L L' : List HP} {A : HP} {α : Type} {cel : α → List Value} {a : Addr} {n c sz i j : Nat} {xs : List α} {x : α} {k : e.α → W} {y : e.α} (hR : Rs A (some a, n, c) sz (xs.flatMap cel)) (hc : ∀ x, (cel x).length = sz) (hx : xs[i]? = some x) [ha : AX L A L'] (hv : (cel x)[j]? = some (e.enc y)) (h : E L (k y)) : E L (ld e ((a.add (i * sz)).add j) k) :=
  r_sj hR hc hx ha.p hv h
theorem RL.two {S : HP} {rs : List api_Rec} {a b : Rc} (h : RL S rs [a, b]) : ∃ r s, rs = [r, s] ∧ RcAt S s b := by
  have hn := h.n
  match rs, hn with
  | [r, s], _ => exact ⟨r, s, rfl, h.g 1 s b rfl rfl⟩
set_option maxHeartbeats 1000000 in
theorem g15 : Fp eB Tryz.prog 15 #[] [] true := fun L => by
  refine c15_fn rfl rfl ?_
  repeat' ((fail_if_success with_reducible refine nph ?_); first | (with_reducible first | (refine d_seq ?_; intro K hK) | (refine hK _ _ ?_; clear hK K) | (refine SG.p ?_; try intro b)) | ((with_reducible refine SC.p ?_); refine And.intro ?_ ?_) <;> intro hc <;> try simp only [push_cast, Int.reduceEq, Int.reduceLT, Int.reduceLE, Int.reduceNe] at hc | with_reducible refine r_rq (by first | decide | omega) ?_ | ((with_reducible refine SL.p ?_); first | refine ⟨_, rfl, ?_⟩ | refine ⟨_, _, _, rfl, ?_⟩ | (refine ⟨?_, rfl, ?_⟩; focus (simp; done))) | ((with_reducible first | apply i_ldn | apply i_ldnq); exact rfl; exact rfl; exact rfl) | ((try with_reducible refine d_reg ?_); simp only [go_sem, Nat.reduceAdd, Nat.reduceEqDiff, Int.reduceToNat, Nat.reduceMul, Nat.reduceSub]) | clear hK K)
  refine i_cal (F25 20 (by decide) (by decide)) ?_
  rintro y X ⟨sb, bb, mb, rfl, rfl⟩
  have hc0 : (Dk.new sb bb mb 20).calm sb 20 := Dk.calm.new (by decide) (by decide)
  have hz : ∀ m, m < 10 → at4 ((Dk.new sb bb mb 20).get ((1 + m : Nat) : Int)) = 0 := fun m hm => by rw [new_get (by omega)]; exact at4_nil
  generalize Dk.new sb bb mb 20 = Z at *
  repeat' ((fail_if_success with_reducible refine nph ?_); first | (with_reducible first | (refine d_seq ?_; intro K hK) | (refine hK _ _ ?_; clear hK K) | (refine SG.p ?_; try intro b)) | ((with_reducible refine SC.p ?_); refine And.intro ?_ ?_) <;> intro hc <;> try simp only [push_cast, Int.reduceEq, Int.reduceLT, Int.reduceLE, Int.reduceNe] at hc | with_reducible refine r_rq (by first | decide | omega) ?_ | ((with_reducible refine SL.p ?_); first | refine ⟨_, rfl, ?_⟩ | refine ⟨_, _, _, rfl, ?_⟩ | (refine ⟨?_, rfl, ?_⟩; focus (simp; done))) | ((with_reducible first | apply i_ldn | apply i_ldnq); exact rfl; exact rfl; exact rfl) | ((try with_reducible refine d_reg ?_); simp only [go_sem, Nat.reduceAdd, Nat.reduceEqDiff, Int.reduceToNat, Nat.reduceMul, Nat.reduceSub]) | clear hK K)
  all_goals try contradiction
  refine i_cal (wopen0 hc0 hz (by decide) (by decide) (by decide) (by decide : 1 ≤ 1) (by decide)) ?_
  rintro y X ⟨q, Y, ρ, rfl, rfl, hW, hE⟩
  repeat' ((fail_if_success with_reducible refine nph ?_); first | (with_reducible first | (refine d_seq ?_; intro K hK) | (refine hK _ _ ?_; clear hK K) | (refine SG.p ?_; try intro b)) | ((with_reducible refine SC.p ?_); refine And.intro ?_ ?_) <;> intro hc <;> try simp only [push_cast, Int.reduceEq, Int.reduceLT, Int.reduceLE, Int.reduceNe] at hc | with_reducible refine r_rq (by first | decide | omega) ?_ | ((with_reducible refine SL.p ?_); first | refine ⟨_, rfl, ?_⟩ | refine ⟨_, _, _, rfl, ?_⟩ | (refine ⟨?_, rfl, ?_⟩; focus (simp; done))) | ((with_reducible first | apply i_ldn | apply i_ldnq); exact rfl; exact rfl; exact rfl) | ((try with_reducible refine d_reg ?_); simp only [go_sem, Nat.reduceAdd, Nat.reduceEqDiff, Int.reduceToNat, Nat.reduceMul, Nat.reduceSub]) | clear hK K)
  all_goals try contradiction
  obtain ⟨f1, c1, l1⟩ := cm_frame (n := 1) ⟨by decide, by decide⟩
  obtain ⟨f2, c2, l2⟩ := cm_frame (n := 2) ⟨by decide, by decide⟩
  obtain ⟨f3, c3, l3⟩ := cm_frame (n := 3) ⟨by decide, by decide⟩
  have e1 : (⟨q, 1, 10, 1, [], 0, false⟩ : Lg).append (cm 1) = ((1, 0), ⟨q, 1, 10, 1, f1, 0, false⟩) := by
    rw [append_is rfl, c1]
    simp [l1]
  have A1 := wappend hW (dk Y) _ _ (cm_at (dk Y) 1)
  have W1 := hW.app (cm 1)
  rw [e1] at A1 W1
  dsimp only at W1
  have e2 : (⟨q, 1, 10, 1, f1, 0, false⟩ : Lg).append (cm 2) = ((20, 0), ⟨q, 1, 10, 1, f1 ++ f2, 0, false⟩) := by
    rw [append_is rfl, c2]
    simp [l1, l2]
  have A2 := wappend W1 (dk Y) _ _ (cm_at (dk Y) 2)
  have W2 := W1.app (cm 2)
  rw [e2] at A2 W2
  dsimp only at W2
  obtain ⟨V, ρ3, F3, W3, hE3⟩ := wflush W2
  dsimp only at F3 W3
  have l12 : (f1 ++ f2).length = 38 := by rw [List.length_append, l1, l2]
  rw [l12] at F3 W3
  have e4 : (⟨q, 1, 10, 1, f1 ++ f2, 38, false⟩ : Lg).append (cm 3) = ((39, 0), ⟨q, 1, 10, 1, f1 ++ f2 ++ f3, 38, false⟩) := by
    rw [append_is rfl, c3]
    simp [l1, l2, l3]
  have A4 := wappend W3 (dk V) _ _ (cm_at (dk V) 3)
  have W4 := W3.app (cm 3)
  rw [e4] at A4 W4
  dsimp only at W4
  have C5 := calm_c W4.calm (by decide) 0
  have C6 := calm_o W4.calm 0
  have W6 := W4.off (hE3 hE) 0
  have hps : Prs [(f1, cm 1), (f2, cm 2)] := fun x hx => by
    simp only [List.mem_cons, List.not_mem_nil, or_false] at hx
    rcases hx with rfl | rfl
    · exact ⟨⟨Nat.zero_le _, Nat.zero_le _⟩, c1⟩
    · exact ⟨⟨Nat.zero_le _, Nat.zero_le _⟩, c2⟩
  have ht : (f1 ++ f2 ++ f3).take 38 = f1 ++ f2 := List.take_left' l12
  have hwh : whole (f1 ++ f2) = 38 := by
    have := whole_frs hps.frs
    simpa [l1, l2] using this
  have O7 := wopen W6 (run := 2) (Nat.lt_succ_self 1) (by decide) (by dsimp only; rw [ht]; exact hwh)
  dsimp only at O7
  rw [ht] at O7
  have hrec : recs (f1 ++ f2) = [(1, cm 1), (20, cm 2)] := by
    have := recs_prs hps
    simp only [List.map_cons, List.map_nil, List.flatten_cons, List.flatten_nil, List.append_nil] at this
    rw [this]
    simp only [rl, l1]
    rfl
  refine i_clp (g37 1) ?_
  refine i_clq A1 ?_
  repeat' ((fail_if_success with_reducible refine nph ?_); first | (with_reducible first | (refine d_seq ?_; intro K hK) | (refine hK _ _ ?_; clear hK K) | (refine SG.p ?_; try intro b)) | ((with_reducible refine SC.p ?_); refine And.intro ?_ ?_) <;> intro hc <;> try simp only [push_cast, Int.reduceEq, Int.reduceLT, Int.reduceLE, Int.reduceNe] at hc | with_reducible refine r_rq (by first | decide | omega) ?_ | ((with_reducible refine SL.p ?_); first | refine ⟨_, rfl, ?_⟩ | refine ⟨_, _, _, rfl, ?_⟩ | (refine ⟨?_, rfl, ?_⟩; focus (simp; done))) | ((with_reducible first | apply i_ldn | apply i_ldnq); exact rfl; exact rfl; exact rfl) | ((try with_reducible refine d_reg ?_); simp only [go_sem, Nat.reduceAdd, Nat.reduceEqDiff, Int.reduceToNat, Nat.reduceMul, Nat.reduceSub]) | clear hK K)
  refine i_clp (g37 2) ?_
  refine i_clq A2 ?_
  repeat' ((fail_if_success with_reducible refine nph ?_); first | (with_reducible first | (refine d_seq ?_; intro K hK) | (refine hK _ _ ?_; clear hK K) | (refine SG.p ?_; try intro b)) | ((with_reducible refine SC.p ?_); refine And.intro ?_ ?_) <;> intro hc <;> try simp only [push_cast, Int.reduceEq, Int.reduceLT, Int.reduceLE, Int.reduceNe] at hc | with_reducible refine r_rq (by first | decide | omega) ?_ | ((with_reducible refine SL.p ?_); first | refine ⟨_, rfl, ?_⟩ | refine ⟨_, _, _, rfl, ?_⟩ | (refine ⟨?_, rfl, ?_⟩; focus (simp; done))) | ((with_reducible first | apply i_ldn | apply i_ldnq); exact rfl; exact rfl; exact rfl) | ((try with_reducible refine d_reg ?_); simp only [go_sem, Nat.reduceAdd, Nat.reduceEqDiff, Int.reduceToNat, Nat.reduceMul, Nat.reduceSub]) | clear hK K)
  refine i_clq F3 ?_
  repeat' ((fail_if_success with_reducible refine nph ?_); first | (with_reducible first | (refine d_seq ?_; intro K hK) | (refine hK _ _ ?_; clear hK K) | (refine SG.p ?_; try intro b)) | ((with_reducible refine SC.p ?_); refine And.intro ?_ ?_) <;> intro hc <;> try simp only [push_cast, Int.reduceEq, Int.reduceLT, Int.reduceLE, Int.reduceNe] at hc | with_reducible refine r_rq (by first | decide | omega) ?_ | ((with_reducible refine SL.p ?_); first | refine ⟨_, rfl, ?_⟩ | refine ⟨_, _, _, rfl, ?_⟩ | (refine ⟨?_, rfl, ?_⟩; focus (simp; done))) | ((with_reducible first | apply i_ldn | apply i_ldnq); exact rfl; exact rfl; exact rfl) | ((try with_reducible refine d_reg ?_); simp only [go_sem, Nat.reduceAdd, Nat.reduceEqDiff, Int.reduceToNat, Nat.reduceMul, Nat.reduceSub]) | clear hK K)
  all_goals try contradiction
  refine i_clp (g37 3) ?_
  refine i_clq A4 ?_
  repeat' ((fail_if_success with_reducible refine nph ?_); first | (with_reducible first | (refine d_seq ?_; intro K hK) | (refine hK _ _ ?_; clear hK K) | (refine SG.p ?_; try intro b)) | ((with_reducible refine SC.p ?_); refine And.intro ?_ ?_) <;> intro hc <;> try simp only [push_cast, Int.reduceEq, Int.reduceLT, Int.reduceLE, Int.reduceNe] at hc | with_reducible refine r_rq (by first | decide | omega) ?_ | ((with_reducible refine SL.p ?_); first | refine ⟨_, rfl, ?_⟩ | refine ⟨_, _, _, rfl, ?_⟩ | (refine ⟨?_, rfl, ?_⟩; focus (simp; done))) | ((with_reducible first | apply i_ldn | apply i_ldnq); exact rfl; exact rfl; exact rfl) | ((try with_reducible refine d_reg ?_); simp only [go_sem, Nat.reduceAdd, Nat.reduceEqDiff, Int.reduceToNat, Nat.reduceMul, Nat.reduceSub]) | clear hK K)
  refine i_clq C5 ?_
  repeat' ((fail_if_success with_reducible refine nph ?_); first | (with_reducible first | (refine d_seq ?_; intro K hK) | (refine hK _ _ ?_; clear hK K) | (refine SG.p ?_; try intro b)) | ((with_reducible refine SC.p ?_); refine And.intro ?_ ?_) <;> intro hc <;> try simp only [push_cast, Int.reduceEq, Int.reduceLT, Int.reduceLE, Int.reduceNe] at hc | with_reducible refine r_rq (by first | decide | omega) ?_ | ((with_reducible refine SL.p ?_); first | refine ⟨_, rfl, ?_⟩ | refine ⟨_, _, _, rfl, ?_⟩ | (refine ⟨?_, rfl, ?_⟩; focus (simp; done))) | ((with_reducible first | apply i_ldn | apply i_ldnq); exact rfl; exact rfl; exact rfl) | ((try with_reducible refine d_reg ?_); simp only [go_sem, Nat.reduceAdd, Nat.reduceEqDiff, Int.reduceToNat, Nat.reduceMul, Nat.reduceSub]) | clear hK K)
  refine i_clq C6 ?_
  repeat' ((fail_if_success with_reducible refine nph ?_); first | (with_reducible first | (refine d_seq ?_; intro K hK) | (refine hK _ _ ?_; clear hK K) | (refine SG.p ?_; try intro b)) | ((with_reducible refine SC.p ?_); refine And.intro ?_ ?_) <;> intro hc <;> try simp only [push_cast, Int.reduceEq, Int.reduceLT, Int.reduceLE, Int.reduceNe] at hc | with_reducible refine r_rq (by first | decide | omega) ?_ | ((with_reducible refine SL.p ?_); first | refine ⟨_, rfl, ?_⟩ | refine ⟨_, _, _, rfl, ?_⟩ | (refine ⟨?_, rfl, ?_⟩; focus (simp; done))) | ((with_reducible first | apply i_ldn | apply i_ldnq); exact rfl; exact rfl; exact rfl) | ((try with_reducible refine d_reg ?_); simp only [go_sem, Nat.reduceAdd, Nat.reduceEqDiff, Int.reduceToNat, Nat.reduceMul, Nat.reduceSub]) | clear hK K)
  refine i_cal O7 ?_
  rintro y X ⟨q2, Y2, ρ2, rfl, rfl, hW2, hE2⟩
  repeat' ((fail_if_success with_reducible refine nph ?_); first | (with_reducible first | (refine d_seq ?_; intro K hK) | (refine hK _ _ ?_; clear hK K) | (refine SG.p ?_; try intro b)) | ((with_reducible refine SC.p ?_); refine And.intro ?_ ?_) <;> intro hc <;> try simp only [push_cast, Int.reduceEq, Int.reduceLT, Int.reduceLE, Int.reduceNe] at hc | with_reducible refine r_rq (by first | decide | omega) ?_ | ((with_reducible refine SL.p ?_); first | refine ⟨_, rfl, ?_⟩ | refine ⟨_, _, _, rfl, ?_⟩ | (refine ⟨?_, rfl, ?_⟩; focus (simp; done))) | ((with_reducible first | apply i_ldn | apply i_ldnq); exact rfl; exact rfl; exact rfl) | ((try with_reducible refine d_reg ?_); simp only [go_sem, Nat.reduceAdd, Nat.reduceEqDiff, Int.reduceToNat, Nat.reduceMul, Nat.reduceSub]) | clear hK K)
  all_goals try contradiction
  have hlen : (f1 ++ f2).length ≤ 1000000 := by omega
  have R8 := g25 ⟨q2, 1, 10, 2, f1 ++ f2, 38, false⟩ sb hlen
  dsimp only at R8
  rw [hrec] at R8
  refine i_cal R8 ?_
  rintro ⟨⟨p, n, c⟩, y2⟩ X ⟨S, rs, rfl, hRL⟩
  replace hRL : RL S rs [cm 1, cm 2] := hRL
  dsimp only [List.cons_append, List.nil_append]
  obtain ⟨r1, r2, rfl, hr⟩ := hRL.two
  have hr2 := hr.e
  have htx : r2.Txn = 2 := by
    have := congrArg Rc.txn hr2
    exact this.symm
  refine i_ow (t := 36) (sz := 13) (p, n, c) fun hR => ?_
  obtain rfl : n = 2 := hR.len rcl_len (by decide)
  obtain ⟨a, rfl⟩ := hR.ptr (by decide)
  repeat' ((fail_if_success with_reducible refine nph ?_); first | (with_reducible first | (refine d_seq ?_; intro K hK) | (refine hK _ _ ?_; clear hK K) | (refine SG.p ?_; try intro b)) | ((with_reducible refine SC.p ?_); refine And.intro ?_ ?_) <;> intro hc <;> try simp only [push_cast, Int.reduceEq, Int.reduceLT, Int.reduceLE, Int.reduceNe] at hc | with_reducible refine r_rq (by first | decide | omega) ?_ | ((with_reducible refine SL.p ?_); first | refine ⟨_, rfl, ?_⟩ | refine ⟨_, _, _, rfl, ?_⟩ | (refine ⟨?_, rfl, ?_⟩; focus (simp; done))) | ((with_reducible first | apply i_ldn | apply i_ldnq); exact rfl; exact rfl; exact rfl) | ((try with_reducible refine d_reg ?_); simp only [go_sem, Nat.reduceAdd, Nat.reduceEqDiff, Int.reduceToNat, Nat.reduceMul, Nat.reduceSub]) | clear hK K)
  all_goals try contradiction
  refine i_sj (i := 1) (j := 1) hR rcl_len (x := r2) rfl rfl ?_
  repeat' ((fail_if_success with_reducible refine nph ?_); first | (with_reducible first | (refine d_seq ?_; intro K hK) | (refine hK _ _ ?_; clear hK K) | (refine SG.p ?_; try intro b)) | ((with_reducible refine SC.p ?_); refine And.intro ?_ ?_) <;> intro hc <;> try simp only [push_cast, Int.reduceEq, Int.reduceLT, Int.reduceLE, Int.reduceNe] at hc | with_reducible refine r_rq (by first | decide | omega) ?_ | ((with_reducible refine SL.p ?_); first | refine ⟨_, rfl, ?_⟩ | refine ⟨_, _, _, rfl, ?_⟩ | (refine ⟨?_, rfl, ?_⟩; focus (simp; done))) | ((with_reducible first | apply i_ldn | apply i_ldnq); exact rfl; exact rfl; exact rfl) | ((try with_reducible refine d_reg ?_); simp only [go_sem, Nat.reduceAdd, Nat.reduceEqDiff, Int.reduceToNat, Nat.reduceMul, Nat.reduceSub]) | clear hK K)
  rw [htx]
  (with_reducible first | apply i_ret0 | apply i_ret2 | apply i_ret3 | apply i_ret); exact rfl
  rfl
end Go.Sp
/- What each region of the Go functions does. Written by my own generator. -/
namespace Go.Sp
open Go
set_option maxRecDepth 100000
set_option linter.unusedVariables false
open Go.Proofs
/-! gharry.gharryref07.Same -/
noncomputable def c27 : Cfg := { P := Tryz.prog, n := 134, T := TT, body := (Tryz.f27.body).getD .skip, res := Tryz.f27.results.toList, li := lk [] [(0, [0, 1]), (1, [2, 3]), (2, []), (3, [2, 3]), (4, []), (5, [2, 3]), (6, [2, 3, 5]), (7, [2, 3, 5]), (8, [2, 3, 5]), (9, []), (10, [2, 3]), (11, [2, 3, 6]), (12, [2, 3, 6]), (13, [2, 3, 6]), (14, []), (15, [])], lo := lk [] [(0, [2, 3]), (1, [2, 3, 81]), (2, [4]), (3, [2, 3, 97]), (4, [4]), (5, [2, 3, 5]), (6, [2, 3, 5, 102]), (7, [2, 3, 5]), (8, [2, 3, 5, 115]), (9, [4]), (10, [2, 3, 6]), (11, [2, 3, 6, 120]), (12, [2, 3, 6]), (13, [2, 3, 6, 133]), (14, [4]), (15, [4]), (1000000, [4])], ord := lk (false, []) [(8, (true, [(0, 1), (1, 0), (2, 1), (3, 1), (4, 0), (5, 1), (6, 0), (7, 1), (8, 1), (9, 0), (10, 0)])), (13, (true, [(0, 1), (1, 0), (2, 1), (3, 1), (4, 0), (5, 1), (6, 0), (7, 1), (8, 1), (9, 0), (10, 0)]))] }
@[go_sem] theorem c27_i0 : c27.li 0 = [0, 1] := rfl
@[go_sem] theorem c27_i1 : c27.li 1 = [2, 3] := rfl
@[go_sem] theorem c27_i2 : c27.li 2 = [] := rfl
@[go_sem] theorem c27_i3 : c27.li 3 = [2, 3] := rfl
@[go_sem] theorem c27_i4 : c27.li 4 = [] := rfl
@[go_sem] theorem c27_i5 : c27.li 5 = [2, 3] := rfl
@[go_sem] theorem c27_i6 : c27.li 6 = [2, 3, 5] := rfl
@[go_sem] theorem c27_i7 : c27.li 7 = [2, 3, 5] := rfl
@[go_sem] theorem c27_i8 : c27.li 8 = [2, 3, 5] := rfl
@[go_sem] theorem c27_i9 : c27.li 9 = [] := rfl
@[go_sem] theorem c27_i10 : c27.li 10 = [2, 3] := rfl
@[go_sem] theorem c27_i11 : c27.li 11 = [2, 3, 6] := rfl
@[go_sem] theorem c27_i12 : c27.li 12 = [2, 3, 6] := rfl
@[go_sem] theorem c27_i13 : c27.li 13 = [2, 3, 6] := rfl
@[go_sem] theorem c27_i14 : c27.li 14 = [] := rfl
@[go_sem] theorem c27_i15 : c27.li 15 = [] := rfl
@[go_sem] theorem c27_r0 (a0 : api_Rec) (b1 : api_Rec) (K : Env → W) : RP c27 0 [(0, v_api_Rec a0), (1, v_api_Rec b1)] K =
    (nwc #[.int .i64 a0.Kind, .int .i64 a0.Txn, .int .i64 a0.Prev, .int .i64 a0.Page, .int .i64 a0.Act, str a0.Key, str a0.Old, str a0.New, .int .i64 a0.Next, .slice a0.Images.1 a0.Images.2.1 a0.Images.2.2, .slice a0.Table.1 a0.Table.2.1 a0.Table.2.2, .int .i64 a0.Epoch, .int .i64 a0.Node] 36 fun y1_ => (nwc #[.int .i64 b1.Kind, .int .i64 b1.Txn, .int .i64 b1.Prev, .int .i64 b1.Page, .int .i64 b1.Act, str b1.Key, str b1.Old, str b1.New, .int .i64 b1.Next, .slice b1.Images.1 b1.Images.2.1 b1.Images.2.2, .slice b1.Table.1 b1.Table.2.1 b1.Table.2.2, .int .i64 b1.Epoch, .int .i64 b1.Node] 36 fun y2_ => (K [(2, .pointer (some y1_)), (3, .pointer (some y2_))]))) := by kernel_rfl
@[go_sem] theorem c27_r1 (a2 : Addr) (b3 : Addr) (K : Env → W) : RP c27 1 [(2, .pointer (some a2)), (3, .pointer (some b3))] K =
    (ld eI a2 fun (y1_ : Int) => (ld eI b3 fun (y2_ : Int) => (cnd ((y1_ != y2_)) (K [(2, .pointer (some a2)), (3, .pointer (some b3)), (81, .bool true)]) (ld eI ((a2.add 1)) fun (y3_ : Int) => (ld eI ((b3.add 1)) fun (y4_ : Int) => (cnd ((y3_ != y4_)) (K [(2, .pointer (some a2)), (3, .pointer (some b3)), (81, .bool true)]) (ld eI ((a2.add 2)) fun (y5_ : Int) => (ld eI ((b3.add 2)) fun (y6_ : Int) => (cnd ((y5_ != y6_)) (K [(2, .pointer (some a2)), (3, .pointer (some b3)), (81, .bool true)]) (ld eI ((a2.add 3)) fun (y7_ : Int) => (ld eI ((b3.add 3)) fun (y8_ : Int) => (cnd ((y7_ != y8_)) (K [(2, .pointer (some a2)), (3, .pointer (some b3)), (81, .bool true)]) (ld eI ((a2.add 4)) fun (y9_ : Int) => (ld eI ((b3.add 4)) fun (y10_ : Int) => (cnd ((y9_ != y10_)) (K [(2, .pointer (some a2)), (3, .pointer (some b3)), (81, .bool true)]) (ld eS ((a2.add 5)) fun (y11_ : List UInt8) => (ld eS ((b3.add 5)) fun (y12_ : List UInt8) => (cnd ((!(y11_ == y12_))) (K [(2, .pointer (some a2)), (3, .pointer (some b3)), (81, .bool true)]) (ld eS ((a2.add 6)) fun (y13_ : List UInt8) => (ld eS ((b3.add 6)) fun (y14_ : List UInt8) => (cnd ((!(y13_ == y14_))) (K [(2, .pointer (some a2)), (3, .pointer (some b3)), (81, .bool true)]) (ld eS ((a2.add 7)) fun (y15_ : List UInt8) => (ld eS ((b3.add 7)) fun (y16_ : List UInt8) => (cnd ((!(y15_ == y16_))) (K [(2, .pointer (some a2)), (3, .pointer (some b3)), (81, .bool true)]) (ld eI ((a2.add 8)) fun (y17_ : Int) => (ld eI ((b3.add 8)) fun (y18_ : Int) => (cnd ((y17_ != y18_)) (K [(2, .pointer (some a2)), (3, .pointer (some b3)), (81, .bool true)]) (ld eI ((a2.add 11)) fun (y19_ : Int) => (ld eI ((b3.add 11)) fun (y20_ : Int) => (cnd ((y19_ != y20_)) (K [(2, .pointer (some a2)), (3, .pointer (some b3)), (81, .bool true)]) (ld eI ((a2.add 12)) fun (y21_ : Int) => (ld eI ((b3.add 12)) fun (y22_ : Int) => (K [(2, .pointer (some a2)), (3, .pointer (some b3)), (81, .bool ((y21_ != y22_)))]))))))))))))))))))))))))))))))))) := by kernel_rfl
@[go_sem] theorem c27_r2 (K : Env → W) : RP c27 2 [] K =
    (K [(4, .bool false)]) := by kernel_rfl
@[go_sem] theorem c27_r3 (a2 : Addr) (b3 : Addr) (K : Env → W) : RP c27 3 [(2, .pointer (some a2)), (3, .pointer (some b3))] K =
    (ld eSl ((a2.add 9)) fun (y1_ : (Option Addr × Nat × Nat)) => (ld eSl ((b3.add 9)) fun (y2_ : (Option Addr × Nat × Nat)) => (cnd (((y1_.2.1 : Int) != (y2_.2.1 : Int))) (K [(2, .pointer (some a2)), (3, .pointer (some b3)), (97, .bool true)]) (ld eSl ((a2.add 10)) fun (y3_ : (Option Addr × Nat × Nat)) => (ld eSl ((b3.add 10)) fun (y4_ : (Option Addr × Nat × Nat)) => (K [(2, .pointer (some a2)), (3, .pointer (some b3)), (97, .bool (((y3_.2.1 : Int) != (y4_.2.1 : Int))))])))))) := by kernel_rfl
@[go_sem] theorem c27_r4 (K : Env → W) : RP c27 4 [] K =
    (K [(4, .bool false)]) := by kernel_rfl
@[go_sem] theorem c27_r5 (a2 : Addr) (b3 : Addr) (K : Env → W) : RP c27 5 [(2, .pointer (some a2)), (3, .pointer (some b3))] K =
    (K [(2, .pointer (some a2)), (3, .pointer (some b3)), (5, .int .i64 (0 : Int))]) := by kernel_rfl
@[go_sem] theorem c27_r6 (a2 : Addr) (b3 : Addr) (i5 : Int) (K : Env → W) : RP c27 6 [(2, .pointer (some a2)), (3, .pointer (some b3)), (5, .int .i64 i5)] K =
    (ld eSl ((a2.add 9)) fun (y1_ : (Option Addr × Nat × Nat)) => (K [(2, .pointer (some a2)), (3, .pointer (some b3)), (5, .int .i64 i5), (102, .bool ((decide (i5 < (y1_.2.1 : Int)))))])) := by kernel_rfl
@[go_sem] theorem c27_r7 (a2 : Addr) (b3 : Addr) (i5 : Int) (K : Env → W) : RP c27 7 [(2, .pointer (some a2)), (3, .pointer (some b3)), (5, .int .i64 i5)] K =
    (K [(2, .pointer (some a2)), (3, .pointer (some b3)), (5, .int .i64 ((IntKind.wrap .i64 (i5 + (1 : Int)))))]) := by kernel_rfl
@[go_sem] theorem c27_r8 (a2 : Addr) (b3 : Addr) (i5 : Int) (K : Env → W) : RP c27 8 [(2, .pointer (some a2)), (3, .pointer (some b3)), (5, .int .i64 i5)] K =
    (ph fun S0 => (ldq S0 eSl ((a2.add 9)) fun (y1_ : (Option Addr × Nat × Nat)) => (rq (0 ≤ i5 ∧ i5 < (y1_.2.1 : Int)) (nn y1_.1 fun y2_ => (ldnq S0 e_api_Image 2 ((Addr.add y2_ ((i5).toNat * 2))) fun (y3_ : api_Image) => (ldq S0 eSl ((b3.add 9)) fun (y4_ : (Option Addr × Nat × Nat)) => (rq (0 ≤ i5 ∧ i5 < (y4_.2.1 : Int)) (nn y4_.1 fun y5_ => (ldnq S0 e_api_Image 2 ((Addr.add y5_ ((i5).toNat * 2))) fun (y6_ : api_Image) => (valq S0 eB Tryz.prog (oEq .neq 123 (.tmp 109) (.tmp 114) (v_api_Image y3_) (v_api_Image y6_)) fun (y7_ : Bool) => (K [(2, .pointer (some a2)), (3, .pointer (some b3)), (5, .int .i64 i5), (115, .bool y7_)]))))))))))) := by kernel_rfl
@[go_sem] theorem c27_r9 (K : Env → W) : RP c27 9 [] K =
    (K [(4, .bool false)]) := by kernel_rfl
@[go_sem] theorem c27_r10 (a2 : Addr) (b3 : Addr) (K : Env → W) : RP c27 10 [(2, .pointer (some a2)), (3, .pointer (some b3))] K =
    (K [(2, .pointer (some a2)), (3, .pointer (some b3)), (6, .int .i64 (0 : Int))]) := by kernel_rfl
@[go_sem] theorem c27_r11 (a2 : Addr) (b3 : Addr) (i6 : Int) (K : Env → W) : RP c27 11 [(2, .pointer (some a2)), (3, .pointer (some b3)), (6, .int .i64 i6)] K =
    (ld eSl ((a2.add 10)) fun (y1_ : (Option Addr × Nat × Nat)) => (K [(2, .pointer (some a2)), (3, .pointer (some b3)), (6, .int .i64 i6), (120, .bool ((decide (i6 < (y1_.2.1 : Int)))))])) := by kernel_rfl
@[go_sem] theorem c27_r12 (a2 : Addr) (b3 : Addr) (i6 : Int) (K : Env → W) : RP c27 12 [(2, .pointer (some a2)), (3, .pointer (some b3)), (6, .int .i64 i6)] K =
    (K [(2, .pointer (some a2)), (3, .pointer (some b3)), (6, .int .i64 ((IntKind.wrap .i64 (i6 + (1 : Int)))))]) := by kernel_rfl
@[go_sem] theorem c27_r13 (a2 : Addr) (b3 : Addr) (i6 : Int) (K : Env → W) : RP c27 13 [(2, .pointer (some a2)), (3, .pointer (some b3)), (6, .int .i64 i6)] K =
    (ph fun S0 => (ldq S0 eSl ((a2.add 10)) fun (y1_ : (Option Addr × Nat × Nat)) => (rq (0 ≤ i6 ∧ i6 < (y1_.2.1 : Int)) (nn y1_.1 fun y2_ => (ldnq S0 e_api_Active 2 ((Addr.add y2_ ((i6).toNat * 2))) fun (y3_ : api_Active) => (ldq S0 eSl ((b3.add 10)) fun (y4_ : (Option Addr × Nat × Nat)) => (rq (0 ≤ i6 ∧ i6 < (y4_.2.1 : Int)) (nn y4_.1 fun y5_ => (ldnq S0 e_api_Active 2 ((Addr.add y5_ ((i6).toNat * 2))) fun (y6_ : api_Active) => (valq S0 eB Tryz.prog (oEq .neq 125 (.tmp 127) (.tmp 132) (v_api_Active y3_) (v_api_Active y6_)) fun (y7_ : Bool) => (K [(2, .pointer (some a2)), (3, .pointer (some b3)), (6, .int .i64 i6), (133, .bool y7_)]))))))))))) := by kernel_rfl
@[go_sem] theorem c27_r14 (K : Env → W) : RP c27 14 [] K =
    (K [(4, .bool false)]) := by kernel_rfl
@[go_sem] theorem c27_r15 (K : Env → W) : RP c27 15 [] K =
    (K [(4, .bool true)]) := by kernel_rfl
@[go_sem] theorem c27_o : c27.lo 1000000 = [4] := rfl
@[go_sem] theorem c27_e (t4 : Bool) (k : Value → W) : RTp c27 [(4, .bool t4)] k = (k (.bool t4)) := by kernel_rfl
theorem c27_ok : (c27.P.follows .mixedOrders && okc c27 c27.body) = true := by kernel_rfl
theorem c27_fn {e : Enc} {args : Array Value} {G : e.α → W} {L : List HP} {ρ : Env} (hρ : envA 0 args.toList = ρ) (hs : Nat.ble args.size 134 = true) (h : E L (D c27 (.seq (.reg 0) (.seq (.seq (.reg 1) (.cond (.tmp 81) (.seq (.reg 2) (.ret)) (.skip))) (.seq (.seq (.reg 3) (.cond (.tmp 97) (.seq (.reg 4) (.ret)) (.skip))) (.seq (.seq (.reg 5) (.block 0 (.loop (.seq (.seq (.reg 6) (.cond (.tmp 102) (.skip) (.exit 0))) (.seq (.block 1 (.seq (.reg 8) (.cond (.tmp 115) (.seq (.reg 9) (.ret)) (.skip)))) (.reg 7)))))) (.seq (.seq (.reg 10) (.block 2 (.loop (.seq (.seq (.reg 11) (.cond (.tmp 120) (.skip) (.exit 2))) (.seq (.block 3 (.seq (.reg 13) (.cond (.tmp 133) (.seq (.reg 14) (.ret)) (.skip)))) (.reg 12)))))) (.seq (.reg 15) (.ret))))))) (fnQ c27 e G) ρ)) : E L (cal e Tryz.prog 27 args G) :=
  d_fn (c := c27) Tryz.func27 (by kernel_rfl) (by kernel_rfl) (by kernel_rfl) c27_ok (by kernel_rfl) (by kernel_rfl) hρ hs h
-- loop (first region 11): live slots 2:a2 3:b3 6:i6, of which it writes [6]
-- loop (first region 6): live slots 2:a2 3:b3 5:i5, of which it writes [5]
end Go.Sp
/- The log's layer: two records are one. -/
namespace Go.Sp
open Go Go.Proofs
set_option linter.unusedSimpArgs false
set_option linter.unusedVariables false
set_option maxRecDepth 10000
theorem eqIm (x y : api_Image) (a b : Operand) (w : World) : (oEq .neq 123 a b (v_api_Image x) (v_api_Image y)).run Tryz.prog w = .ok (.bool (!(decide (x = y)))) w := by
  have h1 : Tryz.prog.eqGuardType Tryz.prog.depth 123 = false := by kernel_rfl
  have h2 : Tryz.prog.underlying 123 = some (.struct (Tryz.prog.fieldsOf 123)) := by kernel_rfl
  have h3 : Tryz.prog.stoodInHeld 123 = false := by kernel_rfl
  unfold oEq v_api_Image
  rw [Sem.run_bind, run_eqGuard_agg _ _ _ _ _ _ _ h1, Result.andThen_ok, run_neq_struct, run_equalIn_agg _ 9999 123 _ _ h2 h3]
  simp only [Program.fieldsOf, Tryz.underlying123]
  simp [Op.eqFields, go_sem, str]
  obtain ⟨x1, x2⟩ := x
  obtain ⟨y1, y2⟩ := y
  simp only [api_Image.mk.injEq]
  repeat' split
  all_goals simp [*]
theorem eqAc (x y : api_Active) (a b : Operand) (w : World) : (oEq .neq 125 a b (v_api_Active x) (v_api_Active y)).run Tryz.prog w = .ok (.bool (!(decide (x = y)))) w := by
  have h1 : Tryz.prog.eqGuardType Tryz.prog.depth 125 = false := by kernel_rfl
  have h2 : Tryz.prog.underlying 125 = some (.struct (Tryz.prog.fieldsOf 125)) := by kernel_rfl
  have h3 : Tryz.prog.stoodInHeld 125 = false := by kernel_rfl
  unfold oEq v_api_Active
  rw [Sem.run_bind, run_eqGuard_agg _ _ _ _ _ _ _ h1, Result.andThen_ok, run_neq_struct, run_equalIn_agg _ 9999 125 _ _ h2 h3]
  simp only [Program.fieldsOf, Tryz.underlying125]
  simp [Op.eqFields, go_sem, str]
  obtain ⟨x1, x2⟩ := x
  obtain ⟨y1, y2⟩ := y
  simp only [api_Active.mk.injEq]
  repeat' split
  all_goals simp [*]
set_option maxHeartbeats 2000000 in
theorem g27 (A B : HP) (r s : api_Rec) (c : Rc) (hr : RcAt A r c) (hs : RcAt B s c) : Fp eB Tryz.prog 27 #[v_api_Rec r, v_api_Rec s] [A, B] true := fun L => by
  obtain ⟨k1, k2, k3, k4, k5, k6, k7, k8, k9, ⟨ip, im, ic⟩, ⟨tp, tm, tc⟩, k12, k13⟩ := r
  obtain ⟨s1, s2, s3, s4, s5, s6, s7, s8, s9, ⟨jp, jm, jc⟩, ⟨up, um, uc⟩, s12, s13⟩ := s
  obtain ⟨e1, i1, t1, li, lt⟩ := hr
  obtain ⟨e2, i2, t2, _, _⟩ := hs
  have e := e1.symm.trans e2
  unfold Rc.of at e
  simp only [Rc.mk.injEq, true_and, and_true] at e
  obtain ⟨rfl, rfl, rfl, rfl, rfl, rfl, rfl, rfl, rfl, rfl, rfl⟩ := e
  clear e1 e2
  dsimp only at i1 t1 i2 t2
  generalize c.imgs = is at *
  generalize c.tbl = tb at *
  obtain rfl : im = is.length := i1.len2 cImg_len
  obtain rfl : jm = is.length := i2.len2 cImg_len
  obtain rfl : tm = tb.length := t1.len2 cAct_len
  obtain rfl : um = tb.length := t2.len2 cAct_len
  refine c27_fn rfl rfl ?_
  first | (with_reducible first | (refine d_seq ?_; intro K hK) | (refine hK _ _ ?_; clear hK K) | (refine SG.p ?_; try intro b)) | ((with_reducible refine SC.p ?_); refine And.intro ?_ ?_) <;> intro hc <;> try simp only [push_cast, Int.reduceEq, Int.reduceLT, Int.reduceLE, Int.reduceNe] at hc | with_reducible refine r_rq (by first | decide | omega) ?_ | ((with_reducible refine SL.p ?_); first | refine ⟨_, rfl, ?_⟩ | refine ⟨_, _, _, rfl, ?_⟩ | (refine ⟨?_, rfl, ?_⟩; focus (simp; done))) | ((with_reducible first | apply i_ldn | apply i_ldnq); exact rfl; exact rfl; exact rfl) | ((try with_reducible refine d_reg ?_); simp only [go_sem, Nat.reduceAdd, Nat.reduceEqDiff, Int.reduceToNat, Nat.reduceMul, Nat.reduceSub]) | clear hK K
  first | (with_reducible first | (refine d_seq ?_; intro K hK) | (refine hK _ _ ?_; clear hK K) | (refine SG.p ?_; try intro b)) | ((with_reducible refine SC.p ?_); refine And.intro ?_ ?_) <;> intro hc <;> try simp only [push_cast, Int.reduceEq, Int.reduceLT, Int.reduceLE, Int.reduceNe] at hc | with_reducible refine r_rq (by first | decide | omega) ?_ | ((with_reducible refine SL.p ?_); first | refine ⟨_, rfl, ?_⟩ | refine ⟨_, _, _, rfl, ?_⟩ | (refine ⟨?_, rfl, ?_⟩; focus (simp; done))) | ((with_reducible first | apply i_ldn | apply i_ldnq); exact rfl; exact rfl; exact rfl) | ((try with_reducible refine d_reg ?_); simp only [go_sem, Nat.reduceAdd, Nat.reduceEqDiff, Int.reduceToNat, Nat.reduceMul, Nat.reduceSub]) | clear hK K
  refine r_nwc ?_
  intro b1
  refine r_nwc ?_
  intro b2
  repeat' ((fail_if_success with_reducible refine nph ?_); first | (with_reducible first | (refine d_seq ?_; intro K hK) | (refine hK _ _ ?_; clear hK K) | (refine SG.p ?_; try intro b)) | ((with_reducible refine SC.p ?_); refine And.intro ?_ ?_) <;> intro hc <;> try simp only [push_cast, Int.reduceEq, Int.reduceLT, Int.reduceLE, Int.reduceNe] at hc | with_reducible refine r_rq (by first | decide | omega) ?_ | ((with_reducible refine SL.p ?_); first | refine ⟨_, rfl, ?_⟩ | refine ⟨_, _, _, rfl, ?_⟩ | (refine ⟨?_, rfl, ?_⟩; focus (simp; done))) | ((with_reducible first | apply i_ldn | apply i_ldnq); exact rfl; exact rfl; exact rfl) | ((try with_reducible refine d_reg ?_); simp only [go_sem, Nat.reduceAdd, Nat.reduceEqDiff, Int.reduceToNat, Nat.reduceMul, Nat.reduceSub]) | clear hK K)
  all_goals try contradiction
  all_goals try (exfalso; omega)
  obtain ⟨c1, hc1⟩ : ∃ l : List Value, l = [.int .i64 k1, .int .i64 k2, .int .i64 k3, .int .i64 k4, .int .i64 k5, str k6, str k7, str k8, .int .i64 k9, .slice ip is.length ic, .slice tp tb.length tc, .int .i64 k12, .int .i64 k13] := ⟨_, rfl⟩
  obtain ⟨c2, hc2⟩ : ∃ l : List Value, l = [.int .i64 k1, .int .i64 k2, .int .i64 k3, .int .i64 k4, .int .i64 k5, str k6, str k7, str k8, .int .i64 k9, .slice jp is.length jc, .slice up tb.length uc, .int .i64 k12, .int .i64 k13] := ⟨_, rfl⟩
  rw [← hc1, ← hc2]
  have a9 : c1[9]? = some (.slice ip is.length ic) := by rw [hc1]; rfl
  have b9 : c2[9]? = some (.slice jp is.length jc) := by rw [hc2]; rfl
  have a10 : c1[10]? = some (.slice tp tb.length tc) := by rw [hc1]; rfl
  have b10 : c2[10]? = some (.slice up tb.length uc) := by rw [hc2]; rfl
  clear hc1 hc2
  refine d_lp [2, 3, 5] (fun i : Nat => [(2, .pointer (some ⟨b1, 0, none⟩)), (3, .pointer (some ⟨b2, 0, none⟩)), (5, .int .i64 (i : Int))])
    (fun _ => ar b1 36 c1 :: ar b2 36 c2 :: A :: B :: L) (fun i => i ≤ is.length) (fun i => is.length - i) 0 rfl SX.p (Nat.zero_le _) ?_
  intro i hi
  repeat' ((fail_if_success with_reducible refine nph ?_); first | (with_reducible first | (refine d_seq ?_; intro K hK) | (refine hK _ _ ?_; clear hK K) | (refine SG.p ?_; try intro b)) | ((with_reducible refine SC.p ?_); refine And.intro ?_ ?_) <;> intro hc <;> try simp only [push_cast, Int.reduceEq, Int.reduceLT, Int.reduceLE, Int.reduceNe] at hc | with_reducible refine r_rq (by first | decide | omega) ?_ | ((with_reducible refine SL.p ?_); first | refine ⟨_, rfl, ?_⟩ | refine ⟨_, _, _, rfl, ?_⟩ | (refine ⟨?_, rfl, ?_⟩; focus (simp; done))) | ((with_reducible first | apply i_ldn | apply i_ldnq); exact rfl; exact rfl; exact rfl) | ((try with_reducible refine d_reg ?_); simp only [go_sem, Nat.reduceAdd, Nat.reduceEqDiff, Int.reduceToNat, Nat.reduceMul, Nat.reduceSub]) | clear hK K)
  refine i_lds a9 ?_
  repeat' ((fail_if_success with_reducible refine nph ?_); first | (with_reducible first | (refine d_seq ?_; intro K hK) | (refine hK _ _ ?_; clear hK K) | (refine SG.p ?_; try intro b)) | ((with_reducible refine SC.p ?_); refine And.intro ?_ ?_) <;> intro hc <;> try simp only [push_cast, Int.reduceEq, Int.reduceLT, Int.reduceLE, Int.reduceNe] at hc | with_reducible refine r_rq (by first | decide | omega) ?_ | ((with_reducible refine SL.p ?_); first | refine ⟨_, rfl, ?_⟩ | refine ⟨_, _, _, rfl, ?_⟩ | (refine ⟨?_, rfl, ?_⟩; focus (simp; done))) | ((with_reducible first | apply i_ldn | apply i_ldnq); exact rfl; exact rfl; exact rfl) | ((try with_reducible refine d_reg ?_); simp only [go_sem, Nat.reduceAdd, Nat.reduceEqDiff, Int.reduceToNat, Nat.reduceMul, Nat.reduceSub]) | clear hK K)
  · have hil : i < is.length := by omega
    have hx : is[i]? = some is[i] := List.getElem?_eq_getElem hil
    obtain ⟨a, rfl⟩ := i1.ptr (by omega)
    obtain ⟨a', rfl⟩ := i2.ptr (by omega)
    refine r_ph0 ?_
    refine i_ldsq a9 ?_
    repeat' ((fail_if_success with_reducible refine nph ?_); first | (with_reducible first | (refine d_seq ?_; intro K hK) | (refine hK _ _ ?_; clear hK K) | (refine SG.p ?_; try intro b)) | ((with_reducible refine SC.p ?_); refine And.intro ?_ ?_) <;> intro hc <;> try simp only [push_cast, Int.reduceEq, Int.reduceLT, Int.reduceLE, Int.reduceNe] at hc | with_reducible refine r_rq (by first | decide | omega) ?_ | ((with_reducible refine SL.p ?_); first | refine ⟨_, rfl, ?_⟩ | refine ⟨_, _, _, rfl, ?_⟩ | (refine ⟨?_, rfl, ?_⟩; focus (simp; done))) | ((with_reducible first | apply i_ldn | apply i_ldnq); exact rfl; exact rfl; exact rfl) | ((try with_reducible refine d_reg ?_); simp only [go_sem, Nat.reduceAdd, Nat.reduceEqDiff, Int.reduceToNat, Nat.reduceMul, Nat.reduceSub]) | clear hK K)
    refine i_snq (y := is[i]) i1 cImg_len hx rfl ?_
    refine i_ldsq b9 ?_
    repeat' ((fail_if_success with_reducible refine nph ?_); first | (with_reducible first | (refine d_seq ?_; intro K hK) | (refine hK _ _ ?_; clear hK K) | (refine SG.p ?_; try intro b)) | ((with_reducible refine SC.p ?_); refine And.intro ?_ ?_) <;> intro hc <;> try simp only [push_cast, Int.reduceEq, Int.reduceLT, Int.reduceLE, Int.reduceNe] at hc | with_reducible refine r_rq (by first | decide | omega) ?_ | ((with_reducible refine SL.p ?_); first | refine ⟨_, rfl, ?_⟩ | refine ⟨_, _, _, rfl, ?_⟩ | (refine ⟨?_, rfl, ?_⟩; focus (simp; done))) | ((with_reducible first | apply i_ldn | apply i_ldnq); exact rfl; exact rfl; exact rfl) | ((try with_reducible refine d_reg ?_); simp only [go_sem, Nat.reduceAdd, Nat.reduceEqDiff, Int.reduceToNat, Nat.reduceMul, Nat.reduceSub]) | clear hK K)
    refine i_snq (y := is[i]) i2 cImg_len hx rfl ?_
    refine r_valq (eqIm is[i] is[i] _ _) ?_
    simp only [decide_true, Bool.not_true]
    repeat' ((fail_if_success with_reducible refine nph ?_); first | (with_reducible first | (refine d_seq ?_; intro K hK) | (refine hK _ _ ?_; clear hK K) | (refine SG.p ?_; try intro b)) | ((with_reducible refine SC.p ?_); refine And.intro ?_ ?_) <;> intro hc <;> try simp only [push_cast, Int.reduceEq, Int.reduceLT, Int.reduceLE, Int.reduceNe] at hc | with_reducible refine r_rq (by first | decide | omega) ?_ | ((with_reducible refine SL.p ?_); first | refine ⟨_, rfl, ?_⟩ | refine ⟨_, _, _, rfl, ?_⟩ | (refine ⟨?_, rfl, ?_⟩; focus (simp; done))) | ((with_reducible first | apply i_ldn | apply i_ldnq); exact rfl; exact rfl; exact rfl) | ((try with_reducible refine d_reg ?_); simp only [go_sem, Nat.reduceAdd, Nat.reduceEqDiff, Int.reduceToNat, Nat.reduceMul, Nat.reduceSub]) | clear hK K)
    all_goals try contradiction
    rw [w64 (by omega) (by omega)]
    exact i_bk (i + 1) rfl (by omega) (by omega)
  · refine d_lp [2, 3, 6] (fun i : Nat => [(2, .pointer (some ⟨b1, 0, none⟩)), (3, .pointer (some ⟨b2, 0, none⟩)), (6, .int .i64 (i : Int))])
      (fun _ => ar b1 36 c1 :: ar b2 36 c2 :: A :: B :: L) (fun i => i ≤ tb.length) (fun i => tb.length - i) 0 rfl SX.p (Nat.zero_le _) ?_
    intro j hj
    repeat' ((fail_if_success with_reducible refine nph ?_); first | (with_reducible first | (refine d_seq ?_; intro K hK) | (refine hK _ _ ?_; clear hK K) | (refine SG.p ?_; try intro b)) | ((with_reducible refine SC.p ?_); refine And.intro ?_ ?_) <;> intro hc <;> try simp only [push_cast, Int.reduceEq, Int.reduceLT, Int.reduceLE, Int.reduceNe] at hc | with_reducible refine r_rq (by first | decide | omega) ?_ | ((with_reducible refine SL.p ?_); first | refine ⟨_, rfl, ?_⟩ | refine ⟨_, _, _, rfl, ?_⟩ | (refine ⟨?_, rfl, ?_⟩; focus (simp; done))) | ((with_reducible first | apply i_ldn | apply i_ldnq); exact rfl; exact rfl; exact rfl) | ((try with_reducible refine d_reg ?_); simp only [go_sem, Nat.reduceAdd, Nat.reduceEqDiff, Int.reduceToNat, Nat.reduceMul, Nat.reduceSub]) | clear hK K)
    refine i_lds a10 ?_
    repeat' ((fail_if_success with_reducible refine nph ?_); first | (with_reducible first | (refine d_seq ?_; intro K hK) | (refine hK _ _ ?_; clear hK K) | (refine SG.p ?_; try intro b)) | ((with_reducible refine SC.p ?_); refine And.intro ?_ ?_) <;> intro hc <;> try simp only [push_cast, Int.reduceEq, Int.reduceLT, Int.reduceLE, Int.reduceNe] at hc | with_reducible refine r_rq (by first | decide | omega) ?_ | ((with_reducible refine SL.p ?_); first | refine ⟨_, rfl, ?_⟩ | refine ⟨_, _, _, rfl, ?_⟩ | (refine ⟨?_, rfl, ?_⟩; focus (simp; done))) | ((with_reducible first | apply i_ldn | apply i_ldnq); exact rfl; exact rfl; exact rfl) | ((try with_reducible refine d_reg ?_); simp only [go_sem, Nat.reduceAdd, Nat.reduceEqDiff, Int.reduceToNat, Nat.reduceMul, Nat.reduceSub]) | clear hK K)
    · have hil : j < tb.length := by omega
      have hx : tb[j]? = some tb[j] := List.getElem?_eq_getElem hil
      obtain ⟨a, rfl⟩ := t1.ptr (by omega)
      obtain ⟨a', rfl⟩ := t2.ptr (by omega)
      refine r_ph0 ?_
      refine i_ldsq a10 ?_
      repeat' ((fail_if_success with_reducible refine nph ?_); first | (with_reducible first | (refine d_seq ?_; intro K hK) | (refine hK _ _ ?_; clear hK K) | (refine SG.p ?_; try intro b)) | ((with_reducible refine SC.p ?_); refine And.intro ?_ ?_) <;> intro hc <;> try simp only [push_cast, Int.reduceEq, Int.reduceLT, Int.reduceLE, Int.reduceNe] at hc | with_reducible refine r_rq (by first | decide | omega) ?_ | ((with_reducible refine SL.p ?_); first | refine ⟨_, rfl, ?_⟩ | refine ⟨_, _, _, rfl, ?_⟩ | (refine ⟨?_, rfl, ?_⟩; focus (simp; done))) | ((with_reducible first | apply i_ldn | apply i_ldnq); exact rfl; exact rfl; exact rfl) | ((try with_reducible refine d_reg ?_); simp only [go_sem, Nat.reduceAdd, Nat.reduceEqDiff, Int.reduceToNat, Nat.reduceMul, Nat.reduceSub]) | clear hK K)
      refine i_snq (y := tb[j]) t1 cAct_len hx rfl ?_
      refine i_ldsq b10 ?_
      repeat' ((fail_if_success with_reducible refine nph ?_); first | (with_reducible first | (refine d_seq ?_; intro K hK) | (refine hK _ _ ?_; clear hK K) | (refine SG.p ?_; try intro b)) | ((with_reducible refine SC.p ?_); refine And.intro ?_ ?_) <;> intro hc <;> try simp only [push_cast, Int.reduceEq, Int.reduceLT, Int.reduceLE, Int.reduceNe] at hc | with_reducible refine r_rq (by first | decide | omega) ?_ | ((with_reducible refine SL.p ?_); first | refine ⟨_, rfl, ?_⟩ | refine ⟨_, _, _, rfl, ?_⟩ | (refine ⟨?_, rfl, ?_⟩; focus (simp; done))) | ((with_reducible first | apply i_ldn | apply i_ldnq); exact rfl; exact rfl; exact rfl) | ((try with_reducible refine d_reg ?_); simp only [go_sem, Nat.reduceAdd, Nat.reduceEqDiff, Int.reduceToNat, Nat.reduceMul, Nat.reduceSub]) | clear hK K)
      refine i_snq (y := tb[j]) t2 cAct_len hx rfl ?_
      refine r_valq (eqAc tb[j] tb[j] _ _) ?_
      simp only [decide_true, Bool.not_true]
      repeat' ((fail_if_success with_reducible refine nph ?_); first | (with_reducible first | (refine d_seq ?_; intro K hK) | (refine hK _ _ ?_; clear hK K) | (refine SG.p ?_; try intro b)) | ((with_reducible refine SC.p ?_); refine And.intro ?_ ?_) <;> intro hc <;> try simp only [push_cast, Int.reduceEq, Int.reduceLT, Int.reduceLE, Int.reduceNe] at hc | with_reducible refine r_rq (by first | decide | omega) ?_ | ((with_reducible refine SL.p ?_); first | refine ⟨_, rfl, ?_⟩ | refine ⟨_, _, _, rfl, ?_⟩ | (refine ⟨?_, rfl, ?_⟩; focus (simp; done))) | ((with_reducible first | apply i_ldn | apply i_ldnq); exact rfl; exact rfl; exact rfl) | ((try with_reducible refine d_reg ?_); simp only [go_sem, Nat.reduceAdd, Nat.reduceEqDiff, Int.reduceToNat, Nat.reduceMul, Nat.reduceSub]) | clear hK K)
      all_goals try contradiction
      rw [w64 (by omega) (by omega)]
      exact i_bk (j + 1) rfl (by omega) (by omega)
    · (with_reducible first | apply i_ret0 | apply i_ret2 | apply i_ret3 | apply i_ret); exact rfl
      rfl
end Go.Sp
/- The log on a disk that nothing lets go: what its sectors have behind Open, and behind Flush. -/
namespace Go.Sp
open Go Go.Proofs
set_option linter.unusedSimpArgs false
set_option linter.unusedVariables false
set_option maxRecDepth 10000
theorem get_len {Z : Dk} (h : Z.ok) (j : Nat) : (Z.get (j : Int)).length = 64 := by
  unfold Dk.get
  cases hg : gk Z.es (j : Int) with
  | none =>
    rw [Option.getD_none]
    refine wh_len ?_
    rw [List.getD_eq_getElem?_getD]
    rcases Nat.lt_or_ge (j : Int).toNat Z.sure.length with x | x
    · rw [List.getElem?_eq_getElem x]
      exact h.l64 _ (List.getElem_mem x)
    · rw [List.getElem?_eq_none x]
      simp
  | some v =>
    obtain ⟨x, hx, _, e⟩ := gk_mem hg
    have := h.e64 x hx
    rw [e] at this
    exact this
theorem secb_len (r : Nat) (p : List UInt8) : (secb r p).length = 6 + p.length := by
  unfold secb
  simp only [List.length_append, lowb_len]
end Go.Sp
/- The log's law: what is owned, in part; frames one behind the other. -/
namespace Go.Sp
open Go Go.Proofs
set_option linter.unusedSimpArgs false
set_option linter.unusedVariables false
set_option maxRecDepth 10000
section
variable {L L' R : List HP} {G : W} {t : TypeId} {sz : Nat} {xs : List Value}
end
abbrev PS := List (List UInt8 × Rc)
def flat (ps : PS) : List UInt8 := (ps.map (·.1)).flatten
abbrev l1 (q d : Nat) (r : Nat) (ps : PS) : Lg := ⟨q, 1, 30, r, flat ps, d, false⟩
theorem flat_app (a b : PS) : flat (a ++ b) = flat a ++ flat b := by simp [flat]
theorem Prs.snoc {ps : PS} (h : Prs ps) {f : List UInt8} {c : Rc} (hs : c.short) (hc : c.frame = (f, 0)) : Prs (ps ++ [(f, c)]) := fun x hx => by
  rcases List.mem_append.1 hx with h1 | h1
  · exact h x h1
  · obtain rfl : x = (f, c) := by simpa using h1
    exact ⟨hs, hc⟩
theorem Prs.take {ps : PS} (h : Prs ps) (k : Nat) : Prs (ps.take k) := fun x hx => h x (List.mem_of_mem_take hx)
theorem flat_take (ps : PS) (k : Nat) : (flat ps).take (flat (ps.take k)).length = flat (ps.take k) := by
  have e : flat ps = flat (ps.take k) ++ flat (ps.drop k) := by rw [← flat_app, List.take_append_drop]
  rw [e, List.take_left' rfl]
theorem flat_le (ps : PS) (k : Nat) : (flat (ps.take k)).length ≤ (flat ps).length := by
  have := congrArg List.length (flat_take ps k)
  rw [List.length_take] at this
  omega
theorem flat_next (ps : PS) {i : Nat} {x : List UInt8 × Rc} (hx : ps[i]? = some x) : (flat (ps.take (i + 1))).length = (flat (ps.take i)).length + x.1.length := by
  rw [List.take_add_one, hx]
  show (flat (ps.take i ++ [x])).length = _
  rw [flat_app, List.length_append]
  simp [flat]
theorem flat_recs {ps : PS} (h : Prs ps) : recs (flat ps) = rl ps 0 := recs_prs h
theorem rl_map : ∀ (ps : PS) (a : Nat), (rl ps a).map (·.2) = ps.map fun x => x.2.clean
  | [], _ => rfl
  | x :: ps, a => by
    show x.2.clean :: (rl ps _).map (·.2) = _
    rw [rl_map ps]
    rfl
theorem RcAt.sh {A : HP} {r : api_Rec} {c : Rc} (h : RcAt A r c) : c.short := ⟨h.li, h.lt⟩
end Go.Sp
/- The log's law, in plain words: where frames begin, what is read there and from there on. -/
namespace Go.Sp
open Go Go.Proofs
set_option linter.unusedSimpArgs false
set_option linter.unusedVariables false
set_option maxRecDepth 10000
theorem flat_cons (x : List UInt8 × Rc) (ps : PS) : flat (x :: ps) = x.1 ++ flat ps := by simp [flat]
abbrev siz (ps : PS) (i : Nat) : Nat := (flat (ps.take i)).length
theorem siz_all (ps : PS) : (flat ps).length = siz ps ps.length := by
  unfold siz
  rw [List.take_length]
theorem drop_siz (ps : PS) (j : Nat) : (flat ps).drop (siz ps j) = flat (ps.drop j) := by
  have e : flat ps = flat (ps.take j) ++ flat (ps.drop j) := by rw [← flat_app, List.take_append_drop]
  rw [e]
  exact List.drop_left' rfl
end Go.Sp
/- The log's law, in plain words: what any bytes in its sectors are. -/
namespace Go.Sp
open Go Go.Proofs
set_option linter.unusedSimpArgs false
set_option linter.unusedVariables false
set_option maxRecDepth 10000
/-- A text is frames, one behind the other, and what is none. -/
theorem split_whole : ∀ (k : Nat) (s : List UInt8), s.length ≤ k → ∃ (ps : PS) (Y : List UInt8), Prs ps ∧ s = flat ps ++ Y ∧ (opn0 Y).2.2 ≠ 0
  | k, s, hk => by
    by_cases h0 : (opn0 s).2.2 = 0
    · obtain ⟨c, n, e⟩ : ∃ c n, opn0 s = (c, n, 0) := ⟨(opn0 s).1, (opn0 s).2.1, Prod.ext rfl (Prod.ext rfl h0)⟩
      obtain ⟨hs, _, f, Y, ht, hf, _⟩ := opn0_ok e
      have h7 := frame_len hs hf
      have hl := congrArg List.length ht
      rw [List.length_append] at hl
      match k, hk with
      | k + 1, hk =>
        obtain ⟨ps, Z, h1, h2, h3⟩ := split_whole k Y (by omega)
        refine ⟨(f, c) :: ps, Z, fun x hx => ?_, ?_, h3⟩
        · rcases List.mem_cons.1 hx with rfl | hx
          · exact ⟨hs, hf⟩
          · exact h1 x hx
        · rw [ht, h2, flat_cons, List.append_assoc]
      | 0, hk => omega
    · exact ⟨[], s, fun x hx => (by cases hx), rfl, h0⟩
theorem whole_split {ps : PS} {Y : List UInt8} (h : Prs ps) (hY : (opn0 Y).2.2 ≠ 0) : whole (flat ps ++ Y) = (flat ps).length := by
  have hl := frs_len h.frs
  have e := whl_frs (ps.map (·.1)) (flat ps ++ Y) Y ((flat ps ++ Y).length + 1) 0 h.frs (Nat.zero_le _) (by rw [List.drop_zero]; rfl) hY (by
    have : (ps.map (·.1)).flatten.length = (flat ps).length := rfl
    rw [List.length_append]
    omega)
  rw [Nat.zero_add] at e
  exact e
theorem rl_at : ∀ (ps : PS) (a i : Nat) (x : List UInt8 × Rc), ps[i]? = some x → (rl ps a)[i]? = some (a + siz ps i + 1, x.2.clean)
  | y :: ps, a, 0, x, h => by
    obtain rfl : y = x := by simpa using h
    rfl
  | y :: ps, a, i + 1, x, h => by
    have := rl_at ps (a + y.1.length) i x (by simpa using h)
    show (rl ps (a + y.1.length))[i]? = _
    rw [this]
    have e : siz (y :: ps) (i + 1) = y.1.length + siz ps i := by
      unfold siz
      rw [List.take_succ_cons, flat_cons, List.length_append]
    rw [e, Nat.add_assoc a]
theorem rl_len : ∀ (ps : PS) (a : Nat), (rl ps a).length = ps.length
  | [], _ => rfl
  | x :: ps, a => by
    show (rl ps _).length + 1 = _
    rw [rl_len ps]
    rfl
/-- What is read of a text at a frame's place, whatever lies behind the frames. -/
theorem opn_at {ps : PS} (h : Prs ps) (Y : List UInt8) {i : Nat} {x : List UInt8 × Rc} (hx : ps[i]? = some x) : opn (flat ps ++ Y) ((siz ps i : Nat) : Int) = (x.2.clean, (x.1.length : Int), 0) := by
  have hi : i < ps.length := by
    rcases Nat.lt_or_ge i ps.length with y | y
    · exact y
    · rw [List.getElem?_eq_none y] at hx; cases hx
  obtain ⟨h1, h2⟩ := h x (List.mem_of_getElem? hx)
  have hl : siz ps i ≤ (flat ps).length := flat_le ps i
  have e : (flat ps ++ Y).drop (siz ps i) = x.1 ++ (flat (ps.drop (i + 1)) ++ Y) := by
    rw [List.drop_append_of_le_length hl, drop_siz, ← List.append_assoc, ← flat_cons]
    congr 2
    rw [List.drop_eq_getElem_cons hi]
    congr 1
    rw [List.getElem?_eq_getElem hi] at hx
    exact Option.some.inj hx
  rw [opn_nat (by rw [List.length_append]; omega), e, opn0_frame h1 h2]
theorem opn_end {ps : PS} {Y : List UInt8} (hY : (opn0 Y).2.2 ≠ 0) : (opn (flat ps ++ Y) (((flat ps).length : Nat) : Int)).2.2 ≠ 0 := by
  rw [opn_nat (by rw [List.length_append]; omega), List.drop_left' rfl]
  exact hY
/-- The document's reading of sectors. -/
def rst (run : Nat) (s : List UInt8 × Nat × Bool) (x : Nat × List UInt8) : List UInt8 × Nat × Bool := if s.2.2 = true ∧ s.2.1 ≤ x.1 ∧ x.1 ≤ run then (s.1 ++ x.2, x.1, decide (x.2.length = 58)) else (s.1, s.2.1, false)
def sct (run : Nat) : List (Nat × List UInt8) → Nat → List UInt8
  | [], _ => []
  | x :: l, r => if x.1 < r ∨ run < x.1 then [] else x.2 ++ (if x.2.length < 58 then [] else sct run l x.1)
theorem rst_off (run : Nat) : ∀ (l : List (Nat × List UInt8)) (s : List UInt8) (r : Nat), (l.foldl (rst run) (s, r, false)).1 = s
  | [], _, _ => rfl
  | x :: l, s, r => by
    show (l.foldl (rst run) (rst run (s, r, false) x)).1 = s
    have e : rst run (s, r, false) x = (s, r, false) := by unfold rst; rw [if_neg (by simp)]
    rw [e]
    exact rst_off run l s r
theorem rst_is (run : Nat) : ∀ (l : List (Nat × List UInt8)) (s : List UInt8) (r : Nat), (∀ x ∈ l, x.2.length ≤ 58) → (l.foldl (rst run) (s, r, true)).1 = s ++ sct run l r
  | [], _, _, _ => by simp [sct]
  | x :: l, s, r, h => by
    have hx := h x (by simp)
    show (l.foldl (rst run) (rst run (s, r, true) x)).1 = _
    have e : rst run (s, r, true) x = if x.1 < r ∨ run < x.1 then (s, r, false) else (s ++ x.2, x.1, decide (x.2.length = 58)) := by
      unfold rst
      by_cases hc : x.1 < r ∨ run < x.1
      · rw [if_pos hc, if_neg (fun y => by have := y.2; dsimp only at this; omega)]
      · rw [if_neg hc, if_pos ⟨rfl, by dsimp only; omega, by omega⟩]
    rw [e]
    unfold sct
    by_cases hc : x.1 < r ∨ run < x.1
    · rw [if_pos hc, if_pos hc, rst_off]
      simp
    · rw [if_neg hc, if_neg hc]
      by_cases h58 : x.2.length < 58
      · rw [if_pos h58, decide_eq_false (by omega), rst_off]
        simp
      · rw [if_neg h58, decide_eq_true (by omega), rst_is run l _ _ (fun y hy => h y (by simp [hy])), List.append_assoc]
/-- What is scanned of sectors that are laid so. -/
theorem scn_sct {Z : Dk} {run : Nat} {zp : List (Nat × List UInt8)} (hz : ∀ x ∈ zp, x.1 < 4294967296 ∧ x.2.length ≤ 58) (hg : ∀ j (x : Nat × List UInt8), zp[j]? = some x → Z.get ((j : Nat) : Int) = wh (secb x.1 x.2)) (h0 : ∀ j, zp.length ≤ j → j < 8 → at4 (Z.get ((j : Nat) : Int)) = 0) :
    ∀ (k i r : Nat), i + k = 8 → 1 ≤ r → zp.length ≤ 8 → Z.scn 0 run k i r = sct run (zp.drop i) r
  | 0, i, r, hi, _, hl => by
    rw [List.drop_eq_nil_of_le (by omega)]
    rfl
  | k + 1, i, r, hi, hr, hl => by
    unfold Dk.scn
    rw [Nat.zero_add]
    rcases Nat.lt_or_ge i zp.length with h | h
    · have hx : zp[i]? = some zp[i] := List.getElem?_eq_getElem h
      obtain ⟨z1, z2⟩ := hz zp[i] (List.getElem_mem h)
      have e := hg i _ hx
      rw [List.drop_eq_getElem_cons h]
      generalize zp[i] = x at *
      obtain ⟨a1, a2, a3⟩ := secb_rd z1 z2
      unfold at4 at a1
      unfold n2 at a2
      rw [e, a1, a2, a3]
      unfold sct
      by_cases hc : x.1 < r ∨ run < x.1
      · rw [if_pos hc, if_pos (by omega)]
      · rw [if_neg hc, if_neg (by omega)]
        by_cases h58 : x.2.length < 58
        · rw [if_pos h58, if_pos h58]
        · rw [if_neg h58, if_neg h58, scn_sct hz hg h0 k (i + 1) x.1 (by omega) (by omega) hl]
    · have e := h0 i h (by omega)
      unfold at4 at e
      rw [e, if_pos (by omega), List.drop_eq_nil_of_le h]
      rfl
end Go.Sp
/- What each region of the Go functions does. Written by my own generator. -/
namespace Go.Sp
open Go
set_option maxRecDepth 100000
set_option linter.unusedVariables false
open Go.Proofs
/-! gharry.gharrylaw08.WalRaw -/
noncomputable def c4 : Cfg := { P := Tryz.prog, n := 200, T := TT, body := (Tryz.f4.body).getD .skip, res := Tryz.f4.results.toList, li := lk [] [(0, [0, 1, 2]), (1, [0, 1, 2]), (2, []), (3, [0, 1, 2]), (4, [0, 1, 2, 7, 8]), (5, []), (6, [0, 1, 2, 7]), (7, [0, 1, 2, 7, 9]), (8, [0, 1, 2, 7, 9, 10]), (9, [0, 1, 2, 7, 9, 10, 11]), (10, [0, 1, 2, 7, 9, 10, 11, 12]), (11, [0, 1, 2, 7, 9, 10, 11, 12]), (12, [0, 1, 2, 7, 9, 10, 11, 12]), (13, [0, 1, 2, 7, 9, 10, 11, 12, 13]), (14, []), (15, [0, 1, 2, 7, 9, 10, 11, 12, 13]), (16, []), (17, [0, 1, 2, 7, 9, 10, 11, 12, 13]), (18, [0, 1, 2, 7, 9, 10, 11, 12, 13]), (19, [0, 1, 2, 7, 9, 12, 13]), (20, [0, 1, 2, 7, 9, 12, 13]), (21, [0, 1, 2, 7, 9, 10, 12]), (22, [2, 7, 9]), (23, [9, 14, 15]), (24, []), (25, [9, 14]), (26, [9, 14, 16, 17]), (27, [9, 14, 16, 17, 18]), (28, [9, 14, 16, 17, 18, 19]), (29, [9, 14, 16, 17, 18, 19]), (30, [9, 14, 16, 17, 18, 19]), (31, [9, 14, 16, 17, 18, 19, 20, 21, 22]), (32, []), (33, [9, 14, 16, 17, 18, 19, 21]), (34, [9, 14, 18]), (35, [14, 18, 25])], lo := lk [] [(0, [0, 1, 2]), (1, [0, 1, 2, 31]), (2, [6]), (3, [0, 1, 2, 7, 8]), (4, [0, 1, 2, 7, 42]), (5, [6]), (6, [0, 1, 2, 7, 9]), (7, [0, 1, 2, 7, 9, 10]), (8, [0, 1, 2, 7, 9, 10, 11]), (9, [0, 1, 2, 7, 9, 10, 11, 12]), (10, [0, 1, 2, 7, 9, 10, 11, 12, 56]), (11, [0, 1, 2, 7, 9, 10, 11, 12]), (12, [0, 1, 2, 7, 9, 10, 11, 12, 13]), (13, [0, 1, 2, 7, 9, 10, 11, 12, 13, 76]), (14, [6]), (15, [0, 1, 2, 7, 9, 10, 11, 12, 13, 95]), (16, [6]), (17, [0, 1, 2, 7, 9, 10, 11, 12, 13]), (18, [0, 1, 2, 7, 9, 10, 11, 12, 13, 107]), (19, [0, 1, 2, 7, 9, 12, 13]), (20, [0, 1, 2, 7, 9, 10, 12]), (21, [0, 1, 2, 7, 9, 10, 11, 12]), (22, [9, 14, 15]), (23, [9, 14, 132]), (24, [6]), (25, [9, 14, 16, 17]), (26, [9, 14, 16, 17, 18]), (27, [9, 14, 16, 17, 18, 19]), (28, [9, 14, 16, 17, 18, 19, 141]), (29, [9, 14, 16, 17, 18, 19]), (30, [9, 14, 16, 17, 18, 19, 20, 21, 22]), (31, [9, 14, 16, 17, 18, 19, 21, 170]), (32, [6]), (33, [9, 14, 16, 17, 18, 19]), (34, [14, 18, 25]), (35, [6]), (1000000, [6])], ord := lk (false, []) [(15, (true, [(0, 1), (1, 1), (2, 1), (4, 1), (5, 1), (6, 1), (7, 0), (8, 1), (11, 1), (12, 1), (13, 1), (14, 0), (3, 2), (9, 2), (10, 1), (15, 1), (16, 4), (17, 1)])), (31, (true, [(0, 1), (1, 1), (2, 1), (3, 0), (4, 1), (5, 1), (6, 1), (7, 0), (8, 3), (9, 1), (10, 1), (11, 1), (12, 1), (13, 1), (14, 1), (15, 0), (16, 1), (17, 1), (18, 1), (19, 1)]))] }
@[go_sem] theorem c4_i0 : c4.li 0 = [0, 1, 2] := rfl
@[go_sem] theorem c4_i1 : c4.li 1 = [0, 1, 2] := rfl
@[go_sem] theorem c4_i2 : c4.li 2 = [] := rfl
@[go_sem] theorem c4_i3 : c4.li 3 = [0, 1, 2] := rfl
@[go_sem] theorem c4_i4 : c4.li 4 = [0, 1, 2, 7, 8] := rfl
@[go_sem] theorem c4_i5 : c4.li 5 = [] := rfl
@[go_sem] theorem c4_i6 : c4.li 6 = [0, 1, 2, 7] := rfl
@[go_sem] theorem c4_i7 : c4.li 7 = [0, 1, 2, 7, 9] := rfl
@[go_sem] theorem c4_i8 : c4.li 8 = [0, 1, 2, 7, 9, 10] := rfl
@[go_sem] theorem c4_i9 : c4.li 9 = [0, 1, 2, 7, 9, 10, 11] := rfl
@[go_sem] theorem c4_i10 : c4.li 10 = [0, 1, 2, 7, 9, 10, 11, 12] := rfl
@[go_sem] theorem c4_i11 : c4.li 11 = [0, 1, 2, 7, 9, 10, 11, 12] := rfl
@[go_sem] theorem c4_i12 : c4.li 12 = [0, 1, 2, 7, 9, 10, 11, 12] := rfl
@[go_sem] theorem c4_i13 : c4.li 13 = [0, 1, 2, 7, 9, 10, 11, 12, 13] := rfl
@[go_sem] theorem c4_i14 : c4.li 14 = [] := rfl
@[go_sem] theorem c4_i15 : c4.li 15 = [0, 1, 2, 7, 9, 10, 11, 12, 13] := rfl
@[go_sem] theorem c4_i16 : c4.li 16 = [] := rfl
@[go_sem] theorem c4_i17 : c4.li 17 = [0, 1, 2, 7, 9, 10, 11, 12, 13] := rfl
@[go_sem] theorem c4_i18 : c4.li 18 = [0, 1, 2, 7, 9, 10, 11, 12, 13] := rfl
@[go_sem] theorem c4_i19 : c4.li 19 = [0, 1, 2, 7, 9, 12, 13] := rfl
@[go_sem] theorem c4_i20 : c4.li 20 = [0, 1, 2, 7, 9, 12, 13] := rfl
@[go_sem] theorem c4_i21 : c4.li 21 = [0, 1, 2, 7, 9, 10, 12] := rfl
@[go_sem] theorem c4_i22 : c4.li 22 = [2, 7, 9] := rfl
@[go_sem] theorem c4_i23 : c4.li 23 = [9, 14, 15] := rfl
@[go_sem] theorem c4_i24 : c4.li 24 = [] := rfl
@[go_sem] theorem c4_i25 : c4.li 25 = [9, 14] := rfl
@[go_sem] theorem c4_i26 : c4.li 26 = [9, 14, 16, 17] := rfl
@[go_sem] theorem c4_i27 : c4.li 27 = [9, 14, 16, 17, 18] := rfl
@[go_sem] theorem c4_i28 : c4.li 28 = [9, 14, 16, 17, 18, 19] := rfl
@[go_sem] theorem c4_i29 : c4.li 29 = [9, 14, 16, 17, 18, 19] := rfl
@[go_sem] theorem c4_i30 : c4.li 30 = [9, 14, 16, 17, 18, 19] := rfl
@[go_sem] theorem c4_i31 : c4.li 31 = [9, 14, 16, 17, 18, 19, 20, 21, 22] := rfl
@[go_sem] theorem c4_i32 : c4.li 32 = [] := rfl
@[go_sem] theorem c4_i33 : c4.li 33 = [9, 14, 16, 17, 18, 19, 21] := rfl
@[go_sem] theorem c4_i34 : c4.li 34 = [9, 14, 18] := rfl
@[go_sem] theorem c4_i35 : c4.li 35 = [14, 18, 25] := rfl
@[go_sem] theorem c4_r0 (parts0p : Option Addr) (parts0n parts0c : Nat) (runs1p : Option Addr) (runs1n runs1c : Nat) (run2 : Int) (K : Env → W) : RP c4 0 [(0, .slice parts0p parts0n parts0c), (1, .slice runs1p runs1n runs1c), (2, .int .i64 run2)] K =
    (K [(0, .slice parts0p parts0n parts0c), (1, .slice runs1p runs1n runs1c), (2, .int .i64 run2)]) := by kernel_rfl
@[go_sem] theorem c4_r1 (parts0p : Option Addr) (parts0n parts0c : Nat) (runs1p : Option Addr) (runs1n runs1c : Nat) (run2 : Int) (K : Env → W) : RP c4 1 [(0, .slice parts0p parts0n parts0c), (1, .slice runs1p runs1n runs1c), (2, .int .i64 run2)] K =
    (cnd ((decide (run2 < (1 : Int)))) (K [(0, .slice parts0p parts0n parts0c), (1, .slice runs1p runs1n runs1c), (2, .int .i64 run2), (31, .bool true)]) (K [(0, .slice parts0p parts0n parts0c), (1, .slice runs1p runs1n runs1c), (2, .int .i64 run2), (31, .bool ((decide ((4294967295 : Int) < run2))))])) := by kernel_rfl
@[go_sem] theorem c4_r2 (K : Env → W) : RP c4 2 [] K =
    (cal eB Tryz.prog 15 #[] fun (y1_ : Bool) => (K [(6, .bool y1_)])) := by kernel_rfl
@[go_sem] theorem c4_r3 (parts0p : Option Addr) (parts0n parts0c : Nat) (runs1p : Option Addr) (runs1n runs1c : Nat) (run2 : Int) (K : Env → W) : RP c4 3 [(0, .slice parts0p parts0n parts0c), (1, .slice runs1p runs1n runs1c), (2, .int .i64 run2)] K =
    (cal (eT2 eP eI) Tryz.prog 16 #[.int .i64 (8 : Int)] fun (y1_ : ((Option Addr) × Int)) => (K [(0, .slice parts0p parts0n parts0c), (1, .slice runs1p runs1n runs1c), (2, .int .i64 run2), (7, .pointer y1_.1), (8, .int .i64 y1_.2)])) := by kernel_rfl
@[go_sem] theorem c4_r4 (parts0p : Option Addr) (parts0n parts0c : Nat) (runs1p : Option Addr) (runs1n runs1c : Nat) (run2 : Int) (d7 : Option Addr) (e8 : Int) (K : Env → W) : RP c4 4 [(0, .slice parts0p parts0n parts0c), (1, .slice runs1p runs1n runs1c), (2, .int .i64 run2), (7, .pointer d7), (8, .int .i64 e8)] K =
    (cnd ((e8 != (0 : Int))) (K [(0, .slice parts0p parts0n parts0c), (1, .slice runs1p runs1n runs1c), (2, .int .i64 run2), (7, .pointer d7), (42, .bool true)]) (K [(0, .slice parts0p parts0n parts0c), (1, .slice runs1p runs1n runs1c), (2, .int .i64 run2), (7, .pointer d7), (42, .bool ((d7).isNone))])) := by kernel_rfl
@[go_sem] theorem c4_r5 (K : Env → W) : RP c4 5 [] K =
    (K [(6, .bool false)]) := by kernel_rfl
@[go_sem] theorem c4_r6 (parts0p : Option Addr) (parts0n parts0c : Nat) (runs1p : Option Addr) (runs1n runs1c : Nat) (run2 : Int) (d7 : Option Addr) (K : Env → W) : RP c4 6 [(0, .slice parts0p parts0n parts0c), (1, .slice runs1p runs1n runs1c), (2, .int .i64 run2), (7, .pointer d7)] K =
    (K [(0, .slice parts0p parts0n parts0c), (1, .slice runs1p runs1n runs1c), (2, .int .i64 run2), (7, .pointer d7), (9, str (([] : List UInt8)))]) := by kernel_rfl
@[go_sem] theorem c4_r7 (parts0p : Option Addr) (parts0n parts0c : Nat) (runs1p : Option Addr) (runs1n runs1c : Nat) (run2 : Int) (d7 : Option Addr) (all9 : List UInt8) (K : Env → W) : RP c4 7 [(0, .slice parts0p parts0n parts0c), (1, .slice runs1p runs1n runs1c), (2, .int .i64 run2), (7, .pointer d7), (9, str all9)] K =
    (K [(0, .slice parts0p parts0n parts0c), (1, .slice runs1p runs1n runs1c), (2, .int .i64 run2), (7, .pointer d7), (9, str all9), (10, .int .i64 (1 : Int))]) := by kernel_rfl
@[go_sem] theorem c4_r8 (parts0p : Option Addr) (parts0n parts0c : Nat) (runs1p : Option Addr) (runs1n runs1c : Nat) (run2 : Int) (d7 : Option Addr) (all9 : List UInt8) (last10 : Int) (K : Env → W) : RP c4 8 [(0, .slice parts0p parts0n parts0c), (1, .slice runs1p runs1n runs1c), (2, .int .i64 run2), (7, .pointer d7), (9, str all9), (10, .int .i64 last10)] K =
    (K [(0, .slice parts0p parts0n parts0c), (1, .slice runs1p runs1n runs1c), (2, .int .i64 run2), (7, .pointer d7), (9, str all9), (10, .int .i64 last10), (11, .bool true)]) := by kernel_rfl
@[go_sem] theorem c4_r9 (parts0p : Option Addr) (parts0n parts0c : Nat) (runs1p : Option Addr) (runs1n runs1c : Nat) (run2 : Int) (d7 : Option Addr) (all9 : List UInt8) (last10 : Int) (on11 : Bool) (K : Env → W) : RP c4 9 [(0, .slice parts0p parts0n parts0c), (1, .slice runs1p runs1n runs1c), (2, .int .i64 run2), (7, .pointer d7), (9, str all9), (10, .int .i64 last10), (11, .bool on11)] K =
    (K [(0, .slice parts0p parts0n parts0c), (1, .slice runs1p runs1n runs1c), (2, .int .i64 run2), (7, .pointer d7), (9, str all9), (10, .int .i64 last10), (11, .bool on11), (12, .int .i64 (0 : Int))]) := by kernel_rfl
@[go_sem] theorem c4_r10 (parts0p : Option Addr) (parts0n parts0c : Nat) (runs1p : Option Addr) (runs1n runs1c : Nat) (run2 : Int) (d7 : Option Addr) (all9 : List UInt8) (last10 : Int) (on11 : Bool) (i12 : Int) (K : Env → W) : RP c4 10 [(0, .slice parts0p parts0n parts0c), (1, .slice runs1p runs1n runs1c), (2, .int .i64 run2), (7, .pointer d7), (9, str all9), (10, .int .i64 last10), (11, .bool on11), (12, .int .i64 i12)] K =
    (cnd ((decide (i12 < (parts0n : Int)))) (cnd ((decide (i12 < (runs1n : Int)))) (K [(0, .slice parts0p parts0n parts0c), (1, .slice runs1p runs1n runs1c), (2, .int .i64 run2), (7, .pointer d7), (9, str all9), (10, .int .i64 last10), (11, .bool on11), (12, .int .i64 i12), (56, .bool ((decide (i12 < (8 : Int)))))]) (K [(0, .slice parts0p parts0n parts0c), (1, .slice runs1p runs1n runs1c), (2, .int .i64 run2), (7, .pointer d7), (9, str all9), (10, .int .i64 last10), (11, .bool on11), (12, .int .i64 i12), (56, .bool false)])) (K [(0, .slice parts0p parts0n parts0c), (1, .slice runs1p runs1n runs1c), (2, .int .i64 run2), (7, .pointer d7), (9, str all9), (10, .int .i64 last10), (11, .bool on11), (12, .int .i64 i12), (56, .bool false)])) := by kernel_rfl
@[go_sem] theorem c4_r11 (parts0p : Option Addr) (parts0n parts0c : Nat) (runs1p : Option Addr) (runs1n runs1c : Nat) (run2 : Int) (d7 : Option Addr) (all9 : List UInt8) (last10 : Int) (on11 : Bool) (i12 : Int) (K : Env → W) : RP c4 11 [(0, .slice parts0p parts0n parts0c), (1, .slice runs1p runs1n runs1c), (2, .int .i64 run2), (7, .pointer d7), (9, str all9), (10, .int .i64 last10), (11, .bool on11), (12, .int .i64 i12)] K =
    (K [(0, .slice parts0p parts0n parts0c), (1, .slice runs1p runs1n runs1c), (2, .int .i64 run2), (7, .pointer d7), (9, str all9), (10, .int .i64 last10), (11, .bool on11), (12, .int .i64 ((IntKind.wrap .i64 (i12 + (1 : Int)))))]) := by kernel_rfl
@[go_sem] theorem c4_r12 (parts0p : Option Addr) (parts0n parts0c : Nat) (runs1p : Option Addr) (runs1n runs1c : Nat) (run2 : Int) (d7 : Option Addr) (all9 : List UInt8) (last10 : Int) (on11 : Bool) (i12 : Int) (K : Env → W) : RP c4 12 [(0, .slice parts0p parts0n parts0c), (1, .slice runs1p runs1n runs1c), (2, .int .i64 run2), (7, .pointer d7), (9, str all9), (10, .int .i64 last10), (11, .bool on11), (12, .int .i64 i12)] K =
    (rq (0 ≤ i12 ∧ i12 < (runs1n : Int)) (nn runs1p fun y1_ => (ld eI ((Addr.add y1_ ((i12).toNat * 1))) fun (y2_ : Int) => (K [(0, .slice parts0p parts0n parts0c), (1, .slice runs1p runs1n runs1c), (2, .int .i64 run2), (7, .pointer d7), (9, str all9), (10, .int .i64 last10), (11, .bool on11), (12, .int .i64 i12), (13, .int .i64 y2_)])))) := by kernel_rfl
@[go_sem] theorem c4_r13 (parts0p : Option Addr) (parts0n parts0c : Nat) (runs1p : Option Addr) (runs1n runs1c : Nat) (run2 : Int) (d7 : Option Addr) (all9 : List UInt8) (last10 : Int) (on11 : Bool) (i12 : Int) (r13 : Int) (K : Env → W) : RP c4 13 [(0, .slice parts0p parts0n parts0c), (1, .slice runs1p runs1n runs1c), (2, .int .i64 run2), (7, .pointer d7), (9, str all9), (10, .int .i64 last10), (11, .bool on11), (12, .int .i64 i12), (13, .int .i64 r13)] K =
    (cnd ((decide (r13 < (0 : Int)))) (K [(0, .slice parts0p parts0n parts0c), (1, .slice runs1p runs1n runs1c), (2, .int .i64 run2), (7, .pointer d7), (9, str all9), (10, .int .i64 last10), (11, .bool on11), (12, .int .i64 i12), (13, .int .i64 r13), (76, .bool true)]) (cnd ((decide ((4294967295 : Int) < r13))) (K [(0, .slice parts0p parts0n parts0c), (1, .slice runs1p runs1n runs1c), (2, .int .i64 run2), (7, .pointer d7), (9, str all9), (10, .int .i64 last10), (11, .bool on11), (12, .int .i64 i12), (13, .int .i64 r13), (76, .bool true)]) (rq (0 ≤ i12 ∧ i12 < (parts0n : Int)) (nn parts0p fun y1_ => (ld eS ((Addr.add y1_ ((i12).toNat * 1))) fun (y2_ : List UInt8) => (K [(0, .slice parts0p parts0n parts0c), (1, .slice runs1p runs1n runs1c), (2, .int .i64 run2), (7, .pointer d7), (9, str all9), (10, .int .i64 last10), (11, .bool on11), (12, .int .i64 i12), (13, .int .i64 r13), (76, .bool ((decide ((58 : Int) < ((y2_).length : Int)))))])))))) := by kernel_rfl
@[go_sem] theorem c4_r14 (K : Env → W) : RP c4 14 [] K =
    (cal eB Tryz.prog 15 #[] fun (y1_ : Bool) => (K [(6, .bool y1_)])) := by kernel_rfl
@[go_sem] theorem c4_r15 (parts0p : Option Addr) (parts0n parts0c : Nat) (runs1p : Option Addr) (runs1n runs1c : Nat) (run2 : Int) (d7 : Option Addr) (all9 : List UInt8) (last10 : Int) (on11 : Bool) (i12 : Int) (r13 : Int) (K : Env → W) : RP c4 15 [(0, .slice parts0p parts0n parts0c), (1, .slice runs1p runs1n runs1c), (2, .int .i64 run2), (7, .pointer d7), (9, str all9), (10, .int .i64 last10), (11, .bool on11), (12, .int .i64 i12), (13, .int .i64 r13)] K =
    (ph fun S0 => (rq (0 ≤ i12 ∧ i12 < (parts0n : Int)) (nn parts0p fun y1_ => (ldq S0 eS ((Addr.add y1_ ((i12).toNat * 1))) fun (y2_ : List UInt8) => (rq (0 ≤ i12 ∧ i12 < (parts0n : Int)) (nn parts0p fun y3_ => (ldq S0 eS ((Addr.add y3_ ((i12).toNat * 1))) fun (y4_ : List UInt8) => (cal eS Tryz.prog 23 #[.int .i64 r13, .int .i64 (4 : Int)] fun (y5_ : List UInt8) => (kpn S0 fun S1 => (cal eS Tryz.prog 23 #[.int .i64 (((y2_).length : Int)), .int .i64 (2 : Int)] fun (y6_ : List UInt8) => (kpn S1 fun S2 => (rq (((y5_).length : Int) + ((y6_).length : Int) ≤ 9223372036854775807) (rq ((((y5_ ++ y6_)).length : Int) + ((y4_).length : Int) ≤ 9223372036854775807) (cal eI Tryz.prog 24 #[.pointer d7, .int .i64 i12, str (((y5_ ++ y6_) ++ y4_))] fun (y7_ : Int) => (K [(0, .slice parts0p parts0n parts0c), (1, .slice runs1p runs1n runs1c), (2, .int .i64 run2), (7, .pointer d7), (9, str all9), (10, .int .i64 last10), (11, .bool on11), (12, .int .i64 i12), (13, .int .i64 r13), (95, .bool ((y7_ != (0 : Int))))]))))))))))))))) := by kernel_rfl
@[go_sem] theorem c4_r16 (K : Env → W) : RP c4 16 [] K =
    (K [(6, .bool false)]) := by kernel_rfl
@[go_sem] theorem c4_r17 (parts0p : Option Addr) (parts0n parts0c : Nat) (runs1p : Option Addr) (runs1n runs1c : Nat) (run2 : Int) (d7 : Option Addr) (all9 : List UInt8) (last10 : Int) (on11 : Bool) (i12 : Int) (r13 : Int) (K : Env → W) : RP c4 17 [(0, .slice parts0p parts0n parts0c), (1, .slice runs1p runs1n runs1c), (2, .int .i64 run2), (7, .pointer d7), (9, str all9), (10, .int .i64 last10), (11, .bool on11), (12, .int .i64 i12), (13, .int .i64 r13)] K =
    (cnd on11 (cnd ((decide (last10 ≤ r13))) (K [(0, .slice parts0p parts0n parts0c), (1, .slice runs1p runs1n runs1c), (2, .int .i64 run2), (7, .pointer d7), (9, str all9), (10, .int .i64 last10), (11, .bool ((decide (r13 ≤ run2)))), (12, .int .i64 i12), (13, .int .i64 r13)]) (K [(0, .slice parts0p parts0n parts0c), (1, .slice runs1p runs1n runs1c), (2, .int .i64 run2), (7, .pointer d7), (9, str all9), (10, .int .i64 last10), (11, .bool false), (12, .int .i64 i12), (13, .int .i64 r13)])) (K [(0, .slice parts0p parts0n parts0c), (1, .slice runs1p runs1n runs1c), (2, .int .i64 run2), (7, .pointer d7), (9, str all9), (10, .int .i64 last10), (11, .bool false), (12, .int .i64 i12), (13, .int .i64 r13)])) := by kernel_rfl
@[go_sem] theorem c4_r18 (parts0p : Option Addr) (parts0n parts0c : Nat) (runs1p : Option Addr) (runs1n runs1c : Nat) (run2 : Int) (d7 : Option Addr) (all9 : List UInt8) (last10 : Int) (on11 : Bool) (i12 : Int) (r13 : Int) (K : Env → W) : RP c4 18 [(0, .slice parts0p parts0n parts0c), (1, .slice runs1p runs1n runs1c), (2, .int .i64 run2), (7, .pointer d7), (9, str all9), (10, .int .i64 last10), (11, .bool on11), (12, .int .i64 i12), (13, .int .i64 r13)] K =
    (K [(0, .slice parts0p parts0n parts0c), (1, .slice runs1p runs1n runs1c), (2, .int .i64 run2), (7, .pointer d7), (9, str all9), (10, .int .i64 last10), (11, .bool on11), (12, .int .i64 i12), (13, .int .i64 r13), (107, .bool on11)]) := by kernel_rfl
@[go_sem] theorem c4_r19 (parts0p : Option Addr) (parts0n parts0c : Nat) (runs1p : Option Addr) (runs1n runs1c : Nat) (run2 : Int) (d7 : Option Addr) (all9 : List UInt8) (i12 : Int) (r13 : Int) (K : Env → W) : RP c4 19 [(0, .slice parts0p parts0n parts0c), (1, .slice runs1p runs1n runs1c), (2, .int .i64 run2), (7, .pointer d7), (9, str all9), (12, .int .i64 i12), (13, .int .i64 r13)] K =
    (rq (0 ≤ i12 ∧ i12 < (parts0n : Int)) (nn parts0p fun y1_ => (ld eS ((Addr.add y1_ ((i12).toNat * 1))) fun (y2_ : List UInt8) => (rq (((all9).length : Int) + ((y2_).length : Int) ≤ 9223372036854775807) (K [(0, .slice parts0p parts0n parts0c), (1, .slice runs1p runs1n runs1c), (2, .int .i64 run2), (7, .pointer d7), (9, str ((all9 ++ y2_))), (12, .int .i64 i12), (13, .int .i64 r13)]))))) := by kernel_rfl
@[go_sem] theorem c4_r20 (parts0p : Option Addr) (parts0n parts0c : Nat) (runs1p : Option Addr) (runs1n runs1c : Nat) (run2 : Int) (d7 : Option Addr) (all9 : List UInt8) (i12 : Int) (r13 : Int) (K : Env → W) : RP c4 20 [(0, .slice parts0p parts0n parts0c), (1, .slice runs1p runs1n runs1c), (2, .int .i64 run2), (7, .pointer d7), (9, str all9), (12, .int .i64 i12), (13, .int .i64 r13)] K =
    (K [(0, .slice parts0p parts0n parts0c), (1, .slice runs1p runs1n runs1c), (2, .int .i64 run2), (7, .pointer d7), (9, str all9), (10, .int .i64 r13), (12, .int .i64 i12)]) := by kernel_rfl
@[go_sem] theorem c4_r21 (parts0p : Option Addr) (parts0n parts0c : Nat) (runs1p : Option Addr) (runs1n runs1c : Nat) (run2 : Int) (d7 : Option Addr) (all9 : List UInt8) (last10 : Int) (i12 : Int) (K : Env → W) : RP c4 21 [(0, .slice parts0p parts0n parts0c), (1, .slice runs1p runs1n runs1c), (2, .int .i64 run2), (7, .pointer d7), (9, str all9), (10, .int .i64 last10), (12, .int .i64 i12)] K =
    (rq (0 ≤ i12 ∧ i12 < (parts0n : Int)) (nn parts0p fun y1_ => (ld eS ((Addr.add y1_ ((i12).toNat * 1))) fun (y2_ : List UInt8) => (K [(0, .slice parts0p parts0n parts0c), (1, .slice runs1p runs1n runs1c), (2, .int .i64 run2), (7, .pointer d7), (9, str all9), (10, .int .i64 last10), (11, .bool ((((y2_).length : Int) == (58 : Int)))), (12, .int .i64 i12)])))) := by kernel_rfl
@[go_sem] theorem c4_r22 (run2 : Int) (d7 : Option Addr) (all9 : List UInt8) (K : Env → W) : RP c4 22 [(2, .int .i64 run2), (7, .pointer d7), (9, str all9)] K =
    (cal (eT2 eP eI) Tryz.prog 17 #[.pointer d7, .int .i64 (0 : Int), .int .i64 (8 : Int), .int .i64 run2] fun (y1_ : ((Option Addr) × Int)) => (K [(9, str all9), (14, .pointer y1_.1), (15, .int .i64 y1_.2)])) := by kernel_rfl
@[go_sem] theorem c4_r23 (all9 : List UInt8) (l14 : Option Addr) (f15 : Int) (K : Env → W) : RP c4 23 [(9, str all9), (14, .pointer l14), (15, .int .i64 f15)] K =
    (cnd ((f15 != (0 : Int))) (K [(9, str all9), (14, .pointer l14), (132, .bool true)]) (K [(9, str all9), (14, .pointer l14), (132, .bool ((l14).isNone))])) := by kernel_rfl
@[go_sem] theorem c4_r24 (K : Env → W) : RP c4 24 [] K =
    (K [(6, .bool false)]) := by kernel_rfl
@[go_sem] theorem c4_r25 (all9 : List UInt8) (l14 : Option Addr) (K : Env → W) : RP c4 25 [(9, str all9), (14, .pointer l14)] K =
    (cal (eT2 eSl eSl) Tryz.prog 25 #[.pointer l14] fun (y1_ : ((Option Addr × Nat × Nat) × (Option Addr × Nat × Nat))) => (K [(9, str all9), (14, .pointer l14), (16, .slice y1_.1.1 y1_.1.2.1 y1_.1.2.2), (17, .slice y1_.2.1 y1_.2.2.1 y1_.2.2.2)])) := by kernel_rfl
@[go_sem] theorem c4_r26 (all9 : List UInt8) (l14 : Option Addr) (r16p : Option Addr) (r16n r16c : Nat) (at17p : Option Addr) (at17n at17c : Nat) (K : Env → W) : RP c4 26 [(9, str all9), (14, .pointer l14), (16, .slice r16p r16n r16c), (17, .slice at17p at17n at17c)] K =
    (K [(9, str all9), (14, .pointer l14), (16, .slice r16p r16n r16c), (17, .slice at17p at17n at17c), (18, .int .i64 (0 : Int))]) := by kernel_rfl
@[go_sem] theorem c4_r27 (all9 : List UInt8) (l14 : Option Addr) (r16p : Option Addr) (r16n r16c : Nat) (at17p : Option Addr) (at17n at17c : Nat) (place18 : Int) (K : Env → W) : RP c4 27 [(9, str all9), (14, .pointer l14), (16, .slice r16p r16n r16c), (17, .slice at17p at17n at17c), (18, .int .i64 place18)] K =
    (K [(9, str all9), (14, .pointer l14), (16, .slice r16p r16n r16c), (17, .slice at17p at17n at17c), (18, .int .i64 place18), (19, .int .i64 (0 : Int))]) := by kernel_rfl
@[go_sem] theorem c4_r28 (all9 : List UInt8) (l14 : Option Addr) (r16p : Option Addr) (r16n r16c : Nat) (at17p : Option Addr) (at17n at17c : Nat) (place18 : Int) (i19 : Int) (K : Env → W) : RP c4 28 [(9, str all9), (14, .pointer l14), (16, .slice r16p r16n r16c), (17, .slice at17p at17n at17c), (18, .int .i64 place18), (19, .int .i64 i19)] K =
    (K [(9, str all9), (14, .pointer l14), (16, .slice r16p r16n r16c), (17, .slice at17p at17n at17c), (18, .int .i64 place18), (19, .int .i64 i19), (141, .bool ((decide (i19 < (r16n : Int)))))]) := by kernel_rfl
@[go_sem] theorem c4_r29 (all9 : List UInt8) (l14 : Option Addr) (r16p : Option Addr) (r16n r16c : Nat) (at17p : Option Addr) (at17n at17c : Nat) (place18 : Int) (i19 : Int) (K : Env → W) : RP c4 29 [(9, str all9), (14, .pointer l14), (16, .slice r16p r16n r16c), (17, .slice at17p at17n at17c), (18, .int .i64 place18), (19, .int .i64 i19)] K =
    (K [(9, str all9), (14, .pointer l14), (16, .slice r16p r16n r16c), (17, .slice at17p at17n at17c), (18, .int .i64 place18), (19, .int .i64 ((IntKind.wrap .i64 (i19 + (1 : Int)))))]) := by kernel_rfl
@[go_sem] theorem c4_r30 (all9 : List UInt8) (l14 : Option Addr) (r16p : Option Addr) (r16n r16c : Nat) (at17p : Option Addr) (at17n at17c : Nat) (place18 : Int) (i19 : Int) (K : Env → W) : RP c4 30 [(9, str all9), (14, .pointer l14), (16, .slice r16p r16n r16c), (17, .slice at17p at17n at17c), (18, .int .i64 place18), (19, .int .i64 i19)] K =
    (cal (eT3 e_api_Rec eI eI) Tryz.prog 26 #[str all9, .int .i64 place18] fun (y1_ : (api_Rec × Int × Int)) => (nwc #[.int .i64 (0 : Int), .int .i64 (0 : Int), .int .i64 (0 : Int), .int .i64 (0 : Int), .int .i64 (0 : Int), str (([] : List UInt8)), str (([] : List UInt8)), str (([] : List UInt8)), .int .i64 (0 : Int), .slice none 0 0, .slice none 0 0, .int .i64 (0 : Int), .int .i64 (0 : Int)] 36 fun y2_ => (stl [.int .i64 y1_.1.Kind, .int .i64 y1_.1.Txn, .int .i64 y1_.1.Prev, .int .i64 y1_.1.Page, .int .i64 y1_.1.Act, str y1_.1.Key, str y1_.1.Old, str y1_.1.New, .int .i64 y1_.1.Next, .slice y1_.1.Images.1 y1_.1.Images.2.1 y1_.1.Images.2.2, .slice y1_.1.Table.1 y1_.1.Table.2.1 y1_.1.Table.2.2, .int .i64 y1_.1.Epoch, .int .i64 y1_.1.Node] y2_ 0 (K [(9, str all9), (14, .pointer l14), (16, .slice r16p r16n r16c), (17, .slice at17p at17n at17c), (18, .int .i64 place18), (19, .int .i64 i19), (20, .pointer (some y2_)), (21, .int .i64 y1_.2.1), (22, .int .i64 y1_.2.2)])))) := by kernel_rfl
@[go_sem] theorem c4_r31 (all9 : List UInt8) (l14 : Option Addr) (r16p : Option Addr) (r16n r16c : Nat) (at17p : Option Addr) (at17n at17c : Nat) (place18 : Int) (i19 : Int) (q20 : Addr) (n21 : Int) (g22 : Int) (K : Env → W) : RP c4 31 [(9, str all9), (14, .pointer l14), (16, .slice r16p r16n r16c), (17, .slice at17p at17n at17c), (18, .int .i64 place18), (19, .int .i64 i19), (20, .pointer (some q20)), (21, .int .i64 n21), (22, .int .i64 g22)] K =
    (ph fun S0 => (cnd ((g22 != (0 : Int))) (ph fun S1 => (K [(9, str all9), (14, .pointer l14), (16, .slice r16p r16n r16c), (17, .slice at17p at17n at17c), (18, .int .i64 place18), (19, .int .i64 i19), (21, .int .i64 n21), (170, .bool true)])) (ldnq S0 e_api_Rec 13 q20 fun (y1_ : api_Rec) => (rq (0 ≤ i19 ∧ i19 < (r16n : Int)) (nn r16p fun y2_ => (ldnq S0 e_api_Rec 13 ((Addr.add y2_ ((i19).toNat * 13))) fun (y3_ : api_Rec) => (cal eB Tryz.prog 27 #[v_api_Rec y1_, v_api_Rec y3_] fun (y4_ : Bool) => (ph fun S2 => (cnd ((!y4_)) (K [(9, str all9), (14, .pointer l14), (16, .slice r16p r16n r16c), (17, .slice at17p at17n at17c), (18, .int .i64 place18), (19, .int .i64 i19), (21, .int .i64 n21), (170, .bool true)]) (rq (0 ≤ i19 ∧ i19 < (at17n : Int)) (nn at17p fun y5_ => (ldq S2 eI ((Addr.add y5_ ((i19).toNat * 1))) fun (y6_ : Int) => (K [(9, str all9), (14, .pointer l14), (16, .slice r16p r16n r16c), (17, .slice at17p at17n at17c), (18, .int .i64 place18), (19, .int .i64 i19), (21, .int .i64 n21), (170, .bool ((y6_ != (IntKind.wrap .i64 ((1 : Int) + place18)))))]))))))))))))) := by kernel_rfl
@[go_sem] theorem c4_r32 (K : Env → W) : RP c4 32 [] K =
    (K [(6, .bool false)]) := by kernel_rfl
@[go_sem] theorem c4_r33 (all9 : List UInt8) (l14 : Option Addr) (r16p : Option Addr) (r16n r16c : Nat) (at17p : Option Addr) (at17n at17c : Nat) (place18 : Int) (i19 : Int) (n21 : Int) (K : Env → W) : RP c4 33 [(9, str all9), (14, .pointer l14), (16, .slice r16p r16n r16c), (17, .slice at17p at17n at17c), (18, .int .i64 place18), (19, .int .i64 i19), (21, .int .i64 n21)] K =
    (K [(9, str all9), (14, .pointer l14), (16, .slice r16p r16n r16c), (17, .slice at17p at17n at17c), (18, .int .i64 ((IntKind.wrap .i64 (place18 + n21)))), (19, .int .i64 i19)]) := by kernel_rfl
@[go_sem] theorem c4_r34 (all9 : List UInt8) (l14 : Option Addr) (place18 : Int) (K : Env → W) : RP c4 34 [(9, str all9), (14, .pointer l14), (18, .int .i64 place18)] K =
    (cal (eT3 e_api_Rec eI eI) Tryz.prog 26 #[str all9, .int .i64 place18] fun (y1_ : (api_Rec × Int × Int)) => (nwc #[.int .i64 (0 : Int), .int .i64 (0 : Int), .int .i64 (0 : Int), .int .i64 (0 : Int), .int .i64 (0 : Int), str (([] : List UInt8)), str (([] : List UInt8)), str (([] : List UInt8)), .int .i64 (0 : Int), .slice none 0 0, .slice none 0 0, .int .i64 (0 : Int), .int .i64 (0 : Int)] 36 fun y2_ => (stl [.int .i64 y1_.1.Kind, .int .i64 y1_.1.Txn, .int .i64 y1_.1.Prev, .int .i64 y1_.1.Page, .int .i64 y1_.1.Act, str y1_.1.Key, str y1_.1.Old, str y1_.1.New, .int .i64 y1_.1.Next, .slice y1_.1.Images.1 y1_.1.Images.2.1 y1_.1.Images.2.2, .slice y1_.1.Table.1 y1_.1.Table.2.1 y1_.1.Table.2.2, .int .i64 y1_.1.Epoch, .int .i64 y1_.1.Node] y2_ 0 (K [(14, .pointer l14), (18, .int .i64 place18), (25, .int .i64 y1_.2.2)])))) := by kernel_rfl
@[go_sem] theorem c4_r35 (l14 : Option Addr) (place18 : Int) (g25 : Int) (K : Env → W) : RP c4 35 [(14, .pointer l14), (18, .int .i64 place18), (25, .int .i64 g25)] K =
    (cnd ((g25 != (0 : Int))) (cal eI Tryz.prog 28 #[.pointer l14] fun (y1_ : Int) => (cnd ((y1_ == (IntKind.wrap .i64 ((1 : Int) + place18)))) (cal eI Tryz.prog 29 #[.pointer l14] fun (y2_ : Int) => (cnd ((y2_ == (IntKind.wrap .i64 ((1 : Int) + place18)))) (cal eB Tryz.prog 15 #[] fun (y3_ : Bool) => (K [(6, .bool y3_)])) (K [(6, .bool false)]))) (K [(6, .bool false)]))) (K [(6, .bool false)])) := by kernel_rfl
@[go_sem] theorem c4_o : c4.lo 1000000 = [6] := rfl
@[go_sem] theorem c4_e (t6 : Bool) (k : Value → W) : RTp c4 [(6, .bool t6)] k = (k (.bool t6)) := by kernel_rfl
theorem c4_ok : (c4.P.follows .mixedOrders && okc c4 c4.body) = true := by kernel_rfl
theorem c4_fn {e : Enc} {args : Array Value} {G : e.α → W} {L : List HP} {ρ : Env} (hρ : envA 0 args.toList = ρ) (hs : Nat.ble args.size 200 = true) (h : E L (D c4 (.seq (.reg 0) (.seq (.seq (.reg 1) (.cond (.tmp 31) (.seq (.reg 2) (.ret)) (.skip))) (.seq (.reg 3) (.seq (.seq (.reg 4) (.cond (.tmp 42) (.seq (.reg 5) (.ret)) (.skip))) (.seq (.reg 6) (.seq (.reg 7) (.seq (.reg 8) (.seq (.seq (.reg 9) (.block 0 (.loop (.seq (.seq (.reg 10) (.cond (.tmp 56) (.skip) (.exit 0))) (.seq (.block 1 (.seq (.reg 12) (.seq (.seq (.reg 13) (.cond (.tmp 76) (.seq (.reg 14) (.ret)) (.skip))) (.seq (.seq (.reg 15) (.cond (.tmp 95) (.seq (.reg 16) (.ret)) (.skip))) (.seq (.reg 17) (.seq (.reg 18) (.cond (.tmp 107) (.seq (.reg 19) (.seq (.reg 20) (.reg 21))) (.skip)))))))) (.reg 11)))))) (.seq (.reg 22) (.seq (.seq (.reg 23) (.cond (.tmp 132) (.seq (.reg 24) (.ret)) (.skip))) (.seq (.reg 25) (.seq (.reg 26) (.seq (.seq (.reg 27) (.block 2 (.loop (.seq (.seq (.reg 28) (.cond (.tmp 141) (.skip) (.exit 2))) (.seq (.block 3 (.seq (.reg 30) (.seq (.seq (.reg 31) (.cond (.tmp 170) (.seq (.reg 32) (.ret)) (.skip))) (.reg 33)))) (.reg 29)))))) (.seq (.reg 34) (.seq (.reg 35) (.ret)))))))))))))))) (fnQ c4 e G) ρ)) : E L (cal e Tryz.prog 4 args G) :=
  d_fn (c := c4) Tryz.func4 (by kernel_rfl) (by kernel_rfl) (by kernel_rfl) c4_ok (by kernel_rfl) (by kernel_rfl) hρ hs h
-- loop (first region 28): live slots 9:all9 14:l14 16:r16 17:at17 18:place18 19:i19, of which it writes [18, 19]
-- loop (first region 10): live slots 0:parts0 1:runs1 2:run2 7:d7 9:all9 10:last10 11:on11 12:i12, of which it writes [9, 10, 11, 12]
end Go.Sp
/- The log's layer: the law WalRaw. -/
namespace Go.Sp
open Go Go.Proofs
set_option linter.unusedSimpArgs false
set_option linter.unusedVariables false
set_option maxRecDepth 10000
theorem i_s1q {L L' R : List HP} {A : HP} {a : Addr} {n c i : Nat} {xs : List (List UInt8)} {k : List UInt8 → W} (hR : Rs A (some a, n, c) 1 (xs.flatMap cS)) (hi : i < xs.length) [ha : AX R A L'] (h : E L (k (xs.getD i []))) : E L (ldq (HW R) eS (a.add i) k) := by
  have := r_s0q (e := eS) (y := xs.getD i []) hR cS_len (x := xs.getD i []) (i := i) (by simp [hi]) ha.p rfl h
  rwa [Nat.mul_one] at this
theorem i_o1q {e : Enc} {L R R' : List HP} {t : TypeId} {xs : List Value} {k : e.α → W} {a : Addr} {n c i : Nat} {y : e.α} [ho : O2 R a t 1 n c xs R'] (hx : xs[i]? = some (e.enc y)) (h : E L (k y)) : E L (ldq (HW R) e (a.add i) k) :=
  r_ldqA ho.p (fun h' hq => (ow_fact hq).2.2 a rfl h' hq i _ hx) h
/-- Open on a disk that nothing lets go finds what is there. -/
theorem wopenr {Z : Dk} {sb n : Nat} (hc : Z.calm sb n) {base S run : Nat} (hS : 1 ≤ S) (hf : base + S ≤ n) (hn : n ≤ 8192) (r1 : 1 ≤ run) (r2 : run < 4294967296) :
    Fn (eT2 eP eI) Tryz.prog 17 #[.pointer (some ⟨sb, 0, none⟩), .int .i64 (base : Int), .int .i64 (S : Int), .int .i64 (run : Int)] [dk Z] fun y X => ∃ (q : Nat) (Y : Dk), y = (some ⟨q, 0, none⟩, 0) ∧ X = [lgp (Z.found q base S run) sb, dk Y] := fun L w hw => by
  have F := g17 Z hc.ok (base : Int) (S : Int) (run : Int) (by unfold wf64; omega) (by unfold wf64; omega)
  rw [hc.sb] at F
  refine (F L w hw).mono ?_
  rintro _ w' ⟨y, he, X, hX, hW⟩
  have e0 : lchk Z.sure.length (base : Int) (S : Int) (run : Int) = 0 := by
    unfold lchk
    rw [hc.n, if_neg (by omega), if_neg (by omega)]
  rw [if_pos e0, if_pos hc.up] at hX
  obtain ⟨q, b, k, r, e1, e2, e3, hok, h⟩ := hX
  obtain rfl : b = base := by omega
  obtain rfl : k = S := by omega
  obtain rfl : r = run := by omega
  rw [hc.n] at hok
  obtain ⟨m1, m2, _⟩ := lmend_calm hc hok
  rw [if_pos m1, m2] at h
  exact ⟨y, he, X, ⟨q, _, h.1, h.2⟩, hW⟩
abbrev fd (r : Nat) (q : List (Nat × List UInt8)) : List UInt8 × Nat × Bool := q.foldl (rst r) ([], 1, true)
theorem fd_snoc (r : Nat) (q : List (Nat × List UInt8)) (x : Nat × List UInt8) : fd r (q ++ [x]) = rst r (fd r q) x := by
  unfold fd
  rw [List.foldl_append]
  rfl
set_option maxHeartbeats 4000000 in
theorem g4 (A : HP) (s u : SlV) (ts : List (List UInt8)) (ns : List Int) (run : Int) (hS : Rs A s 1 (ts.flatMap cS)) (hN : Rs A u 1 (ns.flatMap cN)) : Fp eB Tryz.prog 4 #[.slice s.1 s.2.1 s.2.2, .slice u.1 u.2.1 u.2.2, .int .i64 run] [A] true := fun L => by
  obtain ⟨tp, tn, tc⟩ := s
  obtain ⟨np, nn', nc⟩ := u
  obtain rfl : tn = ts.length := hS.len cS_len (by decide)
  obtain rfl : nn' = ns.length := hN.len cN_len (by decide)
  refine c4_fn rfl rfl ?_
  by_cases hr : run < 1 ∨ 4294967295 < run
  · repeat' ((fail_if_success with_reducible refine nph ?_); first | (with_reducible first | (refine d_seq ?_; intro K hK) | (refine hK _ _ ?_; clear hK K) | (refine SG.p ?_; try intro b)) | ((with_reducible refine SC.p ?_); refine And.intro ?_ ?_) <;> intro hc <;> try simp only [push_cast, Int.reduceEq, Int.reduceLT, Int.reduceLE, Int.reduceNe] at hc | with_reducible refine r_rq (by first | decide | omega) ?_ | ((with_reducible refine SL.p ?_); first | refine ⟨_, rfl, ?_⟩ | refine ⟨_, _, _, rfl, ?_⟩ | (refine ⟨?_, rfl, ?_⟩; focus (simp; done))) | ((with_reducible first | apply i_ldn | apply i_ldnq); exact rfl; exact rfl; exact rfl) | ((try with_reducible refine d_reg ?_); simp only [go_sem, Nat.reduceAdd, Nat.reduceEqDiff, Int.reduceToNat, Nat.reduceMul, Nat.reduceSub]) | clear hK K)
    all_goals try (exfalso; omega)
    all_goals try contradiction
    all_goals
      refine i_clp g15 ?_
      repeat' ((fail_if_success with_reducible refine nph ?_); first | (with_reducible first | (refine d_seq ?_; intro K hK) | (refine hK _ _ ?_; clear hK K) | (refine SG.p ?_; try intro b)) | ((with_reducible refine SC.p ?_); refine And.intro ?_ ?_) <;> intro hc <;> try simp only [push_cast, Int.reduceEq, Int.reduceLT, Int.reduceLE, Int.reduceNe] at hc | with_reducible refine r_rq (by first | decide | omega) ?_ | ((with_reducible refine SL.p ?_); first | refine ⟨_, rfl, ?_⟩ | refine ⟨_, _, _, rfl, ?_⟩ | (refine ⟨?_, rfl, ?_⟩; focus (simp; done))) | ((with_reducible first | apply i_ldn | apply i_ldnq); exact rfl; exact rfl; exact rfl) | ((try with_reducible refine d_reg ?_); simp only [go_sem, Nat.reduceAdd, Nat.reduceEqDiff, Int.reduceToNat, Nat.reduceMul, Nat.reduceSub]) | clear hK K)
      (with_reducible first | apply i_ret0 | apply i_ret2 | apply i_ret3 | apply i_ret); exact rfl
      rfl
  obtain ⟨r, rfl⟩ : ∃ r : Nat, run = (r : Int) := ⟨run.toNat, by omega⟩
  repeat' ((fail_if_success with_reducible refine nph ?_); first | (with_reducible first | (refine d_seq ?_; intro K hK) | (refine hK _ _ ?_; clear hK K) | (refine SG.p ?_; try intro b)) | ((with_reducible refine SC.p ?_); refine And.intro ?_ ?_) <;> intro hc <;> try simp only [push_cast, Int.reduceEq, Int.reduceLT, Int.reduceLE, Int.reduceNe] at hc | with_reducible refine r_rq (by first | decide | omega) ?_ | ((with_reducible refine SL.p ?_); first | refine ⟨_, rfl, ?_⟩ | refine ⟨_, _, _, rfl, ?_⟩ | (refine ⟨?_, rfl, ?_⟩; focus (simp; done))) | ((with_reducible first | apply i_ldn | apply i_ldnq); exact rfl; exact rfl; exact rfl) | ((try with_reducible refine d_reg ?_); simp only [go_sem, Nat.reduceAdd, Nat.reduceEqDiff, Int.reduceToNat, Nat.reduceMul, Nat.reduceSub]) | clear hK K)
  all_goals try (exfalso; omega)
  all_goals try contradiction
  refine i_cal (F25 8 (by decide) (by decide)) ?_
  rintro y X ⟨sb, bb, mb, rfl, rfl⟩
  have hc0 : (Dk.new sb bb mb 8).calm sb 8 := Dk.calm.new (by decide) (by decide)
  have hz : ∀ j, 0 ≤ j → j < 8 → at4 ((Dk.new sb bb mb 8).get ((j : Nat) : Int)) = 0 := fun m _ hm => by rw [new_get hm]; exact at4_nil
  generalize Dk.new sb bb mb 8 = Z0 at *
  repeat' ((fail_if_success with_reducible refine nph ?_); first | (with_reducible first | (refine d_seq ?_; intro K hK) | (refine hK _ _ ?_; clear hK K) | (refine SG.p ?_; try intro b)) | ((with_reducible refine SC.p ?_); refine And.intro ?_ ?_) <;> intro hc <;> try simp only [push_cast, Int.reduceEq, Int.reduceLT, Int.reduceLE, Int.reduceNe] at hc | with_reducible refine r_rq (by first | decide | omega) ?_ | ((with_reducible refine SL.p ?_); first | refine ⟨_, rfl, ?_⟩ | refine ⟨_, _, _, rfl, ?_⟩ | (refine ⟨?_, rfl, ?_⟩; focus (simp; done))) | ((with_reducible first | apply i_ldn | apply i_ldnq); exact rfl; exact rfl; exact rfl) | ((try with_reducible refine d_reg ?_); simp only [go_sem, Nat.reduceAdd, Nat.reduceEqDiff, Int.reduceToNat, Nat.reduceMul, Nat.reduceSub]) | clear hK K)
  all_goals try contradiction
  refine d_lp [0, 1, 2, 7, 9, 10, 11, 12] (fun t : List (Nat × List UInt8) × Dk => [(0, .slice tp ts.length tc), (1, .slice np ns.length nc), (2, .int .i64 (r : Int)), (7, .pointer (some ⟨sb, 0, none⟩)), (9, str (fd r t.1).1), (10, .int .i64 ((fd r t.1).2.1 : Int)), (11, .bool (fd r t.1).2.2), (12, .int .i64 (t.1.length : Int))])
    (fun t => dk t.2 :: A :: L) (fun t => t.1.length ≤ 8 ∧ t.2.calm sb 8 ∧ (fd r t.1).1.length ≤ 58 * t.1.length ∧ (∀ x ∈ t.1, x.1 < 4294967296 ∧ x.2.length ≤ 58) ∧ (∀ j (x : Nat × List UInt8), t.1[j]? = some x → t.2.get ((j : Nat) : Int) = wh (secb x.1 x.2)) ∧ ∀ j, t.1.length ≤ j → j < 8 → at4 (t.2.get ((j : Nat) : Int)) = 0) (fun t => 8 - t.1.length) ([], Z0) rfl SX.p ⟨Nat.zero_le _, hc0, Nat.zero_le _, fun x hx => (by cases hx), fun j x hx => (by simp at hx), hz⟩ ?_
  clear hc0 hz
  rintro ⟨q, Z⟩ ⟨i1, hc1, hln, hq1, hg1, h01⟩
  dsimp only at i1 hc1 hln hq1 hg1 h01 ⊢
  by_cases hi : q.length < ts.length ∧ q.length < ns.length ∧ q.length < 8
  · obtain ⟨at', rfl⟩ := hS.ptr (by omega)
    obtain ⟨an, rfl⟩ := hN.ptr (by omega)
    obtain ⟨t, ht⟩ : ∃ t, t = ts.getD q.length [] := ⟨_, rfl⟩
    obtain ⟨n, hn⟩ : ∃ n, n = ns.getD q.length 0 := ⟨_, rfl⟩
    by_cases hb : n < 0 ∨ 4294967295 < n ∨ 58 < t.length
    · repeat' ((fail_if_success with_reducible refine nph ?_); first | (with_reducible first | (refine d_seq ?_; intro K hK) | (refine hK _ _ ?_; clear hK K) | (refine SG.p ?_; try intro b)) | ((with_reducible refine SC.p ?_); refine And.intro ?_ ?_) <;> intro hc <;> try simp only [push_cast, Int.reduceEq, Int.reduceLT, Int.reduceLE, Int.reduceNe] at hc | with_reducible refine r_rq (by first | decide | omega) ?_ | ((with_reducible refine SL.p ?_); first | refine ⟨_, rfl, ?_⟩ | refine ⟨_, _, _, rfl, ?_⟩ | (refine ⟨?_, rfl, ?_⟩; focus (simp; done))) | ((with_reducible first | apply i_ldn | apply i_ldnq); exact rfl; exact rfl; exact rfl) | ((try with_reducible refine d_reg ?_); simp only [go_sem, Nat.reduceAdd, Nat.reduceEqDiff, Int.reduceToNat, Nat.reduceMul, Nat.reduceSub]) | clear hK K)
      all_goals try (exfalso; omega)
      refine i_n1 hN hi.2.1 ?_
      rw [← hn]
      repeat' ((fail_if_success with_reducible refine nph ?_); first | (with_reducible first | (refine d_seq ?_; intro K hK) | (refine hK _ _ ?_; clear hK K) | (refine SG.p ?_; try intro b)) | ((with_reducible refine SC.p ?_); refine And.intro ?_ ?_) <;> intro hc <;> try simp only [push_cast, Int.reduceEq, Int.reduceLT, Int.reduceLE, Int.reduceNe] at hc | with_reducible refine r_rq (by first | decide | omega) ?_ | ((with_reducible refine SL.p ?_); first | refine ⟨_, rfl, ?_⟩ | refine ⟨_, _, _, rfl, ?_⟩ | (refine ⟨?_, rfl, ?_⟩; focus (simp; done))) | ((with_reducible first | apply i_ldn | apply i_ldnq); exact rfl; exact rfl; exact rfl) | ((try with_reducible refine d_reg ?_); simp only [go_sem, Nat.reduceAdd, Nat.reduceEqDiff, Int.reduceToNat, Nat.reduceMul, Nat.reduceSub]) | clear hK K)
      all_goals try (exfalso; omega)
      all_goals try contradiction
      all_goals try (refine i_s1 hS hi.1 ?_; rw [← ht])
      all_goals repeat' ((fail_if_success with_reducible refine nph ?_); first | (with_reducible first | (refine d_seq ?_; intro K hK) | (refine hK _ _ ?_; clear hK K) | (refine SG.p ?_; try intro b)) | ((with_reducible refine SC.p ?_); refine And.intro ?_ ?_) <;> intro hc <;> try simp only [push_cast, Int.reduceEq, Int.reduceLT, Int.reduceLE, Int.reduceNe] at hc | with_reducible refine r_rq (by first | decide | omega) ?_ | ((with_reducible refine SL.p ?_); first | refine ⟨_, rfl, ?_⟩ | refine ⟨_, _, _, rfl, ?_⟩ | (refine ⟨?_, rfl, ?_⟩; focus (simp; done))) | ((with_reducible first | apply i_ldn | apply i_ldnq); exact rfl; exact rfl; exact rfl) | ((try with_reducible refine d_reg ?_); simp only [go_sem, Nat.reduceAdd, Nat.reduceEqDiff, Int.reduceToNat, Nat.reduceMul, Nat.reduceSub]) | clear hK K)
      all_goals try (exfalso; omega)
      all_goals try contradiction
      all_goals
        refine i_clp g15 ?_
        repeat' ((fail_if_success with_reducible refine nph ?_); first | (with_reducible first | (refine d_seq ?_; intro K hK) | (refine hK _ _ ?_; clear hK K) | (refine SG.p ?_; try intro b)) | ((with_reducible refine SC.p ?_); refine And.intro ?_ ?_) <;> intro hc <;> try simp only [push_cast, Int.reduceEq, Int.reduceLT, Int.reduceLE, Int.reduceNe] at hc | with_reducible refine r_rq (by first | decide | omega) ?_ | ((with_reducible refine SL.p ?_); first | refine ⟨_, rfl, ?_⟩ | refine ⟨_, _, _, rfl, ?_⟩ | (refine ⟨?_, rfl, ?_⟩; focus (simp; done))) | ((with_reducible first | apply i_ldn | apply i_ldnq); exact rfl; exact rfl; exact rfl) | ((try with_reducible refine d_reg ?_); simp only [go_sem, Nat.reduceAdd, Nat.reduceEqDiff, Int.reduceToNat, Nat.reduceMul, Nat.reduceSub]) | clear hK K)
        (with_reducible first | apply i_ret0 | apply i_ret2 | apply i_ret3 | apply i_ret); exact rfl
        rfl
    · obtain ⟨v, rfl⟩ : ∃ v : Nat, n = (v : Int) := ⟨n.toNat, by omega⟩
      have N1 := g23 (v : Int) 4 (by decide) (by omega) (by omega)
      have N2 := g23 (t.length : Int) 2 (by decide) (by omega) (by omega)
      have l4 := lowb_len (v : Int) 4
      have l2 := lowb_len (t.length : Int) 2
      have sl := secb_len v t
      have CW := calm_w hc1 hi.2.2 (s := secb v t) (by omega)
      obtain ⟨_, c2, _⟩ := hc1.write hi.2.2 (s := secb v t) (by omega)
      have gw := fun j => calm_get hc1 hi.2.2 (s := secb v t) (by omega) j
      unfold secb at CW
      have hst := fd_snoc r q (v, t)
      unfold rst at hst
      dsimp only at hst
      generalize hZ : (Z.write ((q.length : Nat) : Int) (secb v t)).2 = Z2 at *
      have hZ' : (Z.write ((q.length : Nat) : Int) (lowb (v : Int) 4 ++ lowb (t.length : Int) 2 ++ t)).2 = Z2 := hZ
      rw [hZ'] at CW
      have nx : ∀ x ∈ q ++ [(v, t)], x.1 < 4294967296 ∧ x.2.length ≤ 58 := fun x hx => by
        rcases List.mem_append.1 hx with h | h
        · exact hq1 x h
        · obtain rfl : x = (v, t) := by simpa using h
          dsimp only
          omega
      have ng : ∀ j (x : Nat × List UInt8), (q ++ [(v, t)])[j]? = some x → Z2.get ((j : Nat) : Int) = wh (secb x.1 x.2) := fun j x hx => by
        rw [gw]
        rcases Nat.lt_or_ge j q.length with h | h
        · rw [List.getElem?_append_left h] at hx
          rw [if_neg (by omega)]
          exact hg1 j x hx
        · rw [List.getElem?_append_right h] at hx
          have hj : j - q.length = 0 := by
            rcases Nat.eq_zero_or_pos (j - q.length) with y | y
            · exact y
            · rw [List.getElem?_eq_none (by simp; omega)] at hx; cases hx
          rw [hj] at hx
          obtain rfl : (v, t) = x := by simpa using hx
          rw [if_pos (by omega)]
      have n0 : ∀ j, (q ++ [(v, t)]).length ≤ j → j < 8 → at4 (Z2.get ((j : Nat) : Int)) = 0 := fun j h1 h2 => by
        rw [List.length_append, List.length_singleton] at h1
        rw [gw, if_neg (by omega)]
        exact h01 j (by omega) h2
      have nl : (q ++ [(v, t)]).length = q.length + 1 := by rw [List.length_append]; rfl
      generalize hq2 : q ++ [(v, t)] = q2 at *
      generalize fd r q = st at *
      obtain ⟨all, last, on⟩ := st
      dsimp only at hst hln ⊢
      repeat' ((fail_if_success with_reducible refine nph ?_); first | (with_reducible first | (refine d_seq ?_; intro K hK) | (refine hK _ _ ?_; clear hK K) | (refine SG.p ?_; try intro b)) | ((with_reducible refine SC.p ?_); refine And.intro ?_ ?_) <;> intro hc <;> try simp only [push_cast, Int.reduceEq, Int.reduceLT, Int.reduceLE, Int.reduceNe] at hc | with_reducible refine r_rq (by first | decide | omega) ?_ | ((with_reducible refine SL.p ?_); first | refine ⟨_, rfl, ?_⟩ | refine ⟨_, _, _, rfl, ?_⟩ | (refine ⟨?_, rfl, ?_⟩; focus (simp; done))) | ((with_reducible first | apply i_ldn | apply i_ldnq); exact rfl; exact rfl; exact rfl) | ((try with_reducible refine d_reg ?_); simp only [go_sem, Nat.reduceAdd, Nat.reduceEqDiff, Int.reduceToNat, Nat.reduceMul, Nat.reduceSub]) | clear hK K)
      all_goals try (exfalso; omega)
      refine i_n1 hN hi.2.1 ?_
      rw [← hn]
      repeat' ((fail_if_success with_reducible refine nph ?_); first | (with_reducible first | (refine d_seq ?_; intro K hK) | (refine hK _ _ ?_; clear hK K) | (refine SG.p ?_; try intro b)) | ((with_reducible refine SC.p ?_); refine And.intro ?_ ?_) <;> intro hc <;> try simp only [push_cast, Int.reduceEq, Int.reduceLT, Int.reduceLE, Int.reduceNe] at hc | with_reducible refine r_rq (by first | decide | omega) ?_ | ((with_reducible refine SL.p ?_); first | refine ⟨_, rfl, ?_⟩ | refine ⟨_, _, _, rfl, ?_⟩ | (refine ⟨?_, rfl, ?_⟩; focus (simp; done))) | ((with_reducible first | apply i_ldn | apply i_ldnq); exact rfl; exact rfl; exact rfl) | ((try with_reducible refine d_reg ?_); simp only [go_sem, Nat.reduceAdd, Nat.reduceEqDiff, Int.reduceToNat, Nat.reduceMul, Nat.reduceSub]) | clear hK K)
      all_goals try (exfalso; omega)
      refine i_s1 hS hi.1 ?_
      rw [← ht]
      repeat' ((fail_if_success with_reducible refine nph ?_); first | (with_reducible first | (refine d_seq ?_; intro K hK) | (refine hK _ _ ?_; clear hK K) | (refine SG.p ?_; try intro b)) | ((with_reducible refine SC.p ?_); refine And.intro ?_ ?_) <;> intro hc <;> try simp only [push_cast, Int.reduceEq, Int.reduceLT, Int.reduceLE, Int.reduceNe] at hc | with_reducible refine r_rq (by first | decide | omega) ?_ | ((with_reducible refine SL.p ?_); first | refine ⟨_, rfl, ?_⟩ | refine ⟨_, _, _, rfl, ?_⟩ | (refine ⟨?_, rfl, ?_⟩; focus (simp; done))) | ((with_reducible first | apply i_ldn | apply i_ldnq); exact rfl; exact rfl; exact rfl) | ((try with_reducible refine d_reg ?_); simp only [go_sem, Nat.reduceAdd, Nat.reduceEqDiff, Int.reduceToNat, Nat.reduceMul, Nat.reduceSub]) | clear hK K)
      all_goals try (exfalso; omega)
      refine r_ph [A] SX.p ?_
      repeat' ((fail_if_success with_reducible refine nph ?_); first | (with_reducible first | (refine d_seq ?_; intro K hK) | (refine hK _ _ ?_; clear hK K) | (refine SG.p ?_; try intro b)) | ((with_reducible refine SC.p ?_); refine And.intro ?_ ?_) <;> intro hc <;> try simp only [push_cast, Int.reduceEq, Int.reduceLT, Int.reduceLE, Int.reduceNe] at hc | with_reducible refine r_rq (by first | decide | omega) ?_ | ((with_reducible refine SL.p ?_); first | refine ⟨_, rfl, ?_⟩ | refine ⟨_, _, _, rfl, ?_⟩ | (refine ⟨?_, rfl, ?_⟩; focus (simp; done))) | ((with_reducible first | apply i_ldn | apply i_ldnq); exact rfl; exact rfl; exact rfl) | ((try with_reducible refine d_reg ?_); simp only [go_sem, Nat.reduceAdd, Nat.reduceEqDiff, Int.reduceToNat, Nat.reduceMul, Nat.reduceSub]) | clear hK K)
      refine i_s1q hS hi.1 ?_
      rw [← ht]
      repeat' ((fail_if_success with_reducible refine nph ?_); first | (with_reducible first | (refine d_seq ?_; intro K hK) | (refine hK _ _ ?_; clear hK K) | (refine SG.p ?_; try intro b)) | ((with_reducible refine SC.p ?_); refine And.intro ?_ ?_) <;> intro hc <;> try simp only [push_cast, Int.reduceEq, Int.reduceLT, Int.reduceLE, Int.reduceNe] at hc | with_reducible refine r_rq (by first | decide | omega) ?_ | ((with_reducible refine SL.p ?_); first | refine ⟨_, rfl, ?_⟩ | refine ⟨_, _, _, rfl, ?_⟩ | (refine ⟨?_, rfl, ?_⟩; focus (simp; done))) | ((with_reducible first | apply i_ldn | apply i_ldnq); exact rfl; exact rfl; exact rfl) | ((try with_reducible refine d_reg ?_); simp only [go_sem, Nat.reduceAdd, Nat.reduceEqDiff, Int.reduceToNat, Nat.reduceMul, Nat.reduceSub]) | clear hK K)
      refine i_s1q hS hi.1 ?_
      rw [← ht]
      refine i_clp N1 ?_
      repeat' ((fail_if_success with_reducible refine nph ?_); first | (with_reducible first | (refine d_seq ?_; intro K hK) | (refine hK _ _ ?_; clear hK K) | (refine SG.p ?_; try intro b)) | ((with_reducible refine SC.p ?_); refine And.intro ?_ ?_) <;> intro hc <;> try simp only [push_cast, Int.reduceEq, Int.reduceLT, Int.reduceLE, Int.reduceNe] at hc | with_reducible refine r_rq (by first | decide | omega) ?_ | ((with_reducible refine SL.p ?_); first | refine ⟨_, rfl, ?_⟩ | refine ⟨_, _, _, rfl, ?_⟩ | (refine ⟨?_, rfl, ?_⟩; focus (simp; done))) | ((with_reducible first | apply i_ldn | apply i_ldnq); exact rfl; exact rfl; exact rfl) | ((try with_reducible refine d_reg ?_); simp only [go_sem, Nat.reduceAdd, Nat.reduceEqDiff, Int.reduceToNat, Nat.reduceMul, Nat.reduceSub]) | clear hK K)
      refine i_clp N2 ?_
      repeat' ((fail_if_success with_reducible refine nph ?_); first | (with_reducible first | (refine d_seq ?_; intro K hK) | (refine hK _ _ ?_; clear hK K) | (refine SG.p ?_; try intro b)) | ((with_reducible refine SC.p ?_); refine And.intro ?_ ?_) <;> intro hc <;> try simp only [push_cast, Int.reduceEq, Int.reduceLT, Int.reduceLE, Int.reduceNe] at hc | with_reducible refine r_rq (by first | decide | omega) ?_ | ((with_reducible refine SL.p ?_); first | refine ⟨_, rfl, ?_⟩ | refine ⟨_, _, _, rfl, ?_⟩ | (refine ⟨?_, rfl, ?_⟩; focus (simp; done))) | ((with_reducible first | apply i_ldn | apply i_ldnq); exact rfl; exact rfl; exact rfl) | ((try with_reducible refine d_reg ?_); simp only [go_sem, Nat.reduceAdd, Nat.reduceEqDiff, Int.reduceToNat, Nat.reduceMul, Nat.reduceSub]) | clear hK K)
      refine r_rq (by rw [List.length_append]; omega) ?_
      refine i_clq CW ?_
      repeat' ((fail_if_success with_reducible refine nph ?_); first | (with_reducible first | (refine d_seq ?_; intro K hK) | (refine hK _ _ ?_; clear hK K) | (refine SG.p ?_; try intro b)) | ((with_reducible refine SC.p ?_); refine And.intro ?_ ?_) <;> intro hc <;> try simp only [push_cast, Int.reduceEq, Int.reduceLT, Int.reduceLE, Int.reduceNe] at hc | with_reducible refine r_rq (by first | decide | omega) ?_ | ((with_reducible refine SL.p ?_); first | refine ⟨_, rfl, ?_⟩ | refine ⟨_, _, _, rfl, ?_⟩ | (refine ⟨?_, rfl, ?_⟩; focus (simp; done))) | ((with_reducible first | apply i_ldn | apply i_ldnq); exact rfl; exact rfl; exact rfl) | ((try with_reducible refine d_reg ?_); simp only [go_sem, Nat.reduceAdd, Nat.reduceEqDiff, Int.reduceToNat, Nat.reduceMul, Nat.reduceSub]) | clear hK K)
      all_goals try contradiction
      · rw [if_pos ⟨by assumption, by omega, by omega⟩] at hst
        refine i_s1 hS hi.1 ?_
        rw [← ht]
        repeat' ((fail_if_success with_reducible refine nph ?_); first | (with_reducible first | (refine d_seq ?_; intro K hK) | (refine hK _ _ ?_; clear hK K) | (refine SG.p ?_; try intro b)) | ((with_reducible refine SC.p ?_); refine And.intro ?_ ?_) <;> intro hc <;> try simp only [push_cast, Int.reduceEq, Int.reduceLT, Int.reduceLE, Int.reduceNe] at hc | with_reducible refine r_rq (by first | decide | omega) ?_ | ((with_reducible refine SL.p ?_); first | refine ⟨_, rfl, ?_⟩ | refine ⟨_, _, _, rfl, ?_⟩ | (refine ⟨?_, rfl, ?_⟩; focus (simp; done))) | ((with_reducible first | apply i_ldn | apply i_ldnq); exact rfl; exact rfl; exact rfl) | ((try with_reducible refine d_reg ?_); simp only [go_sem, Nat.reduceAdd, Nat.reduceEqDiff, Int.reduceToNat, Nat.reduceMul, Nat.reduceSub]) | clear hK K)
        refine i_s1 hS hi.1 ?_
        rw [← ht]
        repeat' ((fail_if_success with_reducible refine nph ?_); first | (with_reducible first | (refine d_seq ?_; intro K hK) | (refine hK _ _ ?_; clear hK K) | (refine SG.p ?_; try intro b)) | ((with_reducible refine SC.p ?_); refine And.intro ?_ ?_) <;> intro hc <;> try simp only [push_cast, Int.reduceEq, Int.reduceLT, Int.reduceLE, Int.reduceNe] at hc | with_reducible refine r_rq (by first | decide | omega) ?_ | ((with_reducible refine SL.p ?_); first | refine ⟨_, rfl, ?_⟩ | refine ⟨_, _, _, rfl, ?_⟩ | (refine ⟨?_, rfl, ?_⟩; focus (simp; done))) | ((with_reducible first | apply i_ldn | apply i_ldnq); exact rfl; exact rfl; exact rfl) | ((try with_reducible refine d_reg ?_); simp only [go_sem, Nat.reduceAdd, Nat.reduceEqDiff, Int.reduceToNat, Nat.reduceMul, Nat.reduceSub]) | clear hK K)
        rw [w64 (by omega) (by omega), show ((t.length : Int) == 58) = decide (t.length = 58) by rw [Bool.eq_iff_iff, beq_iff_eq, decide_eq_true_iff]; omega]
        exact i_bk (q2, Z2) (by simp only [hst, nl]; rfl) ⟨by dsimp only; omega, c2, by dsimp only; rw [hst, nl]; dsimp only; rw [List.length_append]; omega, nx, ng, n0⟩ (by dsimp only; omega)
      all_goals rw [if_neg (fun y => by have := y.2; first | omega | exact absurd y.1 (by simp [*]))] at hst
      all_goals try rw [decide_eq_false (p := (v : Int) ≤ (r : Int)) (by omega)]
      all_goals
        rw [w64 (by omega) (by omega)]
        exact i_bk (q2, Z2) (by simp only [hst, nl]; rfl) ⟨by dsimp only; omega, c2, by dsimp only; rw [hst, nl]; dsimp only; omega, nx, ng, n0⟩ (by dsimp only; omega)
  · have hsc : Z.scn 0 r 8 0 1 = (fd r q).1 := by
      have h1 := scn_sct (run := r) hq1 hg1 h01 8 0 1 rfl (Nat.le_refl _) i1
      have h2 := rst_is r q [] 1 (fun x hx => (hq1 x hx).2)
      rw [h1, List.drop_zero]
      rw [List.nil_append] at h2
      exact h2.symm
    generalize fd r q = st at *
    obtain ⟨all, last, on⟩ := st
    dsimp only at hln hsc ⊢
    have OP := wopenr hc1 (base := 0) (S := 8) (run := r) (by decide) (by decide) (by decide) (by omega) (by omega)
    obtain ⟨ps, Y, hps, hY1, hY2⟩ := split_whole all.length all (Nat.le_refl _)
    have hfo : ∀ g, Z.found g 0 8 r = ⟨g, 0, 8, r, flat ps, (flat ps).length, false⟩ := fun g => by
      unfold Dk.found
      rw [hsc, hY1, whole_split hps hY2, List.take_left' rfl]
    have hfl : (flat ps).length ≤ all.length := by rw [hY1, List.length_append]; omega
    have hpl : ps.length ≤ (flat ps).length := by
      have := frs_len hps.frs
      rw [List.length_map] at this
      exact this
    have all_le : all.length ≤ 464 := by omega
    repeat' ((fail_if_success with_reducible refine nph ?_); first | (with_reducible first | (refine d_seq ?_; intro K hK) | (refine hK _ _ ?_; clear hK K) | (refine SG.p ?_; try intro b)) | ((with_reducible refine SC.p ?_); refine And.intro ?_ ?_) <;> intro hc <;> try simp only [push_cast, Int.reduceEq, Int.reduceLT, Int.reduceLE, Int.reduceNe] at hc | with_reducible refine r_rq (by first | decide | omega) ?_ | ((with_reducible refine SL.p ?_); first | refine ⟨_, rfl, ?_⟩ | refine ⟨_, _, _, rfl, ?_⟩ | (refine ⟨?_, rfl, ?_⟩; focus (simp; done))) | ((with_reducible first | apply i_ldn | apply i_ldnq); exact rfl; exact rfl; exact rfl) | ((try with_reducible refine d_reg ?_); simp only [go_sem, Nat.reduceAdd, Nat.reduceEqDiff, Int.reduceToNat, Nat.reduceMul, Nat.reduceSub]) | clear hK K)
    all_goals try (exfalso; omega)
    all_goals
      refine i_cal OP ?_
      rintro y X ⟨g, V, rfl, rfl⟩
      rw [hfo]
      have hlen : (flat ps).length ≤ 1000000 := by omega
      have R8 := g25 ⟨g, 0, 8, r, flat ps, (flat ps).length, false⟩ sb hlen
      have E8 := g28 ⟨g, 0, 8, r, flat ps, (flat ps).length, false⟩ sb hlen
      have D8 := g29 ⟨g, 0, 8, r, flat ps, (flat ps).length, false⟩ sb hlen
      dsimp only at R8 E8 D8
      rw [flat_recs hps] at R8
      dsimp only [List.cons_append, List.nil_append]
      repeat' ((fail_if_success with_reducible refine nph ?_); first | (with_reducible first | (refine d_seq ?_; intro K hK) | (refine hK _ _ ?_; clear hK K) | (refine SG.p ?_; try intro b)) | ((with_reducible refine SC.p ?_); refine And.intro ?_ ?_) <;> intro hc <;> try simp only [push_cast, Int.reduceEq, Int.reduceLT, Int.reduceLE, Int.reduceNe] at hc | with_reducible refine r_rq (by first | decide | omega) ?_ | ((with_reducible refine SL.p ?_); first | refine ⟨_, rfl, ?_⟩ | refine ⟨_, _, _, rfl, ?_⟩ | (refine ⟨?_, rfl, ?_⟩; focus (simp; done))) | ((with_reducible first | apply i_ldn | apply i_ldnq); exact rfl; exact rfl; exact rfl) | ((try with_reducible refine d_reg ?_); simp only [go_sem, Nat.reduceAdd, Nat.reduceEqDiff, Int.reduceToNat, Nat.reduceMul, Nat.reduceSub]) | clear hK K)
      all_goals try contradiction
      refine i_cal R8 ?_
      rintro ⟨⟨rp, rn, rc⟩, ⟨ap, an', ac⟩⟩ X ⟨S, rs2, rfl, hRL⟩
      rw [rl_map] at hRL
      have hn2 := hRL.n
      rw [List.length_map] at hn2
      dsimp only [List.cons_append, List.nil_append]
      refine i_ow (t := 36) (sz := 13) (rp, rn, rc) fun hRr => ?_
      obtain rfl : rn = rs2.length := hRr.len rcl_len (by decide)
      refine i_ow (t := 3) (sz := 1) (ap, an', ac) fun hRa => ?_
      have han : an' = ps.length := by
        have := hRa.1
        rw [List.length_map, rl_len, Nat.mul_one] at this
        exact this.symm
      subst han
      repeat' ((fail_if_success with_reducible refine nph ?_); first | (with_reducible first | (refine d_seq ?_; intro K hK) | (refine hK _ _ ?_; clear hK K) | (refine SG.p ?_; try intro b)) | ((with_reducible refine SC.p ?_); refine And.intro ?_ ?_) <;> intro hc <;> try simp only [push_cast, Int.reduceEq, Int.reduceLT, Int.reduceLE, Int.reduceNe] at hc | with_reducible refine r_rq (by first | decide | omega) ?_ | ((with_reducible refine SL.p ?_); first | refine ⟨_, rfl, ?_⟩ | refine ⟨_, _, _, rfl, ?_⟩ | (refine ⟨?_, rfl, ?_⟩; focus (simp; done))) | ((with_reducible first | apply i_ldn | apply i_ldnq); exact rfl; exact rfl; exact rfl) | ((try with_reducible refine d_reg ?_); simp only [go_sem, Nat.reduceAdd, Nat.reduceEqDiff, Int.reduceToNat, Nat.reduceMul, Nat.reduceSub]) | clear hK K)
      refine d_lp [9, 14, 16, 17, 18, 19] (fun i : Nat => [(9, str all), (14, .pointer (some ⟨g, 0, none⟩)), (16, .slice rp rs2.length rc), (17, .slice ap ps.length ac), (18, .int .i64 ((siz ps i : Nat) : Int)), (19, .int .i64 (i : Int))])
        (fun _ => ow 36 13 (rp, rs2.length, rc) (rs2.flatMap rcl) :: ow 3 1 (ap, ps.length, ac) ((rl ps 0).map fun x => .int .i64 (x.1 : Int)) :: S :: lgp ⟨g, 0, 8, r, flat ps, (flat ps).length, false⟩ sb :: A :: L) (fun i => i ≤ ps.length) (fun i => ps.length - i) 0 rfl SX.p (Nat.zero_le _) ?_
      intro i hi'
      have O6 := g26 all ((siz ps i : Nat) : Int) (by omega)
      by_cases hil : i < ps.length
      · have hx : ps[i]? = some ps[i] := List.getElem?_eq_getElem hil
        have hr1 : rs2[i]? = some rs2[i] := List.getElem?_eq_getElem (by omega)
        have hat := hRL.g i rs2[i] ps[i].2.clean hr1 (by rw [List.getElem?_map, hx]; rfl)
        have hra : ((rl ps 0).map fun x => Value.int .i64 (x.1 : Int))[i]? = some (.int .i64 ((siz ps i + 1 : Nat) : Int)) := by
          rw [List.getElem?_map, rl_at ps 0 i _ hx, Nat.zero_add]
          rfl
        have fn : siz ps (i + 1) = siz ps i + ps[i].1.length := flat_next ps hx
        have fl : siz ps (i + 1) ≤ (flat ps).length := flat_le ps (i + 1)
        have oa := opn_at hps Y hx
        rw [← hY1] at oa
        rw [oa] at O6
        generalize rs2[i] = r1 at *
        generalize ps[i] = x at *
        dsimp only at O6
        obtain ⟨a1, rfl⟩ := hRr.ptr (by omega)
        obtain ⟨a2, rfl⟩ := hRa.ptr (by omega)
        have e1 : IntKind.wrap .i64 (1 + ((siz ps i : Nat) : Int)) = ((siz ps i + 1 : Nat) : Int) := by rw [w64 (by omega) (by omega)]; omega
        have e2 : IntKind.wrap .i64 (((siz ps i : Nat) : Int) + (x.1.length : Int)) = ((siz ps (i + 1) : Nat) : Int) := by rw [fn, w64 (by omega) (by omega)]; omega
        repeat' ((fail_if_success with_reducible refine nph ?_); first | (with_reducible first | (refine d_seq ?_; intro K hK) | (refine hK _ _ ?_; clear hK K) | (refine SG.p ?_; try intro b)) | ((with_reducible refine SC.p ?_); refine And.intro ?_ ?_) <;> intro hc <;> try simp only [push_cast, Int.reduceEq, Int.reduceLT, Int.reduceLE, Int.reduceNe] at hc | with_reducible refine r_rq (by first | decide | omega) ?_ | ((with_reducible refine SL.p ?_); first | refine ⟨_, rfl, ?_⟩ | refine ⟨_, _, _, rfl, ?_⟩ | (refine ⟨?_, rfl, ?_⟩; focus (simp; done))) | ((with_reducible first | apply i_ldn | apply i_ldnq); exact rfl; exact rfl; exact rfl) | ((try with_reducible refine d_reg ?_); simp only [go_sem, Nat.reduceAdd, Nat.reduceEqDiff, Int.reduceToNat, Nat.reduceMul, Nat.reduceSub]) | clear hK K)
        all_goals try (exfalso; omega)
        refine i_cal O6 ?_
        rintro ⟨⟨k1, k2, k3, k4, k5, k6, k7, k8, k9, k10, k11, k12, k13⟩, y⟩ X ⟨A', rfl, hr', hy⟩
        dsimp only at hr' hy
        subst hy
        have SM := g27 A' S ⟨k1, k2, k3, k4, k5, k6, k7, k8, k9, k10, k11, k12, k13⟩ r1 _ hr' hat
        dsimp only [List.cons_append, List.nil_append]
        repeat' ((fail_if_success with_reducible refine nph ?_); first | (with_reducible first | (refine d_seq ?_; intro K hK) | (refine hK _ _ ?_; clear hK K) | (refine SG.p ?_; try intro b)) | ((with_reducible refine SC.p ?_); refine And.intro ?_ ?_) <;> intro hc <;> try simp only [push_cast, Int.reduceEq, Int.reduceLT, Int.reduceLE, Int.reduceNe] at hc | with_reducible refine r_rq (by first | decide | omega) ?_ | ((with_reducible refine SL.p ?_); first | refine ⟨_, rfl, ?_⟩ | refine ⟨_, _, _, rfl, ?_⟩ | (refine ⟨?_, rfl, ?_⟩; focus (simp; done))) | ((with_reducible first | apply i_ldn | apply i_ldnq); exact rfl; exact rfl; exact rfl) | ((try with_reducible refine d_reg ?_); simp only [go_sem, Nat.reduceAdd, Nat.reduceEqDiff, Int.reduceToNat, Nat.reduceMul, Nat.reduceSub]) | clear hK K)
        refine r_ph0 ?_
        repeat' ((fail_if_success with_reducible refine nph ?_); first | (with_reducible first | (refine d_seq ?_; intro K hK) | (refine hK _ _ ?_; clear hK K) | (refine SG.p ?_; try intro b)) | ((with_reducible refine SC.p ?_); refine And.intro ?_ ?_) <;> intro hc <;> try simp only [push_cast, Int.reduceEq, Int.reduceLT, Int.reduceLE, Int.reduceNe] at hc | with_reducible refine r_rq (by first | decide | omega) ?_ | ((with_reducible refine SL.p ?_); first | refine ⟨_, rfl, ?_⟩ | refine ⟨_, _, _, rfl, ?_⟩ | (refine ⟨?_, rfl, ?_⟩; focus (simp; done))) | ((with_reducible first | apply i_ldn | apply i_ldnq); exact rfl; exact rfl; exact rfl) | ((try with_reducible refine d_reg ?_); simp only [go_sem, Nat.reduceAdd, Nat.reduceEqDiff, Int.reduceToNat, Nat.reduceMul, Nat.reduceSub]) | clear hK K)
        all_goals try contradiction
        refine i_ldnq (e := e_api_Rec) (x := ⟨k1, k2, k3, k4, k5, k6, k7, k8, k9, k10, k11, k12, k13⟩) rfl rfl rfl ?_
        repeat' ((fail_if_success with_reducible refine nph ?_); first | (with_reducible first | (refine d_seq ?_; intro K hK) | (refine hK _ _ ?_; clear hK K) | (refine SG.p ?_; try intro b)) | ((with_reducible refine SC.p ?_); refine And.intro ?_ ?_) <;> intro hc <;> try simp only [push_cast, Int.reduceEq, Int.reduceLT, Int.reduceLE, Int.reduceNe] at hc | with_reducible refine r_rq (by first | decide | omega) ?_ | ((with_reducible refine SL.p ?_); first | refine ⟨_, rfl, ?_⟩ | refine ⟨_, _, _, rfl, ?_⟩ | (refine ⟨?_, rfl, ?_⟩; focus (simp; done))) | ((with_reducible first | apply i_ldn | apply i_ldnq); exact rfl; exact rfl; exact rfl) | ((try with_reducible refine d_reg ?_); simp only [go_sem, Nat.reduceAdd, Nat.reduceEqDiff, Int.reduceToNat, Nat.reduceMul, Nat.reduceSub]) | clear hK K)
        refine i_snq (y := r1) hRr rcl_len hr1 rfl ?_
        refine i_clp SM ?_
        refine r_ph0 ?_
        repeat' ((fail_if_success with_reducible refine nph ?_); first | (with_reducible first | (refine d_seq ?_; intro K hK) | (refine hK _ _ ?_; clear hK K) | (refine SG.p ?_; try intro b)) | ((with_reducible refine SC.p ?_); refine And.intro ?_ ?_) <;> intro hc <;> try simp only [push_cast, Int.reduceEq, Int.reduceLT, Int.reduceLE, Int.reduceNe] at hc | with_reducible refine r_rq (by first | decide | omega) ?_ | ((with_reducible refine SL.p ?_); first | refine ⟨_, rfl, ?_⟩ | refine ⟨_, _, _, rfl, ?_⟩ | (refine ⟨?_, rfl, ?_⟩; focus (simp; done))) | ((with_reducible first | apply i_ldn | apply i_ldnq); exact rfl; exact rfl; exact rfl) | ((try with_reducible refine d_reg ?_); simp only [go_sem, Nat.reduceAdd, Nat.reduceEqDiff, Int.reduceToNat, Nat.reduceMul, Nat.reduceSub]) | clear hK K)
        all_goals try contradiction
        refine i_o1q (e := eI) (y := ((siz ps i + 1 : Nat) : Int)) hra ?_
        repeat' (first | rw [e1] | rw [e2] | (fail_if_success with_reducible refine nph ?_); first | (with_reducible first | (refine d_seq ?_; intro K hK) | (refine hK _ _ ?_; clear hK K) | (refine SG.p ?_; try intro b)) | ((with_reducible refine SC.p ?_); refine And.intro ?_ ?_) <;> intro hc <;> try simp only [push_cast, Int.reduceEq, Int.reduceLT, Int.reduceLE, Int.reduceNe] at hc | with_reducible refine r_rq (by first | decide | omega) ?_ | ((with_reducible refine SL.p ?_); first | refine ⟨_, rfl, ?_⟩ | refine ⟨_, _, _, rfl, ?_⟩ | (refine ⟨?_, rfl, ?_⟩; focus (simp; done))) | ((with_reducible first | apply i_ldn | apply i_ldnq); exact rfl; exact rfl; exact rfl) | ((try with_reducible refine d_reg ?_); simp only [go_sem, Nat.reduceAdd, Nat.reduceEqDiff, Int.reduceToNat, Nat.reduceMul, Nat.reduceSub]) | clear hK K)
        all_goals try contradiction
        rw [w64 (by omega) (by omega)]
        exact i_bk (i + 1) rfl (by omega) (by omega)
      · obtain rfl : i = ps.length := by omega
        have oe := opn_end (ps := ps) hY2
        rw [← hY1] at oe
        rw [← siz_all] at O6
        generalize opn all (((flat ps).length : Nat) : Int) = oo at *
        obtain ⟨oc, on', oe'⟩ := oo
        dsimp only at oe O6
        have e1 : IntKind.wrap .i64 (1 + ((flat ps).length : Int)) = (((flat ps).length + 1 : Nat) : Int) := by rw [w64 (by omega) (by omega)]; omega
        rw [← siz_all]
        repeat' ((fail_if_success with_reducible refine nph ?_); first | (with_reducible first | (refine d_seq ?_; intro K hK) | (refine hK _ _ ?_; clear hK K) | (refine SG.p ?_; try intro b)) | ((with_reducible refine SC.p ?_); refine And.intro ?_ ?_) <;> intro hc <;> try simp only [push_cast, Int.reduceEq, Int.reduceLT, Int.reduceLE, Int.reduceNe] at hc | with_reducible refine r_rq (by first | decide | omega) ?_ | ((with_reducible refine SL.p ?_); first | refine ⟨_, rfl, ?_⟩ | refine ⟨_, _, _, rfl, ?_⟩ | (refine ⟨?_, rfl, ?_⟩; focus (simp; done))) | ((with_reducible first | apply i_ldn | apply i_ldnq); exact rfl; exact rfl; exact rfl) | ((try with_reducible refine d_reg ?_); simp only [go_sem, Nat.reduceAdd, Nat.reduceEqDiff, Int.reduceToNat, Nat.reduceMul, Nat.reduceSub]) | clear hK K)
        all_goals try (exfalso; omega)
        refine i_cal O6 ?_
        rintro ⟨⟨k1, k2, k3, k4, k5, k6, k7, k8, k9, k10, k11, k12, k13⟩, y⟩ X ⟨A', rfl, hr', hy⟩
        dsimp only at hr' hy
        subst hy
        dsimp only [List.cons_append, List.nil_append]
        repeat' ((fail_if_success with_reducible refine nph ?_); first | (with_reducible first | (refine d_seq ?_; intro K hK) | (refine hK _ _ ?_; clear hK K) | (refine SG.p ?_; try intro b)) | ((with_reducible refine SC.p ?_); refine And.intro ?_ ?_) <;> intro hc <;> try simp only [push_cast, Int.reduceEq, Int.reduceLT, Int.reduceLE, Int.reduceNe] at hc | with_reducible refine r_rq (by first | decide | omega) ?_ | ((with_reducible refine SL.p ?_); first | refine ⟨_, rfl, ?_⟩ | refine ⟨_, _, _, rfl, ?_⟩ | (refine ⟨?_, rfl, ?_⟩; focus (simp; done))) | ((with_reducible first | apply i_ldn | apply i_ldnq); exact rfl; exact rfl; exact rfl) | ((try with_reducible refine d_reg ?_); simp only [go_sem, Nat.reduceAdd, Nat.reduceEqDiff, Int.reduceToNat, Nat.reduceMul, Nat.reduceSub]) | clear hK K)
        all_goals try contradiction
        refine i_clp E8 ?_
        repeat' (first | rw [e1] | (fail_if_success with_reducible refine nph ?_); first | (with_reducible first | (refine d_seq ?_; intro K hK) | (refine hK _ _ ?_; clear hK K) | (refine SG.p ?_; try intro b)) | ((with_reducible refine SC.p ?_); refine And.intro ?_ ?_) <;> intro hc <;> try simp only [push_cast, Int.reduceEq, Int.reduceLT, Int.reduceLE, Int.reduceNe] at hc | with_reducible refine r_rq (by first | decide | omega) ?_ | ((with_reducible refine SL.p ?_); first | refine ⟨_, rfl, ?_⟩ | refine ⟨_, _, _, rfl, ?_⟩ | (refine ⟨?_, rfl, ?_⟩; focus (simp; done))) | ((with_reducible first | apply i_ldn | apply i_ldnq); exact rfl; exact rfl; exact rfl) | ((try with_reducible refine d_reg ?_); simp only [go_sem, Nat.reduceAdd, Nat.reduceEqDiff, Int.reduceToNat, Nat.reduceMul, Nat.reduceSub]) | clear hK K)
        all_goals try contradiction
        refine i_clp D8 ?_
        repeat' (first | rw [e1] | (fail_if_success with_reducible refine nph ?_); first | (with_reducible first | (refine d_seq ?_; intro K hK) | (refine hK _ _ ?_; clear hK K) | (refine SG.p ?_; try intro b)) | ((with_reducible refine SC.p ?_); refine And.intro ?_ ?_) <;> intro hc <;> try simp only [push_cast, Int.reduceEq, Int.reduceLT, Int.reduceLE, Int.reduceNe] at hc | with_reducible refine r_rq (by first | decide | omega) ?_ | ((with_reducible refine SL.p ?_); first | refine ⟨_, rfl, ?_⟩ | refine ⟨_, _, _, rfl, ?_⟩ | (refine ⟨?_, rfl, ?_⟩; focus (simp; done))) | ((with_reducible first | apply i_ldn | apply i_ldnq); exact rfl; exact rfl; exact rfl) | ((try with_reducible refine d_reg ?_); simp only [go_sem, Nat.reduceAdd, Nat.reduceEqDiff, Int.reduceToNat, Nat.reduceMul, Nat.reduceSub]) | clear hK K)
        all_goals try contradiction
        refine i_clp g15 ?_
        repeat' ((fail_if_success with_reducible refine nph ?_); first | (with_reducible first | (refine d_seq ?_; intro K hK) | (refine hK _ _ ?_; clear hK K) | (refine SG.p ?_; try intro b)) | ((with_reducible refine SC.p ?_); refine And.intro ?_ ?_) <;> intro hc <;> try simp only [push_cast, Int.reduceEq, Int.reduceLT, Int.reduceLE, Int.reduceNe] at hc | with_reducible refine r_rq (by first | decide | omega) ?_ | ((with_reducible refine SL.p ?_); first | refine ⟨_, rfl, ?_⟩ | refine ⟨_, _, _, rfl, ?_⟩ | (refine ⟨?_, rfl, ?_⟩; focus (simp; done))) | ((with_reducible first | apply i_ldn | apply i_ldnq); exact rfl; exact rfl; exact rfl) | ((try with_reducible refine d_reg ?_); simp only [go_sem, Nat.reduceAdd, Nat.reduceEqDiff, Int.reduceToNat, Nat.reduceMul, Nat.reduceSub]) | clear hK K)
        (with_reducible first | apply i_ret0 | apply i_ret2 | apply i_ret3 | apply i_ret); exact rfl
        rfl
end Go.Sp
