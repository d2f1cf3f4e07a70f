/- Texts of a proof, one behind the other: Q9. No condition. -/
import Derived.Test.YtaidhghnflnmnaaGreatM6b71bb60
/- The pool's law: PoolNews. -/
namespace Go.Sp
open Go Go.Proofs
set_option linter.unusedSimpArgs false
set_option linter.unusedVariables false
set_option maxRecDepth 10000
/-- What New answers. -/
theorem g42a (s l : Nat) (n : Int) : Fn (eT2 eP eI) Tryz.prog 42 #[.pointer (some ⟨s, 0, none⟩), .pointer (some ⟨l, 0, none⟩), .int .i64 n] [] fun y X => X = [] ∧ ((2 ≤ n ∧ n ≤ 64 ∧ ∃ q, y = (some ⟨q, 0, none⟩, 0)) ∨ ((n < 2 ∨ 64 < n) ∧ y = (none, 1))) := fun L w hw => by
  by_cases h : 2 ≤ n ∧ n ≤ 64
  · obtain ⟨k, rfl⟩ : ∃ k : Nat, n = (k : Int) := ⟨n.toNat, by omega⟩
    refine (g42 s l k (by omega) (by omega) L w hw).mono ?_
    rintro _ w' ⟨y, he, X, ⟨q, fb, rfl, rfl⟩, hX⟩
    exact ⟨_, he, [], ⟨rfl, .inl ⟨h.1, h.2, q, rfl⟩⟩, hX.tl.tl⟩
  · refine (g42x (some ⟨s, 0, none⟩) (some ⟨l, 0, none⟩) n (by omega) L w hw).mono ?_
    rintro _ w' ⟨y, he, X, ⟨rfl, rfl⟩, hX⟩
    exact ⟨_, he, [], ⟨rfl, .inr ⟨by omega, rfl⟩⟩, hX⟩
theorem news_set {S : St} {sb : Nat} {w : Wo} (h : Pv S sb w g0) {t : List UInt8} (ht : t.length = 224) {lsn : Int} (hl : 1 ≤ lsn) : (wset S w 3 t lsn).1 = 0 ∧ (wset S w 3 t lsn).2.P.dirt 3 = true := by
  obtain ⟨a1, a2, a3, a4⟩ := h.hold (p := 3) (by decide)
  have h2 := h.ok.p.n2
  unfold wset
  rw [if_neg (by omega), if_neg (by omega)]
  rw [show ((3 : Nat) : Int) = 3 from rfl] at *
  generalize hld S w 3 = r at *
  obtain ⟨⟨o, e⟩, w2⟩ := r
  dsimp only at a1 a2 a3 a4
  rcases a4 with ⟨i, b1, b2, b3, b4⟩ | ⟨b1, b2⟩
  · obtain ⟨rfl, rfl⟩ := Prod.mk.inj b1
    have hi : i < w2.P.fs.length := by rw [a3]; exact b2
    refine ⟨rfl, ?_⟩
    dsimp only
    have ma := fun j => at_set (f := sfr (w2.P.at i) t lsn) (j := j) hi
    have hlen := (mod_like w2.P i (sfr (w2.P.at i) t lsn)).n
    unfold Po.dirt
    cases hf : (w2.P.mod i (sfr (w2.P.at i) t lsn)).find 3 with
    | none =>
      exfalso
      refine find_none (p := 3) hf ⟨i, by rw [hlen]; exact hi, ?_, ?_⟩
      · rw [ma, if_pos rfl]; exact b3
      · rw [ma, if_pos rfl]; exact b4
    | some j =>
      obtain ⟨c1, c2, c3⟩ := find_some hf
      rw [hlen] at c1
      dsimp only
      by_cases hij : i = j
      · rw [ma, if_pos hij]
        rfl
      · rw [ma, if_neg hij] at c2 c3
        exact absurd (a1.un i j hi c1 b3 c2 (by rw [b4, c3])) hij
  · exfalso
    obtain ⟨c1, c2⟩ := b2 0 (by omega)
    obtain ⟨p, hp, F⟩ := a1.fr 0 (by omega) c1
    have := F.p
    have := g0P p
    omega
set_option maxHeartbeats 400000 in
theorem g9 (n : Int) (t : List UInt8) (lsn : Int) : Fp eB Tryz.prog 9 #[.int .i64 n, str t, .int .i64 lsn] [] true := fun L => by
  refine c9_fn rfl rfl ?_
  repeat' ((fail_if_success with_reducible refine nph ?_); first | (with_reducible first | (refine d_seq ?_; intro K hK) | (refine hK _ _ ?_; clear hK K) | (refine SG.p ?_; try intro b)) | ((with_reducible refine SC.p ?_); refine And.intro ?_ ?_) <;> intro hc <;> try simp only [push_cast, Int.reduceEq, Int.reduceLT, Int.reduceLE, Int.reduceNe] at hc | with_reducible refine r_rq (by first | decide | omega) ?_ | ((with_reducible refine SL.p ?_); first | refine ⟨_, rfl, ?_⟩ | refine ⟨_, _, _, rfl, ?_⟩ | (refine ⟨?_, rfl, ?_⟩; focus (simp; done))) | ((with_reducible first | apply i_ldn | apply i_ldnq); exact rfl; exact rfl; exact rfl) | ((try with_reducible refine d_reg ?_); simp only [go_sem, Nat.reduceAdd, Nat.reduceEqDiff, Int.reduceToNat, Nat.reduceMul, Nat.reduceSub]) | clear hK K)
  refine i_cal (g41 5 (by decide) (by decide)) ?_
  rintro y X ⟨wb, sb, S, w, rfl, rfl, hNw⟩
  have h0 := hNw.pv
  have hSp : S.pages = 8 := by rw [hNw.s]
  have A1 := g42a S.q w.G.q n
  have A2 := g42x none (some ⟨w.G.q, 0, none⟩) 5 (.inl rfl)
  have A3 := g42x (some ⟨S.q, 0, none⟩) none 5 (.inr (.inl rfl))
  have ST := g43 S sb 80 w h0.ok 3 t lsn
  obtain ⟨k1, k2, k3⟩ := wset_ok h0.ok 3 t lsn
  have DT := g45 (wset S w 3 t lsn).2.P k1.p 3
  have PG := g46 (wset S w 3 t lsn).2.P k1.p S sb (k2.st.trans h0.ok.st)
  have hq := k2.q
  have h4 : t.length ≠ 224 → (wset S w 3 t lsn).1 = 4 := fun h => by unfold wset; rw [if_pos h]
  have h1 : t.length = 224 → lsn < 1 → (wset S w 3 t lsn).1 = 1 ∧ (wset S w 3 t lsn).2.P.dirt 3 = false := fun h h' => by
    unfold wset
    rw [if_neg (by omega), if_pos h']
    refine ⟨rfl, ?_⟩
    dsimp only
    rw [hNw.p]
    rfl
  have hs : t.length = 224 → 1 ≤ lsn → (wset S w 3 t lsn).1 = 0 ∧ (wset S w 3 t lsn).2.P.dirt 3 = true := fun h h' => news_set h0 h h'
  clear k1 k2 k3
  generalize wset S w 3 t lsn = b at *
  obtain ⟨e, w2⟩ := b
  dsimp only at ST DT PG hq h4 h1 hs
  have DT2 : Fp eB Tryz.prog 45 #[.pointer (some ⟨w.P.q, 0, none⟩), .int .i64 3] [ppt w2.P, pfs w2.P] (w2.P.dirt 3) := by rw [← hq]; exact DT
  have PG2 : Fp eI Tryz.prog 46 #[.pointer (some ⟨w.P.q, 0, none⟩)] [ppt w2.P, spt S sb] 8 := by
    rw [← hq]
    rw [hSp] at PG
    exact PG
  dsimp only [List.cons_append, List.nil_append]
  repeat' ((fail_if_success with_reducible refine nph ?_); first | (with_reducible first | (refine d_seq ?_; intro K hK) | (refine hK _ _ ?_; clear hK K) | (refine SG.p ?_; try intro b)) | ((with_reducible refine SC.p ?_); refine And.intro ?_ ?_) <;> intro hc <;> try simp only [push_cast, Int.reduceEq, Int.reduceLT, Int.reduceLE, Int.reduceNe] at hc | with_reducible refine r_rq (by first | decide | omega) ?_ | ((with_reducible refine SL.p ?_); first | refine ⟨_, rfl, ?_⟩ | refine ⟨_, _, _, rfl, ?_⟩ | (refine ⟨?_, rfl, ?_⟩; focus (simp; done))) | ((with_reducible first | apply i_ldn | apply i_ldnq); exact rfl; exact rfl; exact rfl) | ((try with_reducible refine d_reg ?_); simp only [go_sem, Nat.reduceAdd, Nat.reduceEqDiff, Int.reduceToNat, Nat.reduceMul, Nat.reduceSub]) | clear hK K)
  all_goals try contradiction
  refine r_ph0 ?_
  repeat' ((fail_if_success with_reducible refine nph ?_); first | (with_reducible first | (refine d_seq ?_; intro K hK) | (refine hK _ _ ?_; clear hK K) | (refine SG.p ?_; try intro b)) | ((with_reducible refine SC.p ?_); refine And.intro ?_ ?_) <;> intro hc <;> try simp only [push_cast, Int.reduceEq, Int.reduceLT, Int.reduceLE, Int.reduceNe] at hc | with_reducible refine r_rq (by first | decide | omega) ?_ | ((with_reducible refine SL.p ?_); first | refine ⟨_, rfl, ?_⟩ | refine ⟨_, _, _, rfl, ?_⟩ | (refine ⟨?_, rfl, ?_⟩; focus (simp; done))) | ((with_reducible first | apply i_ldn | apply i_ldnq); exact rfl; exact rfl; exact rfl) | ((try with_reducible refine d_reg ?_); simp only [go_sem, Nat.reduceAdd, Nat.reduceEqDiff, Int.reduceToNat, Nat.reduceMul, Nat.reduceSub]) | clear hK K)
  refine i_cal A1 ?_
  rintro y X ⟨rfl, hX⟩
  dsimp only [List.nil_append]
  refine E.mono (fun _ h => h) ?_
  rcases hX with ⟨n1, n2, q, rfl⟩ | ⟨n1, rfl⟩
  all_goals
    repeat' ((fail_if_success with_reducible refine nph ?_); first | (with_reducible first | (refine d_seq ?_; intro K hK) | (refine hK _ _ ?_; clear hK K) | (refine SG.p ?_; try intro b)) | ((with_reducible refine SC.p ?_); refine And.intro ?_ ?_) <;> intro hc <;> try simp only [push_cast, Int.reduceEq, Int.reduceLT, Int.reduceLE, Int.reduceNe] at hc | with_reducible refine r_rq (by first | decide | omega) ?_ | ((with_reducible refine SL.p ?_); first | refine ⟨_, rfl, ?_⟩ | refine ⟨_, _, _, rfl, ?_⟩ | (refine ⟨?_, rfl, ?_⟩; focus (simp; done))) | ((with_reducible first | apply i_ldn | apply i_ldnq); exact rfl; exact rfl; exact rfl) | ((try with_reducible refine d_reg ?_); simp only [go_sem, Nat.reduceAdd, Nat.reduceEqDiff, Int.reduceToNat, Nat.reduceMul, Nat.reduceSub]) | clear hK K)
    refine i_clp A2 ?_
    repeat' ((fail_if_success with_reducible refine nph ?_); first | (with_reducible first | (refine d_seq ?_; intro K hK) | (refine hK _ _ ?_; clear hK K) | (refine SG.p ?_; try intro b)) | ((with_reducible refine SC.p ?_); refine And.intro ?_ ?_) <;> intro hc <;> try simp only [push_cast, Int.reduceEq, Int.reduceLT, Int.reduceLE, Int.reduceNe] at hc | with_reducible refine r_rq (by first | decide | omega) ?_ | ((with_reducible refine SL.p ?_); first | refine ⟨_, rfl, ?_⟩ | refine ⟨_, _, _, rfl, ?_⟩ | (refine ⟨?_, rfl, ?_⟩; focus (simp; done))) | ((with_reducible first | apply i_ldn | apply i_ldnq); exact rfl; exact rfl; exact rfl) | ((try with_reducible refine d_reg ?_); simp only [go_sem, Nat.reduceAdd, Nat.reduceEqDiff, Int.reduceToNat, Nat.reduceMul, Nat.reduceSub]) | clear hK K)
    refine i_clp A3 ?_
    repeat' ((fail_if_success with_reducible refine nph ?_); first | (with_reducible first | (refine d_seq ?_; intro K hK) | (refine hK _ _ ?_; clear hK K) | (refine SG.p ?_; try intro b)) | ((with_reducible refine SC.p ?_); refine And.intro ?_ ?_) <;> intro hc <;> try simp only [push_cast, Int.reduceEq, Int.reduceLT, Int.reduceLE, Int.reduceNe] at hc | with_reducible refine r_rq (by first | decide | omega) ?_ | ((with_reducible refine SL.p ?_); first | refine ⟨_, rfl, ?_⟩ | refine ⟨_, _, _, rfl, ?_⟩ | (refine ⟨?_, rfl, ?_⟩; focus (simp; done))) | ((with_reducible first | apply i_ldn | apply i_ldnq); exact rfl; exact rfl; exact rfl) | ((try with_reducible refine d_reg ?_); simp only [go_sem, Nat.reduceAdd, Nat.reduceEqDiff, Int.reduceToNat, Nat.reduceMul, Nat.reduceSub]) | clear hK K)
    all_goals try (exfalso; omega)
    all_goals try contradiction
    all_goals try exact absurd (show ((0 : Int) == 0) = decide (n ≤ 64) by rw [decide_eq_true n2]; rfl) (by assumption)
    all_goals try exact absurd (show ((1 : Int) == 0) = decide (n ≤ 64) by rw [decide_eq_false (by omega)]; rfl) (by assumption)
    all_goals refine i_clq ST ?_
    all_goals
      by_cases ht : t.length ≠ 224
      · obtain rfl := h4 ht
        repeat' ((fail_if_success with_reducible refine nph ?_); first | (with_reducible first | (refine d_seq ?_; intro K hK) | (refine hK _ _ ?_; clear hK K) | (refine SG.p ?_; try intro b)) | ((with_reducible refine SC.p ?_); refine And.intro ?_ ?_) <;> intro hc <;> try simp only [push_cast, Int.reduceEq, Int.reduceLT, Int.reduceLE, Int.reduceNe] at hc | with_reducible refine r_rq (by first | decide | omega) ?_ | ((with_reducible refine SL.p ?_); first | refine ⟨_, rfl, ?_⟩ | refine ⟨_, _, _, rfl, ?_⟩ | (refine ⟨?_, rfl, ?_⟩; focus (simp; done))) | ((with_reducible first | apply i_ldn | apply i_ldnq); exact rfl; exact rfl; exact rfl) | ((try with_reducible refine d_reg ?_); simp only [go_sem, Nat.reduceAdd, Nat.reduceEqDiff, Int.reduceToNat, Nat.reduceMul, Nat.reduceSub]) | clear hK K)
        all_goals try (exfalso; omega)
        all_goals try contradiction
        refine i_clp g44 ?_
        repeat' ((fail_if_success with_reducible refine nph ?_); first | (with_reducible first | (refine d_seq ?_; intro K hK) | (refine hK _ _ ?_; clear hK K) | (refine SG.p ?_; try intro b)) | ((with_reducible refine SC.p ?_); refine And.intro ?_ ?_) <;> intro hc <;> try simp only [push_cast, Int.reduceEq, Int.reduceLT, Int.reduceLE, Int.reduceNe] at hc | with_reducible refine r_rq (by first | decide | omega) ?_ | ((with_reducible refine SL.p ?_); first | refine ⟨_, rfl, ?_⟩ | refine ⟨_, _, _, rfl, ?_⟩ | (refine ⟨?_, rfl, ?_⟩; focus (simp; done))) | ((with_reducible first | apply i_ldn | apply i_ldnq); exact rfl; exact rfl; exact rfl) | ((try with_reducible refine d_reg ?_); simp only [go_sem, Nat.reduceAdd, Nat.reduceEqDiff, Int.reduceToNat, Nat.reduceMul, Nat.reduceSub]) | clear hK K)
        (with_reducible first | apply i_ret0 | apply i_ret2 | apply i_ret3 | apply i_ret); exact rfl
        rfl
      have ht' : t.length = 224 := by omega
      by_cases hl : lsn < 1
      · obtain ⟨rfl, hd⟩ := h1 ht' hl
        rw [hd] at DT2
        have d1 : decide (lsn < 1) = true := decide_eq_true hl
        have d2 : decide (1 ≤ lsn) = false := decide_eq_false (by omega)
        repeat' (first | rw [d1] | rw [d2] | (fail_if_success with_reducible refine nph ?_); first | (with_reducible first | (refine d_seq ?_; intro K hK) | (refine hK _ _ ?_; clear hK K) | (refine SG.p ?_; try intro b)) | ((with_reducible refine SC.p ?_); refine And.intro ?_ ?_) <;> intro hc <;> try simp only [push_cast, Int.reduceEq, Int.reduceLT, Int.reduceLE, Int.reduceNe] at hc | with_reducible refine r_rq (by first | decide | omega) ?_ | ((with_reducible refine SL.p ?_); first | refine ⟨_, rfl, ?_⟩ | refine ⟨_, _, _, rfl, ?_⟩ | (refine ⟨?_, rfl, ?_⟩; focus (simp; done))) | ((with_reducible first | apply i_ldn | apply i_ldnq); exact rfl; exact rfl; exact rfl) | ((try with_reducible refine d_reg ?_); simp only [go_sem, Nat.reduceAdd, Nat.reduceEqDiff, Int.reduceToNat, Nat.reduceMul, Nat.reduceSub]) | clear hK K)
        all_goals try (exfalso; omega)
        all_goals try contradiction
        refine i_clp DT2 ?_
        repeat' (first | rw [d2] | (fail_if_success with_reducible refine nph ?_); first | (with_reducible first | (refine d_seq ?_; intro K hK) | (refine hK _ _ ?_; clear hK K) | (refine SG.p ?_; try intro b)) | ((with_reducible refine SC.p ?_); refine And.intro ?_ ?_) <;> intro hc <;> try simp only [push_cast, Int.reduceEq, Int.reduceLT, Int.reduceLE, Int.reduceNe] at hc | with_reducible refine r_rq (by first | decide | omega) ?_ | ((with_reducible refine SL.p ?_); first | refine ⟨_, rfl, ?_⟩ | refine ⟨_, _, _, rfl, ?_⟩ | (refine ⟨?_, rfl, ?_⟩; focus (simp; done))) | ((with_reducible first | apply i_ldn | apply i_ldnq); exact rfl; exact rfl; exact rfl) | ((try with_reducible refine d_reg ?_); simp only [go_sem, Nat.reduceAdd, Nat.reduceEqDiff, Int.reduceToNat, Nat.reduceMul, Nat.reduceSub]) | clear hK K)
        all_goals try contradiction
        refine i_clp PG2 ?_
        repeat' ((fail_if_success with_reducible refine nph ?_); first | (with_reducible first | (refine d_seq ?_; intro K hK) | (refine hK _ _ ?_; clear hK K) | (refine SG.p ?_; try intro b)) | ((with_reducible refine SC.p ?_); refine And.intro ?_ ?_) <;> intro hc <;> try simp only [push_cast, Int.reduceEq, Int.reduceLT, Int.reduceLE, Int.reduceNe] at hc | with_reducible refine r_rq (by first | decide | omega) ?_ | ((with_reducible refine SL.p ?_); first | refine ⟨_, rfl, ?_⟩ | refine ⟨_, _, _, rfl, ?_⟩ | (refine ⟨?_, rfl, ?_⟩; focus (simp; done))) | ((with_reducible first | apply i_ldn | apply i_ldnq); exact rfl; exact rfl; exact rfl) | ((try with_reducible refine d_reg ?_); simp only [go_sem, Nat.reduceAdd, Nat.reduceEqDiff, Int.reduceToNat, Nat.reduceMul, Nat.reduceSub]) | clear hK K)
        all_goals try contradiction
        refine i_clp g44 ?_
        repeat' ((fail_if_success with_reducible refine nph ?_); first | (with_reducible first | (refine d_seq ?_; intro K hK) | (refine hK _ _ ?_; clear hK K) | (refine SG.p ?_; try intro b)) | ((with_reducible refine SC.p ?_); refine And.intro ?_ ?_) <;> intro hc <;> try simp only [push_cast, Int.reduceEq, Int.reduceLT, Int.reduceLE, Int.reduceNe] at hc | with_reducible refine r_rq (by first | decide | omega) ?_ | ((with_reducible refine SL.p ?_); first | refine ⟨_, rfl, ?_⟩ | refine ⟨_, _, _, rfl, ?_⟩ | (refine ⟨?_, rfl, ?_⟩; focus (simp; done))) | ((with_reducible first | apply i_ldn | apply i_ldnq); exact rfl; exact rfl; exact rfl) | ((try with_reducible refine d_reg ?_); simp only [go_sem, Nat.reduceAdd, Nat.reduceEqDiff, Int.reduceToNat, Nat.reduceMul, Nat.reduceSub]) | clear hK K)
        (with_reducible first | apply i_ret0 | apply i_ret2 | apply i_ret3 | apply i_ret); exact rfl
        rfl
      · obtain ⟨rfl, hd⟩ := hs ht' (by omega)
        rw [hd] at DT2
        have d1 : decide (lsn < 1) = false := decide_eq_false hl
        have d2 : decide (1 ≤ lsn) = true := decide_eq_true (by omega)
        repeat' (first | rw [d1] | rw [d2] | (fail_if_success with_reducible refine nph ?_); first | (with_reducible first | (refine d_seq ?_; intro K hK) | (refine hK _ _ ?_; clear hK K) | (refine SG.p ?_; try intro b)) | ((with_reducible refine SC.p ?_); refine And.intro ?_ ?_) <;> intro hc <;> try simp only [push_cast, Int.reduceEq, Int.reduceLT, Int.reduceLE, Int.reduceNe] at hc | with_reducible refine r_rq (by first | decide | omega) ?_ | ((with_reducible refine SL.p ?_); first | refine ⟨_, rfl, ?_⟩ | refine ⟨_, _, _, rfl, ?_⟩ | (refine ⟨?_, rfl, ?_⟩; focus (simp; done))) | ((with_reducible first | apply i_ldn | apply i_ldnq); exact rfl; exact rfl; exact rfl) | ((try with_reducible refine d_reg ?_); simp only [go_sem, Nat.reduceAdd, Nat.reduceEqDiff, Int.reduceToNat, Nat.reduceMul, Nat.reduceSub]) | clear hK K)
        all_goals try (exfalso; omega)
        all_goals try contradiction
        refine i_clp DT2 ?_
        repeat' (first | rw [d2] | (fail_if_success with_reducible refine nph ?_); first | (with_reducible first | (refine d_seq ?_; intro K hK) | (refine hK _ _ ?_; clear hK K) | (refine SG.p ?_; try intro b)) | ((with_reducible refine SC.p ?_); refine And.intro ?_ ?_) <;> intro hc <;> try simp only [push_cast, Int.reduceEq, Int.reduceLT, Int.reduceLE, Int.reduceNe] at hc | with_reducible refine r_rq (by first | decide | omega) ?_ | ((with_reducible refine SL.p ?_); first | refine ⟨_, rfl, ?_⟩ | refine ⟨_, _, _, rfl, ?_⟩ | (refine ⟨?_, rfl, ?_⟩; focus (simp; done))) | ((with_reducible first | apply i_ldn | apply i_ldnq); exact rfl; exact rfl; exact rfl) | ((try with_reducible refine d_reg ?_); simp only [go_sem, Nat.reduceAdd, Nat.reduceEqDiff, Int.reduceToNat, Nat.reduceMul, Nat.reduceSub]) | clear hK K)
        all_goals try contradiction
        refine i_clp PG2 ?_
        repeat' ((fail_if_success with_reducible refine nph ?_); first | (with_reducible first | (refine d_seq ?_; intro K hK) | (refine hK _ _ ?_; clear hK K) | (refine SG.p ?_; try intro b)) | ((with_reducible refine SC.p ?_); refine And.intro ?_ ?_) <;> intro hc <;> try simp only [push_cast, Int.reduceEq, Int.reduceLT, Int.reduceLE, Int.reduceNe] at hc | with_reducible refine r_rq (by first | decide | omega) ?_ | ((with_reducible refine SL.p ?_); first | refine ⟨_, rfl, ?_⟩ | refine ⟨_, _, _, rfl, ?_⟩ | (refine ⟨?_, rfl, ?_⟩; focus (simp; done))) | ((with_reducible first | apply i_ldn | apply i_ldnq); exact rfl; exact rfl; exact rfl) | ((try with_reducible refine d_reg ?_); simp only [go_sem, Nat.reduceAdd, Nat.reduceEqDiff, Int.reduceToNat, Nat.reduceMul, Nat.reduceSub]) | clear hK K)
        all_goals try contradiction
        refine i_clp g44 ?_
        repeat' ((fail_if_success with_reducible refine nph ?_); first | (with_reducible first | (refine d_seq ?_; intro K hK) | (refine hK _ _ ?_; clear hK K) | (refine SG.p ?_; try intro b)) | ((with_reducible refine SC.p ?_); refine And.intro ?_ ?_) <;> intro hc <;> try simp only [push_cast, Int.reduceEq, Int.reduceLT, Int.reduceLE, Int.reduceNe] at hc | with_reducible refine r_rq (by first | decide | omega) ?_ | ((with_reducible refine SL.p ?_); first | refine ⟨_, rfl, ?_⟩ | refine ⟨_, _, _, rfl, ?_⟩ | (refine ⟨?_, rfl, ?_⟩; focus (simp; done))) | ((with_reducible first | apply i_ldn | apply i_ldnq); exact rfl; exact rfl; exact rfl) | ((try with_reducible refine d_reg ?_); simp only [go_sem, Nat.reduceAdd, Nat.reduceEqDiff, Int.reduceToNat, Nat.reduceMul, Nat.reduceSub]) | clear hK K)
        (with_reducible first | apply i_ret0 | apply i_ret2 | apply i_ret3 | apply i_ret); exact rfl
        rfl
end Go.Sp
