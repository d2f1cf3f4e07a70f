/- Texts of a proof, one behind the other: W9. No condition. -/
import Derived.Test.YtaidhghnflnmnaaGreatM371cff74
/- The log's layer: the law WalReads. -/
namespace Go.Sp
open Go Go.Proofs
set_option linter.unusedSimpArgs false
set_option linter.unusedVariables false
set_option maxRecDepth 10000
theorem siz_app (ps : PS) (x : List UInt8 × Rc) {m : Nat} (hm : m ≤ ps.length) : siz (ps ++ [x]) m = siz ps m := by
  unfold siz
  rw [List.take_append_of_le_length hm]
theorem siz_all (ps : PS) : (flat ps).length = siz ps ps.length := by
  unfold siz
  rw [List.take_length]
set_option maxHeartbeats 4000000 in
theorem g7 (A : HP) (s : SlV) (rs : List api_Rec) (flushed lsn most : Int) (hR : Rs A s 13 (rs.flatMap rcl)) (hok : ∀ x ∈ rs, RcOk A x) (hw1 : wf64 lsn) (hw2 : wf64 most) : Fp eB Tryz.prog 7 #[.slice s.1 s.2.1 s.2.2, .int .i64 flushed, .int .i64 lsn, .int .i64 most] [A] true := fun L => by
  obtain ⟨p, n, c⟩ := s
  obtain rfl : n = rs.length := hR.len rcl_len (by decide)
  unfold wf64 at hw1
  refine c7_fn rfl rfl ?_
  repeat' ((fail_if_success with_reducible refine nph ?_); first | (with_reducible first | (refine d_seq ?_; intro K hK) | (refine hK _ _ ?_; clear hK K) | (refine SG.p ?_; try intro b)) | ((with_reducible refine SC.p ?_); refine And.intro ?_ ?_) <;> intro hc <;> try simp only [push_cast, Int.reduceEq, Int.reduceLT, Int.reduceLE, Int.reduceNe] at hc | with_reducible refine r_rq (by first | decide | omega) ?_ | ((with_reducible refine SL.p ?_); first | refine ⟨_, rfl, ?_⟩ | refine ⟨_, _, _, rfl, ?_⟩ | (refine ⟨?_, rfl, ?_⟩; focus (simp; done))) | ((with_reducible first | apply i_ldn | apply i_ldnq); exact rfl; exact rfl; exact rfl) | ((try with_reducible refine d_reg ?_); simp only [go_sem, Nat.reduceAdd, Nat.reduceEqDiff, Int.reduceToNat, Nat.reduceMul, Nat.reduceSub]) | clear hK K)
  refine i_cal (F25 31 (by decide) (by decide)) ?_
  rintro y X ⟨sb, bb, mb, rfl, rfl⟩
  have hc0 : (Dk.new sb bb mb 31).calm sb 31 := Dk.calm.new (by decide) (by decide)
  have hz : ∀ m, m < 30 → at4 ((Dk.new sb bb mb 31).get ((1 + m : Nat) : Int)) = 0 := fun m hm => by rw [new_get (by omega)]; exact at4_nil
  generalize Dk.new sb bb mb 31 = Z at *
  repeat' ((fail_if_success with_reducible refine nph ?_); first | (with_reducible first | (refine d_seq ?_; intro K hK) | (refine hK _ _ ?_; clear hK K) | (refine SG.p ?_; try intro b)) | ((with_reducible refine SC.p ?_); refine And.intro ?_ ?_) <;> intro hc <;> try simp only [push_cast, Int.reduceEq, Int.reduceLT, Int.reduceLE, Int.reduceNe] at hc | with_reducible refine r_rq (by first | decide | omega) ?_ | ((with_reducible refine SL.p ?_); first | refine ⟨_, rfl, ?_⟩ | refine ⟨_, _, _, rfl, ?_⟩ | (refine ⟨?_, rfl, ?_⟩; focus (simp; done))) | ((with_reducible first | apply i_ldn | apply i_ldnq); exact rfl; exact rfl; exact rfl) | ((try with_reducible refine d_reg ?_); simp only [go_sem, Nat.reduceAdd, Nat.reduceEqDiff, Int.reduceToNat, Nat.reduceMul, Nat.reduceSub]) | clear hK K)
  all_goals try contradiction
  refine i_cal (wopen0 hc0 hz (by decide) (by decide) (by decide) (by decide : 1 ≤ 1) (by decide)) ?_
  rintro y X ⟨q, Y, ρ, rfl, rfl, hW, hE⟩
  repeat' ((fail_if_success with_reducible refine nph ?_); first | (with_reducible first | (refine d_seq ?_; intro K hK) | (refine hK _ _ ?_; clear hK K) | (refine SG.p ?_; try intro b)) | ((with_reducible refine SC.p ?_); refine And.intro ?_ ?_) <;> intro hc <;> try simp only [push_cast, Int.reduceEq, Int.reduceLT, Int.reduceLE, Int.reduceNe] at hc | with_reducible refine r_rq (by first | decide | omega) ?_ | ((with_reducible refine SL.p ?_); first | refine ⟨_, rfl, ?_⟩ | refine ⟨_, _, _, rfl, ?_⟩ | (refine ⟨?_, rfl, ?_⟩; focus (simp; done))) | ((with_reducible first | apply i_ldn | apply i_ldnq); exact rfl; exact rfl; exact rfl) | ((try with_reducible refine d_reg ?_); simp only [go_sem, Nat.reduceAdd, Nat.reduceEqDiff, Int.reduceToNat, Nat.reduceMul, Nat.reduceSub]) | clear hK K)
  all_goals try contradiction
  rename Nat => pb
  refine r_nilow 9 1 ?_
  refine d_lp [0, 1, 2, 3, 11, 13, 14] (fun t : Nat × PS × SlV × Nat × Dk => [(0, .slice p rs.length c), (1, .int .i64 flushed), (2, .int .i64 lsn), (3, .int .i64 most), (11, .pointer (some ⟨q, 0, none⟩)), (13, .pointer (some ⟨pb, 0, none⟩)), (14, .int .i64 (t.1 : Int))])
    (fun t => lgp (l1 q (siz t.2.1 t.2.2.2.1) 1 t.2.1) sb :: dk t.2.2.2.2 :: pl pb t.2.2.1 t.2.2.2.1 :: ow 9 1 t.2.2.1 (strs t.2.1) :: A :: L)
    (fun t => t.1 ≤ 20 ∧ Prs t.2.1 ∧ t.2.2.1.2.1 = t.2.1.length ∧ t.2.1.length ≤ t.1 ∧ t.2.2.2.1 ≤ t.2.1.length ∧ ∃ ρ, Wi t.2.2.2.2 sb 31 (l1 q (siz t.2.1 t.2.2.2.1) 1 t.2.1) ρ) (fun t => 20 - t.1) (0, [], (none, 0, 0), 0, Y) rfl ?_ ⟨by dsimp only; omega, fun x hx => (by cases hx), rfl, Nat.le_refl _, Nat.le_refl _, ρ, hW⟩ ?_
  · show Sub (lgp ⟨q, 1, 30, 1, [], 0, false⟩ sb :: dk Y :: ar pb 60 [.slice none 0 0, .int .i64 0, .int .i64 1, .int .i64 1740] :: ow 9 1 (none, 0, 0) [] :: A :: L) _
    exact SX.p
  clear hW hE hc0 hz
  rintro ⟨i, ps, ⟨op, on, oc⟩, m, V⟩ ⟨i1, hps, i3, i4, i5, ρ2, hWi⟩
  dsimp only at i1 hps i3 i4 i5 hWi ⊢
  by_cases hi : i < rs.length ∧ i < 20
  · have hx : rs[i]? = some rs[i] := List.getElem?_eq_getElem hi.1
    have hxo := hok rs[i] (List.getElem_mem hi.1)
    generalize rs[i] = x at *
    obtain ⟨a, rfl⟩ := hR.ptr (by omega)
    obtain ⟨cc, hcc⟩ := few_ok hxo
    have FF := few_fn hxo
    have FR := g18 A (fewr x) cc hcc
    have AP := wappend hWi A (fewr x) cc hcc
    have WA := hWi.app cc
    have hok1 := append_ok (G := l1 q (siz ps m) 1 ps) (c := cc) rfl
    have hno1 := append_no (G := l1 q (siz ps m) 1 ps) (c := cc) rfl
    have hsh := hcc.sh
    have flush : ∀ (ps : PS) (m : Nat), Wi V sb 31 (l1 q (siz ps m) 1 ps) ρ2 → ∃ (V' : Dk) (ρ' : Nat → Nat), Fq eI Tryz.prog 21 #[.pointer (some ⟨q, 0, none⟩)] [lgp (l1 q (siz ps m) 1 ps) sb, dk V] [lgp (l1 q (siz ps ps.length) 1 ps) sb, dk V'] 0 ∧ Wi V' sb 31 (l1 q (siz ps ps.length) 1 ps) ρ' := fun ps m h => by
      obtain ⟨V', ρ', FL, WV, _⟩ := wflush h
      rw [show ({ l1 q (siz ps m) 1 ps with durable := (l1 q (siz ps m) 1 ps).all.length } : Lg) = l1 q (siz ps ps.length) 1 ps by rw [← siz_all]] at FL WV
      exact ⟨V', ρ', FL, WV⟩
    repeat' ((fail_if_success with_reducible refine nph ?_); first | (with_reducible first | (refine d_seq ?_; intro K hK) | (refine hK _ _ ?_; clear hK K) | (refine SG.p ?_; try intro b)) | ((with_reducible refine SC.p ?_); refine And.intro ?_ ?_) <;> intro hc <;> try simp only [push_cast, Int.reduceEq, Int.reduceLT, Int.reduceLE, Int.reduceNe] at hc | with_reducible refine r_rq (by first | decide | omega) ?_ | ((with_reducible refine SL.p ?_); first | refine ⟨_, rfl, ?_⟩ | refine ⟨_, _, _, rfl, ?_⟩ | (refine ⟨?_, rfl, ?_⟩; focus (simp; done))) | ((with_reducible first | apply i_ldn | apply i_ldnq); exact rfl; exact rfl; exact rfl) | ((try with_reducible refine d_reg ?_); simp only [go_sem, Nat.reduceAdd, Nat.reduceEqDiff, Int.reduceToNat, Nat.reduceMul, Nat.reduceSub]) | clear hK K)
    all_goals try (exfalso; omega)
    refine i_sn hR rcl_len hx rfl ?_
    refine i_clp FF ?_
    refine i_clp FR ?_
    repeat' ((fail_if_success with_reducible refine nph ?_); first | (with_reducible first | (refine d_seq ?_; intro K hK) | (refine hK _ _ ?_; clear hK K) | (refine SG.p ?_; try intro b)) | ((with_reducible refine SC.p ?_); refine And.intro ?_ ?_) <;> intro hc <;> try simp only [push_cast, Int.reduceEq, Int.reduceLT, Int.reduceLE, Int.reduceNe] at hc | with_reducible refine r_rq (by first | decide | omega) ?_ | ((with_reducible refine SL.p ?_); first | refine ⟨_, rfl, ?_⟩ | refine ⟨_, _, _, rfl, ?_⟩ | (refine ⟨?_, rfl, ?_⟩; focus (simp; done))) | ((with_reducible first | apply i_ldn | apply i_ldnq); exact rfl; exact rfl; exact rfl) | ((try with_reducible refine d_reg ?_); simp only [go_sem, Nat.reduceAdd, Nat.reduceEqDiff, Int.reduceToNat, Nat.reduceMul, Nat.reduceSub]) | clear hK K)
    refine i_sn hR rcl_len hx rfl ?_
    refine i_clp FF ?_
    refine i_clq AP ?_
    repeat' ((fail_if_success with_reducible refine nph ?_); first | (with_reducible first | (refine d_seq ?_; intro K hK) | (refine hK _ _ ?_; clear hK K) | (refine SG.p ?_; try intro b)) | ((with_reducible refine SC.p ?_); refine And.intro ?_ ?_) <;> intro hc <;> try simp only [push_cast, Int.reduceEq, Int.reduceLT, Int.reduceLE, Int.reduceNe] at hc | with_reducible refine r_rq (by first | decide | omega) ?_ | ((with_reducible refine SL.p ?_); first | refine ⟨_, rfl, ?_⟩ | refine ⟨_, _, _, rfl, ?_⟩ | (refine ⟨?_, rfl, ?_⟩; focus (simp; done))) | ((with_reducible first | apply i_ldn | apply i_ldnq); exact rfl; exact rfl; exact rfl) | ((try with_reducible refine d_reg ?_); simp only [go_sem, Nat.reduceAdd, Nat.reduceEqDiff, Int.reduceToNat, Nat.reduceMul, Nat.reduceSub]) | clear hK K)
    · obtain ⟨e1, e2, _⟩ := hok1 (by assumption) (by assumption)
      have hf : cc.frame = (cc.frame.1, 0) := Prod.ext rfl (by assumption)
      rw [e1, show ({ l1 q (siz ps m) 1 ps with all := (l1 q (siz ps m) 1 ps).all ++ cc.frame.1 } : Lg) = l1 q (siz (ps ++ [(cc.frame.1, cc)]) m) 1 (ps ++ [(cc.frame.1, cc)]) by rw [siz_app _ _ i5]; simp only [l1, flat_snoc]] at WA ⊢
      refine i_app (t := 9) (sz := 1) (m := 1) (news := [str cc.frame.1]) (op, on, oc) 16 (by kernel_rfl) (by decide) rfl rfl (by dsimp only; omega) fun o ho _ => ?_
      rw [strs_snoc ps _ cc]
      have hp2 := hps.snoc hsh hf
      have hl2 : (ps ++ [(cc.frame.1, cc)]).length = ps.length + 1 := by rw [List.length_append]; rfl
      have ho2 : o.2.1 = (ps ++ [(cc.frame.1, cc)]).length := by dsimp only at ho; rw [ho, i3, hl2]
      generalize ps ++ [(cc.frame.1, cc)] = ps' at *
      obtain ⟨V', ρ', FL, WV⟩ := flush ps' m WA
      obtain ⟨o1, o2, o3⟩ := o
      dsimp only at ho2
      subst ho2
      repeat' ((fail_if_success with_reducible refine nph ?_); first | (with_reducible first | (refine d_seq ?_; intro K hK) | (refine hK _ _ ?_; clear hK K) | (refine SG.p ?_; try intro b)) | ((with_reducible refine SC.p ?_); refine And.intro ?_ ?_) <;> intro hc <;> try simp only [push_cast, Int.reduceEq, Int.reduceLT, Int.reduceLE, Int.reduceNe] at hc | with_reducible refine r_rq (by first | decide | omega) ?_ | ((with_reducible refine SL.p ?_); first | refine ⟨_, rfl, ?_⟩ | refine ⟨_, _, _, rfl, ?_⟩ | (refine ⟨?_, rfl, ?_⟩; focus (simp; done))) | ((with_reducible first | apply i_ldn | apply i_ldnq); exact rfl; exact rfl; exact rfl) | ((try with_reducible refine d_reg ?_); simp only [go_sem, Nat.reduceAdd, Nat.reduceEqDiff, Int.reduceToNat, Nat.reduceMul, Nat.reduceSub]) | clear hK K)
      · refine i_clq FL ?_
        repeat' ((fail_if_success with_reducible refine nph ?_); first | (with_reducible first | (refine d_seq ?_; intro K hK) | (refine hK _ _ ?_; clear hK K) | (refine SG.p ?_; try intro b)) | ((with_reducible refine SC.p ?_); refine And.intro ?_ ?_) <;> intro hc <;> try simp only [push_cast, Int.reduceEq, Int.reduceLT, Int.reduceLE, Int.reduceNe] at hc | with_reducible refine r_rq (by first | decide | omega) ?_ | ((with_reducible refine SL.p ?_); first | refine ⟨_, rfl, ?_⟩ | refine ⟨_, _, _, rfl, ?_⟩ | (refine ⟨?_, rfl, ?_⟩; focus (simp; done))) | ((with_reducible first | apply i_ldn | apply i_ldnq); exact rfl; exact rfl; exact rfl) | ((try with_reducible refine d_reg ?_); simp only [go_sem, Nat.reduceAdd, Nat.reduceEqDiff, Int.reduceToNat, Nat.reduceMul, Nat.reduceSub]) | clear hK K)
        all_goals try (first | contradiction | (simp only [ reduceCtorEq] at *; done) | (exfalso; omega))
        rw [w64 (by omega) (by omega)]
        exact i_bk (i + 1, ps', (o1, ps'.length, o3), ps'.length, V') rfl ⟨by dsimp only; omega, hp2, rfl, by dsimp only; omega, Nat.le_refl _, ρ', WV⟩ (by dsimp only; omega)
      · rw [w64 (by omega) (by omega)]
        exact i_bk (i + 1, ps', (o1, ps'.length, o3), m, V) rfl ⟨by dsimp only; omega, hp2, rfl, by dsimp only; omega, by dsimp only; omega, ρ2, WA⟩ (by dsimp only; omega)
    all_goals (first | rw [hno1 (.inr (by assumption))] at WA ⊢ | rw [hno1 (.inl (by assumption))] at WA ⊢)
    all_goals (obtain ⟨V', ρ', FL, WV⟩ := flush ps m WA)
    all_goals subst i3
    all_goals first
      | (refine i_clq FL ?_
         repeat' ((fail_if_success with_reducible refine nph ?_); first | (with_reducible first | (refine d_seq ?_; intro K hK) | (refine hK _ _ ?_; clear hK K) | (refine SG.p ?_; try intro b)) | ((with_reducible refine SC.p ?_); refine And.intro ?_ ?_) <;> intro hc <;> try simp only [push_cast, Int.reduceEq, Int.reduceLT, Int.reduceLE, Int.reduceNe] at hc | with_reducible refine r_rq (by first | decide | omega) ?_ | ((with_reducible refine SL.p ?_); first | refine ⟨_, rfl, ?_⟩ | refine ⟨_, _, _, rfl, ?_⟩ | (refine ⟨?_, rfl, ?_⟩; focus (simp; done))) | ((with_reducible first | apply i_ldn | apply i_ldnq); exact rfl; exact rfl; exact rfl) | ((try with_reducible refine d_reg ?_); simp only [go_sem, Nat.reduceAdd, Nat.reduceEqDiff, Int.reduceToNat, Nat.reduceMul, Nat.reduceSub]) | clear hK K)
         all_goals try (first | contradiction | (simp only [ reduceCtorEq] at *; done) | (exfalso; omega))
         rw [w64 (by omega) (by omega)]
         exact i_bk (i + 1, ps, (op, ps.length, oc), ps.length, V') rfl ⟨by dsimp only; omega, hps, rfl, by dsimp only; omega, Nat.le_refl _, ρ', WV⟩ (by dsimp only; omega))
      | (rw [w64 (by omega) (by omega)]
         exact i_bk (i + 1, ps, (op, ps.length, oc), m, V) rfl ⟨by dsimp only; omega, hps, rfl, by dsimp only; omega, by dsimp only; omega, ρ2, WA⟩ (by dsimp only; omega))
  · subst i3
    have hl : (flat ps).length ≤ 1740 := hWi.ok.le
    have hlm : ps.length ≤ (flat ps).length := by
      have := frs_len hps.frs
      rw [List.length_map] at this
      exact this
    obtain ⟨G, hG⟩ : ∃ G : Lg, G = l1 q (siz ps m) 1 ps := ⟨_, rfl⟩
    have hGq : G.q = q := by rw [hG]
    have hall : G.all = flat ps := by rw [hG]
    have hdur : G.durable = siz ps m := by rw [hG]
    rw [← hG]
    subst hGq
    clear hG hWi
    repeat' ((fail_if_success with_reducible refine nph ?_); first | (with_reducible first | (refine d_seq ?_; intro K hK) | (refine hK _ _ ?_; clear hK K) | (refine SG.p ?_; try intro b)) | ((with_reducible refine SC.p ?_); refine And.intro ?_ ?_) <;> intro hc <;> try simp only [push_cast, Int.reduceEq, Int.reduceLT, Int.reduceLE, Int.reduceNe] at hc | with_reducible refine r_rq (by first | decide | omega) ?_ | ((with_reducible refine SL.p ?_); first | refine ⟨_, rfl, ?_⟩ | refine ⟨_, _, _, rfl, ?_⟩ | (refine ⟨?_, rfl, ?_⟩; focus (simp; done))) | ((with_reducible first | apply i_ldn | apply i_ldnq); exact rfl; exact rfl; exact rfl) | ((try with_reducible refine d_reg ?_); simp only [go_sem, Nat.reduceAdd, Nat.reduceEqDiff, Int.reduceToNat, Nat.reduceMul, Nat.reduceSub]) | clear hK K)
    all_goals try (exfalso; omega)
    all_goals
      refine d_lp [2, 3, 11, 13, 19, 20] (fun t : Int × Nat => [(2, .int .i64 lsn), (3, .int .i64 most), (11, .pointer (some ⟨G.q, 0, none⟩)), (13, .pointer (some ⟨pb, 0, none⟩)), (19, .int .i64 t.1), (20, .int .i64 (t.2 : Int))])
        (fun _ => lgp G sb :: dk V :: pl pb (op, ps.length, oc) m :: ow 9 1 (op, ps.length, oc) (strs ps) :: A :: L)
        (fun t => t.2 ≤ ps.length + 1 ∧ ((t.1 = -1 ∧ ∀ j, j < t.2 → ((1 + siz ps j : Nat) : Int) ≠ lsn) ∨ ∃ j : Nat, j < t.2 ∧ t.1 = (j : Int) ∧ ((1 + siz ps j : Nat) : Int) = lsn)) (fun t => ps.length + 1 - t.2) (-1, 0) rfl SX.p ⟨Nat.zero_le _, .inl ⟨rfl, fun j hj => (by cases hj)⟩⟩ ?_
      rintro ⟨k, j⟩ ⟨j1, j2⟩
      dsimp only at j1 j2 ⊢
      by_cases hj : j ≤ ps.length
      · have SZ := g34 pb (op, ps.length, oc) m ps rfl (by omega) (by omega) (j : Int)
        rw [Int.toNat_natCast] at SZ
        have hsj : siz ps j ≤ (flat ps).length := flat_le ps j
        have e1 : IntKind.wrap .i64 (1 + ((siz ps j : Nat) : Int)) = ((1 + siz ps j : Nat) : Int) := by rw [w64 (by omega) (by omega)]; omega
        by_cases hq : ((1 + siz ps j : Nat) : Int) = lsn
        · repeat' ((fail_if_success with_reducible refine nph ?_); first | (with_reducible first | (refine d_seq ?_; intro K hK) | (refine hK _ _ ?_; clear hK K) | (refine SG.p ?_; try intro b)) | ((with_reducible refine SC.p ?_); refine And.intro ?_ ?_) <;> intro hc <;> try simp only [push_cast, Int.reduceEq, Int.reduceLT, Int.reduceLE, Int.reduceNe] at hc | with_reducible refine r_rq (by first | decide | omega) ?_ | ((with_reducible refine SL.p ?_); first | refine ⟨_, rfl, ?_⟩ | refine ⟨_, _, _, rfl, ?_⟩ | (refine ⟨?_, rfl, ?_⟩; focus (simp; done))) | ((with_reducible first | apply i_ldn | apply i_ldnq); exact rfl; exact rfl; exact rfl) | ((try with_reducible refine d_reg ?_); simp only [go_sem, Nat.reduceAdd, Nat.reduceEqDiff, Int.reduceToNat, Nat.reduceMul, Nat.reduceSub]) | clear hK K)
          all_goals try (exfalso; omega)
          refine i_clp SZ ?_
          rw [e1, hq]
          repeat' ((fail_if_success with_reducible refine nph ?_); first | (with_reducible first | (refine d_seq ?_; intro K hK) | (refine hK _ _ ?_; clear hK K) | (refine SG.p ?_; try intro b)) | ((with_reducible refine SC.p ?_); refine And.intro ?_ ?_) <;> intro hc <;> try simp only [push_cast, Int.reduceEq, Int.reduceLT, Int.reduceLE, Int.reduceNe] at hc | with_reducible refine r_rq (by first | decide | omega) ?_ | ((with_reducible refine SL.p ?_); first | refine ⟨_, rfl, ?_⟩ | refine ⟨_, _, _, rfl, ?_⟩ | (refine ⟨?_, rfl, ?_⟩; focus (simp; done))) | ((with_reducible first | apply i_ldn | apply i_ldnq); exact rfl; exact rfl; exact rfl) | ((try with_reducible refine d_reg ?_); simp only [go_sem, Nat.reduceAdd, Nat.reduceEqDiff, Int.reduceToNat, Nat.reduceMul, Nat.reduceSub]) | clear hK K)
          all_goals try (exfalso; omega)
          all_goals try contradiction
          rw [w64 (by omega) (by omega)]
          exact i_bk ((j : Int), j + 1) rfl ⟨by dsimp only; omega, .inr ⟨j, Nat.lt_succ_self _, rfl, hq⟩⟩ (by dsimp only; omega)
        · repeat' ((fail_if_success with_reducible refine nph ?_); first | (with_reducible first | (refine d_seq ?_; intro K hK) | (refine hK _ _ ?_; clear hK K) | (refine SG.p ?_; try intro b)) | ((with_reducible refine SC.p ?_); refine And.intro ?_ ?_) <;> intro hc <;> try simp only [push_cast, Int.reduceEq, Int.reduceLT, Int.reduceLE, Int.reduceNe] at hc | with_reducible refine r_rq (by first | decide | omega) ?_ | ((with_reducible refine SL.p ?_); first | refine ⟨_, rfl, ?_⟩ | refine ⟨_, _, _, rfl, ?_⟩ | (refine ⟨?_, rfl, ?_⟩; focus (simp; done))) | ((with_reducible first | apply i_ldn | apply i_ldnq); exact rfl; exact rfl; exact rfl) | ((try with_reducible refine d_reg ?_); simp only [go_sem, Nat.reduceAdd, Nat.reduceEqDiff, Int.reduceToNat, Nat.reduceMul, Nat.reduceSub]) | clear hK K)
          all_goals try (exfalso; omega)
          refine i_clp SZ ?_
          rw [e1]
          generalize hsz : ((1 + siz ps j : Nat) : Int) = sz at *
          repeat' ((fail_if_success with_reducible refine nph ?_); first | (with_reducible first | (refine d_seq ?_; intro K hK) | (refine hK _ _ ?_; clear hK K) | (refine SG.p ?_; try intro b)) | ((with_reducible refine SC.p ?_); refine And.intro ?_ ?_) <;> intro hc <;> try simp only [push_cast, Int.reduceEq, Int.reduceLT, Int.reduceLE, Int.reduceNe] at hc | with_reducible refine r_rq (by first | decide | omega) ?_ | ((with_reducible refine SL.p ?_); first | refine ⟨_, rfl, ?_⟩ | refine ⟨_, _, _, rfl, ?_⟩ | (refine ⟨?_, rfl, ?_⟩; focus (simp; done))) | ((with_reducible first | apply i_ldn | apply i_ldnq); exact rfl; exact rfl; exact rfl) | ((try with_reducible refine d_reg ?_); simp only [go_sem, Nat.reduceAdd, Nat.reduceEqDiff, Int.reduceToNat, Nat.reduceMul, Nat.reduceSub]) | clear hK K)
          all_goals try (exfalso; omega)
          all_goals try contradiction
          rw [w64 (by omega) (by omega)]
          refine i_bk (k, j + 1) rfl ⟨by dsimp only; omega, ?_⟩ (by dsimp only; omega)
          rcases j2 with ⟨h1, h2⟩ | ⟨z, h1, h2, h3⟩
          · left
            refine ⟨h1, fun z hz => ?_⟩
            rcases Nat.lt_or_ge z j with y | y
            · exact h2 z y
            · obtain rfl : z = j := by dsimp only at hz; omega
              rw [hsz]
              exact hq
          · exact .inr ⟨z, by dsimp only; omega, h2, h3⟩
      · obtain rfl : j = ps.length + 1 := by omega
        have BD := g32 G sb (by rw [hall]; omega) lsn
        rw [bound_is hall hps (k := k) (lsn := lsn) (by
          rcases j2 with ⟨h1, h2⟩ | ⟨z, h1, h2, h3⟩
          · exact .inl ⟨h1, fun z hz => h2 z (by omega)⟩
          · exact .inr ⟨z, by omega, h2, h3⟩)] at BD
        have hk36 : k = -1 ∨ ∃ z : Nat, z ≤ ps.length ∧ k = (z : Int) ∧ ((1 + siz ps z : Nat) : Int) = lsn := by
          rcases j2 with ⟨h1, h2⟩ | ⟨z, h1, h2, h3⟩
          · exact .inl h1
          · exact .inr ⟨z, by omega, h2, h3⟩
        have FI := g36 G sb pb (op, ps.length, oc) ps m k lsn most rfl hall hps hl hdur i5 hk36 hw2
        have RD := g35 G sb (by rw [hall]; omega) lsn
        have EN := g28 G sb (by rw [hall]; omega)
        rw [hall] at EN
        repeat' ((fail_if_success with_reducible refine nph ?_); first | (with_reducible first | (refine d_seq ?_; intro K hK) | (refine hK _ _ ?_; clear hK K) | (refine SG.p ?_; try intro b)) | ((with_reducible refine SC.p ?_); refine And.intro ?_ ?_) <;> intro hc <;> try simp only [push_cast, Int.reduceEq, Int.reduceLT, Int.reduceLE, Int.reduceNe] at hc | with_reducible refine r_rq (by first | decide | omega) ?_ | ((with_reducible refine SL.p ?_); first | refine ⟨_, rfl, ?_⟩ | refine ⟨_, _, _, rfl, ?_⟩ | (refine ⟨?_, rfl, ?_⟩; focus (simp; done))) | ((with_reducible first | apply i_ldn | apply i_ldnq); exact rfl; exact rfl; exact rfl) | ((try with_reducible refine d_reg ?_); simp only [go_sem, Nat.reduceAdd, Nat.reduceEqDiff, Int.reduceToNat, Nat.reduceMul, Nat.reduceSub]) | clear hK K)
        all_goals try (exfalso; omega)
        refine i_clp BD ?_
        repeat' ((fail_if_success with_reducible refine nph ?_); first | (with_reducible first | (refine d_seq ?_; intro K hK) | (refine hK _ _ ?_; clear hK K) | (refine SG.p ?_; try intro b)) | ((with_reducible refine SC.p ?_); refine And.intro ?_ ?_) <;> intro hc <;> try simp only [push_cast, Int.reduceEq, Int.reduceLT, Int.reduceLE, Int.reduceNe] at hc | with_reducible refine r_rq (by first | decide | omega) ?_ | ((with_reducible refine SL.p ?_); first | refine ⟨_, rfl, ?_⟩ | refine ⟨_, _, _, rfl, ?_⟩ | (refine ⟨?_, rfl, ?_⟩; focus (simp; done))) | ((with_reducible first | apply i_ldn | apply i_ldnq); exact rfl; exact rfl; exact rfl) | ((try with_reducible refine d_reg ?_); simp only [go_sem, Nat.reduceAdd, Nat.reduceEqDiff, Int.reduceToNat, Nat.reduceMul, Nat.reduceSub]) | clear hK K)
        refine i_cal RD ?_
        rintro ⟨⟨k1, k2, k3, k4, k5, k6, k7, k8, k9, k10, k11, k12, k13⟩, y⟩ X ⟨A', rfl, hr, hy⟩
        dsimp only at hr hy
        subst hy
        dsimp only [List.cons_append, List.nil_append]
        by_cases hin : lsn < 1 ∨ ((flat ps).length : Int) < lsn
        · have e : G.read lsn = (Rc.z 0, 0, 8) := by unfold Lg.read; rw [hall, if_pos hin]
          rw [e]
          repeat' ((fail_if_success with_reducible refine nph ?_); first | (with_reducible first | (refine d_seq ?_; intro K hK) | (refine hK _ _ ?_; clear hK K) | (refine SG.p ?_; try intro b)) | ((with_reducible refine SC.p ?_); refine And.intro ?_ ?_) <;> intro hc <;> try simp only [push_cast, Int.reduceEq, Int.reduceLT, Int.reduceLE, Int.reduceNe] at hc | with_reducible refine r_rq (by first | decide | omega) ?_ | ((with_reducible refine SL.p ?_); first | refine ⟨_, rfl, ?_⟩ | refine ⟨_, _, _, rfl, ?_⟩ | (refine ⟨?_, rfl, ?_⟩; focus (simp; done))) | ((with_reducible first | apply i_ldn | apply i_ldnq); exact rfl; exact rfl; exact rfl) | ((try with_reducible refine d_reg ?_); simp only [go_sem, Nat.reduceAdd, Nat.reduceEqDiff, Int.reduceToNat, Nat.reduceMul, Nat.reduceSub]) | clear hK K)
          all_goals try (exfalso; omega)
          all_goals try contradiction
          · refine i_clp FI ?_
            repeat' ((fail_if_success with_reducible refine nph ?_); first | (with_reducible first | (refine d_seq ?_; intro K hK) | (refine hK _ _ ?_; clear hK K) | (refine SG.p ?_; try intro b)) | ((with_reducible refine SC.p ?_); refine And.intro ?_ ?_) <;> intro hc <;> try simp only [push_cast, Int.reduceEq, Int.reduceLT, Int.reduceLE, Int.reduceNe] at hc | with_reducible refine r_rq (by first | decide | omega) ?_ | ((with_reducible refine SL.p ?_); first | refine ⟨_, rfl, ?_⟩ | refine ⟨_, _, _, rfl, ?_⟩ | (refine ⟨?_, rfl, ?_⟩; focus (simp; done))) | ((with_reducible first | apply i_ldn | apply i_ldnq); exact rfl; exact rfl; exact rfl) | ((try with_reducible refine d_reg ?_); simp only [go_sem, Nat.reduceAdd, Nat.reduceEqDiff, Int.reduceToNat, Nat.reduceMul, Nat.reduceSub]) | clear hK K)
            refine i_clp g15 ?_
            repeat' ((fail_if_success with_reducible refine nph ?_); first | (with_reducible first | (refine d_seq ?_; intro K hK) | (refine hK _ _ ?_; clear hK K) | (refine SG.p ?_; try intro b)) | ((with_reducible refine SC.p ?_); refine And.intro ?_ ?_) <;> intro hc <;> try simp only [push_cast, Int.reduceEq, Int.reduceLT, Int.reduceLE, Int.reduceNe] at hc | with_reducible refine r_rq (by first | decide | omega) ?_ | ((with_reducible refine SL.p ?_); first | refine ⟨_, rfl, ?_⟩ | refine ⟨_, _, _, rfl, ?_⟩ | (refine ⟨?_, rfl, ?_⟩; focus (simp; done))) | ((with_reducible first | apply i_ldn | apply i_ldnq); exact rfl; exact rfl; exact rfl) | ((try with_reducible refine d_reg ?_); simp only [go_sem, Nat.reduceAdd, Nat.reduceEqDiff, Int.reduceToNat, Nat.reduceMul, Nat.reduceSub]) | clear hK K)
            (with_reducible first | apply i_ret0 | apply i_ret2 | apply i_ret3 | apply i_ret); exact rfl
            rfl
          · refine i_clp EN ?_
            repeat' ((fail_if_success with_reducible refine nph ?_); first | (with_reducible first | (refine d_seq ?_; intro K hK) | (refine hK _ _ ?_; clear hK K) | (refine SG.p ?_; try intro b)) | ((with_reducible refine SC.p ?_); refine And.intro ?_ ?_) <;> intro hc <;> try simp only [push_cast, Int.reduceEq, Int.reduceLT, Int.reduceLE, Int.reduceNe] at hc | with_reducible refine r_rq (by first | decide | omega) ?_ | ((with_reducible refine SL.p ?_); first | refine ⟨_, rfl, ?_⟩ | refine ⟨_, _, _, rfl, ?_⟩ | (refine ⟨?_, rfl, ?_⟩; focus (simp; done))) | ((with_reducible first | apply i_ldn | apply i_ldnq); exact rfl; exact rfl; exact rfl) | ((try with_reducible refine d_reg ?_); simp only [go_sem, Nat.reduceAdd, Nat.reduceEqDiff, Int.reduceToNat, Nat.reduceMul, Nat.reduceSub]) | clear hK K)
            all_goals try (exfalso; omega)
            all_goals try contradiction
            refine i_clp FI ?_
            repeat' ((fail_if_success with_reducible refine nph ?_); first | (with_reducible first | (refine d_seq ?_; intro K hK) | (refine hK _ _ ?_; clear hK K) | (refine SG.p ?_; try intro b)) | ((with_reducible refine SC.p ?_); refine And.intro ?_ ?_) <;> intro hc <;> try simp only [push_cast, Int.reduceEq, Int.reduceLT, Int.reduceLE, Int.reduceNe] at hc | with_reducible refine r_rq (by first | decide | omega) ?_ | ((with_reducible refine SL.p ?_); first | refine ⟨_, rfl, ?_⟩ | refine ⟨_, _, _, rfl, ?_⟩ | (refine ⟨?_, rfl, ?_⟩; focus (simp; done))) | ((with_reducible first | apply i_ldn | apply i_ldnq); exact rfl; exact rfl; exact rfl) | ((try with_reducible refine d_reg ?_); simp only [go_sem, Nat.reduceAdd, Nat.reduceEqDiff, Int.reduceToNat, Nat.reduceMul, Nat.reduceSub]) | clear hK K)
            refine i_clp g15 ?_
            repeat' ((fail_if_success with_reducible refine nph ?_); first | (with_reducible first | (refine d_seq ?_; intro K hK) | (refine hK _ _ ?_; clear hK K) | (refine SG.p ?_; try intro b)) | ((with_reducible refine SC.p ?_); refine And.intro ?_ ?_) <;> intro hc <;> try simp only [push_cast, Int.reduceEq, Int.reduceLT, Int.reduceLE, Int.reduceNe] at hc | with_reducible refine r_rq (by first | decide | omega) ?_ | ((with_reducible refine SL.p ?_); first | refine ⟨_, rfl, ?_⟩ | refine ⟨_, _, _, rfl, ?_⟩ | (refine ⟨?_, rfl, ?_⟩; focus (simp; done))) | ((with_reducible first | apply i_ldn | apply i_ldnq); exact rfl; exact rfl; exact rfl) | ((try with_reducible refine d_reg ?_); simp only [go_sem, Nat.reduceAdd, Nat.reduceEqDiff, Int.reduceToNat, Nat.reduceMul, Nat.reduceSub]) | clear hK K)
            (with_reducible first | apply i_ret0 | apply i_ret2 | apply i_ret3 | apply i_ret); exact rfl
            rfl
        · rcases hk36 with rfl | ⟨z, z1, rfl, hzl⟩
          · generalize G.read lsn = RR at *
            repeat' ((fail_if_success with_reducible refine nph ?_); first | (with_reducible first | (refine d_seq ?_; intro K hK) | (refine hK _ _ ?_; clear hK K) | (refine SG.p ?_; try intro b)) | ((with_reducible refine SC.p ?_); refine And.intro ?_ ?_) <;> intro hc <;> try simp only [push_cast, Int.reduceEq, Int.reduceLT, Int.reduceLE, Int.reduceNe] at hc | with_reducible refine r_rq (by first | decide | omega) ?_ | ((with_reducible refine SL.p ?_); first | refine ⟨_, rfl, ?_⟩ | refine ⟨_, _, _, rfl, ?_⟩ | (refine ⟨?_, rfl, ?_⟩; focus (simp; done))) | ((with_reducible first | apply i_ldn | apply i_ldnq); exact rfl; exact rfl; exact rfl) | ((try with_reducible refine d_reg ?_); simp only [go_sem, Nat.reduceAdd, Nat.reduceEqDiff, Int.reduceToNat, Nat.reduceMul, Nat.reduceSub]) | clear hK K)
            all_goals try (exfalso; omega)
            refine i_clp EN ?_
            repeat' ((fail_if_success with_reducible refine nph ?_); first | (with_reducible first | (refine d_seq ?_; intro K hK) | (refine hK _ _ ?_; clear hK K) | (refine SG.p ?_; try intro b)) | ((with_reducible refine SC.p ?_); refine And.intro ?_ ?_) <;> intro hc <;> try simp only [push_cast, Int.reduceEq, Int.reduceLT, Int.reduceLE, Int.reduceNe] at hc | with_reducible refine r_rq (by first | decide | omega) ?_ | ((with_reducible refine SL.p ?_); first | refine ⟨_, rfl, ?_⟩ | refine ⟨_, _, _, rfl, ?_⟩ | (refine ⟨?_, rfl, ?_⟩; focus (simp; done))) | ((with_reducible first | apply i_ldn | apply i_ldnq); exact rfl; exact rfl; exact rfl) | ((try with_reducible refine d_reg ?_); simp only [go_sem, Nat.reduceAdd, Nat.reduceEqDiff, Int.reduceToNat, Nat.reduceMul, Nat.reduceSub]) | clear hK K)
            all_goals try (exfalso; omega)
            all_goals try contradiction
            refine i_clp FI ?_
            repeat' ((fail_if_success with_reducible refine nph ?_); first | (with_reducible first | (refine d_seq ?_; intro K hK) | (refine hK _ _ ?_; clear hK K) | (refine SG.p ?_; try intro b)) | ((with_reducible refine SC.p ?_); refine And.intro ?_ ?_) <;> intro hc <;> try simp only [push_cast, Int.reduceEq, Int.reduceLT, Int.reduceLE, Int.reduceNe] at hc | with_reducible refine r_rq (by first | decide | omega) ?_ | ((with_reducible refine SL.p ?_); first | refine ⟨_, rfl, ?_⟩ | refine ⟨_, _, _, rfl, ?_⟩ | (refine ⟨?_, rfl, ?_⟩; focus (simp; done))) | ((with_reducible first | apply i_ldn | apply i_ldnq); exact rfl; exact rfl; exact rfl) | ((try with_reducible refine d_reg ?_); simp only [go_sem, Nat.reduceAdd, Nat.reduceEqDiff, Int.reduceToNat, Nat.reduceMul, Nat.reduceSub]) | clear hK K)
            refine i_clp g15 ?_
            repeat' ((fail_if_success with_reducible refine nph ?_); first | (with_reducible first | (refine d_seq ?_; intro K hK) | (refine hK _ _ ?_; clear hK K) | (refine SG.p ?_; try intro b)) | ((with_reducible refine SC.p ?_); refine And.intro ?_ ?_) <;> intro hc <;> try simp only [push_cast, Int.reduceEq, Int.reduceLT, Int.reduceLE, Int.reduceNe] at hc | with_reducible refine r_rq (by first | decide | omega) ?_ | ((with_reducible refine SL.p ?_); first | refine ⟨_, rfl, ?_⟩ | refine ⟨_, _, _, rfl, ?_⟩ | (refine ⟨?_, rfl, ?_⟩; focus (simp; done))) | ((with_reducible first | apply i_ldn | apply i_ldnq); exact rfl; exact rfl; exact rfl) | ((try with_reducible refine d_reg ?_); simp only [go_sem, Nat.reduceAdd, Nat.reduceEqDiff, Int.reduceToNat, Nat.reduceMul, Nat.reduceSub]) | clear hK K)
            (with_reducible first | apply i_ret0 | apply i_ret2 | apply i_ret3 | apply i_ret); exact rfl
            rfl
          · have hzlt : z < ps.length := by
              rcases Nat.lt_or_ge z ps.length with y | y
              · exact y
              · have := siz_all ps
                obtain rfl : z = ps.length := by omega
                omega
            have hx : ps[z]? = some ps[z] := List.getElem?_eq_getElem hzlt
            have hpx := (hps ps[z] (List.getElem_mem _)).2
            have h7 := frame_len (hps ps[z] (List.getElem_mem _)).1 hpx
            have hs : (strs ps)[z]? = some (str ps[z].1) := by simp [strs, hx]
            have hri := read_is hall hps hx
            rw [hzl] at hri
            generalize ps[z] = x at *
            rw [hri] at hr
            rw [hri]
            dsimp only at hr
            have FRx := g18 A' ⟨k1, k2, k3, k4, k5, k6, k7, k8, k9, k10, k11, k12, k13⟩ x.2.clean hr
            rw [frame_clean, hpx] at FRx
            refine i_ow (t := 9) (sz := 1) (op, ps.length, oc) fun hRs => ?_
            obtain ⟨a1, rfl⟩ := hRs.ptr (by omega)
            have ew : IntKind.wrap .i64 (lsn + (x.1.length : Int)) = lsn + (x.1.length : Int) := w64 (by omega) (by omega)
            repeat' ((fail_if_success with_reducible refine nph ?_); first | (with_reducible first | (refine d_seq ?_; intro K hK) | (refine hK _ _ ?_; clear hK K) | (refine SG.p ?_; try intro b)) | ((with_reducible refine SC.p ?_); refine And.intro ?_ ?_) <;> intro hc <;> try simp only [push_cast, Int.reduceEq, Int.reduceLT, Int.reduceLE, Int.reduceNe] at hc | with_reducible refine r_rq (by first | decide | omega) ?_ | ((with_reducible refine SL.p ?_); first | refine ⟨_, rfl, ?_⟩ | refine ⟨_, _, _, rfl, ?_⟩ | (refine ⟨?_, rfl, ?_⟩; focus (simp; done))) | ((with_reducible first | apply i_ldn | apply i_ldnq); exact rfl; exact rfl; exact rfl) | ((try with_reducible refine d_reg ?_); simp only [go_sem, Nat.reduceAdd, Nat.reduceEqDiff, Int.reduceToNat, Nat.reduceMul, Nat.reduceSub]) | clear hK K)
            all_goals try (exfalso; omega)
            refine i_clp EN ?_
            repeat' ((fail_if_success with_reducible refine nph ?_); first | (with_reducible first | (refine d_seq ?_; intro K hK) | (refine hK _ _ ?_; clear hK K) | (refine SG.p ?_; try intro b)) | ((with_reducible refine SC.p ?_); refine And.intro ?_ ?_) <;> intro hc <;> try simp only [push_cast, Int.reduceEq, Int.reduceLT, Int.reduceLE, Int.reduceNe] at hc | with_reducible refine r_rq (by first | decide | omega) ?_ | ((with_reducible refine SL.p ?_); first | refine ⟨_, rfl, ?_⟩ | refine ⟨_, _, _, rfl, ?_⟩ | (refine ⟨?_, rfl, ?_⟩; focus (simp; done))) | ((with_reducible first | apply i_ldn | apply i_ldnq); exact rfl; exact rfl; exact rfl) | ((try with_reducible refine d_reg ?_); simp only [go_sem, Nat.reduceAdd, Nat.reduceEqDiff, Int.reduceToNat, Nat.reduceMul, Nat.reduceSub]) | clear hK K)
            all_goals try (exfalso; omega)
            all_goals try contradiction
            refine i_ldn (e := e_api_Rec) (x := ⟨k1, k2, k3, k4, k5, k6, k7, k8, k9, k10, k11, k12, k13⟩) rfl rfl rfl ?_
            refine i_clp FRx ?_
            repeat' ((fail_if_success with_reducible refine nph ?_); first | (with_reducible first | (refine d_seq ?_; intro K hK) | (refine hK _ _ ?_; clear hK K) | (refine SG.p ?_; try intro b)) | ((with_reducible refine SC.p ?_); refine And.intro ?_ ?_) <;> intro hc <;> try simp only [push_cast, Int.reduceEq, Int.reduceLT, Int.reduceLE, Int.reduceNe] at hc | with_reducible refine r_rq (by first | decide | omega) ?_ | ((with_reducible refine SL.p ?_); first | refine ⟨_, rfl, ?_⟩ | refine ⟨_, _, _, rfl, ?_⟩ | (refine ⟨?_, rfl, ?_⟩; focus (simp; done))) | ((with_reducible first | apply i_ldn | apply i_ldnq); exact rfl; exact rfl; exact rfl) | ((try with_reducible refine d_reg ?_); simp only [go_sem, Nat.reduceAdd, Nat.reduceEqDiff, Int.reduceToNat, Nat.reduceMul, Nat.reduceSub]) | clear hK K)
            all_goals try (exfalso; omega)
            all_goals try contradiction
            refine i_o1 (e := eS) (y := x.1) hs ?_
            repeat' (first | rw [ew] | (fail_if_success with_reducible refine nph ?_); first | (with_reducible first | (refine d_seq ?_; intro K hK) | (refine hK _ _ ?_; clear hK K) | (refine SG.p ?_; try intro b)) | ((with_reducible refine SC.p ?_); refine And.intro ?_ ?_) <;> intro hc <;> try simp only [push_cast, Int.reduceEq, Int.reduceLT, Int.reduceLE, Int.reduceNe] at hc | with_reducible refine r_rq (by first | decide | omega) ?_ | ((with_reducible refine SL.p ?_); first | refine ⟨_, rfl, ?_⟩ | refine ⟨_, _, _, rfl, ?_⟩ | (refine ⟨?_, rfl, ?_⟩; focus (simp; done))) | ((with_reducible first | apply i_ldn | apply i_ldnq); exact rfl; exact rfl; exact rfl) | ((try with_reducible refine d_reg ?_); simp only [go_sem, Nat.reduceAdd, Nat.reduceEqDiff, Int.reduceToNat, Nat.reduceMul, Nat.reduceSub]) | clear hK K)
            all_goals try contradiction
            refine i_clp FI ?_
            repeat' ((fail_if_success with_reducible refine nph ?_); first | (with_reducible first | (refine d_seq ?_; intro K hK) | (refine hK _ _ ?_; clear hK K) | (refine SG.p ?_; try intro b)) | ((with_reducible refine SC.p ?_); refine And.intro ?_ ?_) <;> intro hc <;> try simp only [push_cast, Int.reduceEq, Int.reduceLT, Int.reduceLE, Int.reduceNe] at hc | with_reducible refine r_rq (by first | decide | omega) ?_ | ((with_reducible refine SL.p ?_); first | refine ⟨_, rfl, ?_⟩ | refine ⟨_, _, _, rfl, ?_⟩ | (refine ⟨?_, rfl, ?_⟩; focus (simp; done))) | ((with_reducible first | apply i_ldn | apply i_ldnq); exact rfl; exact rfl; exact rfl) | ((try with_reducible refine d_reg ?_); simp only [go_sem, Nat.reduceAdd, Nat.reduceEqDiff, Int.reduceToNat, Nat.reduceMul, Nat.reduceSub]) | clear hK K)
            refine i_clp g15 ?_
            repeat' ((fail_if_success with_reducible refine nph ?_); first | (with_reducible first | (refine d_seq ?_; intro K hK) | (refine hK _ _ ?_; clear hK K) | (refine SG.p ?_; try intro b)) | ((with_reducible refine SC.p ?_); refine And.intro ?_ ?_) <;> intro hc <;> try simp only [push_cast, Int.reduceEq, Int.reduceLT, Int.reduceLE, Int.reduceNe] at hc | with_reducible refine r_rq (by first | decide | omega) ?_ | ((with_reducible refine SL.p ?_); first | refine ⟨_, rfl, ?_⟩ | refine ⟨_, _, _, rfl, ?_⟩ | (refine ⟨?_, rfl, ?_⟩; focus (simp; done))) | ((with_reducible first | apply i_ldn | apply i_ldnq); exact rfl; exact rfl; exact rfl) | ((try with_reducible refine d_reg ?_); simp only [go_sem, Nat.reduceAdd, Nat.reduceEqDiff, Int.reduceToNat, Nat.reduceMul, Nat.reduceSub]) | clear hK K)
            (with_reducible first | apply i_ret0 | apply i_ret2 | apply i_ret3 | apply i_ret); exact rfl
            rfl
end Go.Sp
