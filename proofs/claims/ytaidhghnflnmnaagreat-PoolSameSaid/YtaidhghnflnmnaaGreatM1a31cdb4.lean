/- Texts of a proof, one behind the other: M5 Grr0 M6 M7 M8 M9 M10 M11 M12 M13 M14 Sh Gd0 D1 D2 D3 D4 D5 D6 D7 D10 D11 D12 Gw0. No condition. -/
import Derived.Test.YtaidhghnflnmnaaGreatM48f785a2
import Derived.Test.YtaidhghnflnmnaaGreatM42b0b307
import Derived.Shelf.Sort.Plain
import Derived.Shelf.Slices.In.SortNone
import Derived.Shelf.Strings.Repeat
import Derived.Shelf.Strings.Builder1
import Derived.Test.YtaidhghnflnmnaaGreatProg
namespace Go.Sp
open Go Go.Proofs
set_option linter.unusedSimpArgs false
set_option linter.unusedVariables false
set_option maxRecDepth 10000
def lnkc (x : Wt) (c : Rc) : Wt := layN (layN x c.txn 6) c.prev 6
def chgc0 (x : Wt) (c : Rc) (act : Int) : Wt := if act = 3 then layT (layN x c.page 2) c.key else layT (layT (layN x c.page 2) c.key) c.old
def chgc (x : Wt) (c : Rc) (act : Int) : Wt := if act = 4 then chgc0 x c act else layT (chgc0 x c act) c.nw
def tbg (x : Wt) (l : List api_Active) : Wt := l.foldl (fun x a => layN (layN x a.Txn 6) a.Last 6) x
def bfin (x : Wt) (e : Int) : Wt := if (if e = 0 then x.2 else e) = 0 then (if 4096 < x.1.length then ([], 3) else (x.1, 0)) else ([], if e = 0 then x.2 else e)
def Rc.body (c : Rc) : Wt :=
  if c.kind = 1 then (if c.imgs.length = 1 then bfin (ims (layN ([], 0) c.kind 1) c.imgs).1 (ims (layN ([], 0) c.kind 1) c.imgs).2 else ([], 4))
  else if c.kind = 2 then bfin (ims (layN ([], 0) c.kind 1) c.imgs).1 (ims (layN ([], 0) c.kind 1) c.imgs).2
  else if c.kind = 6 then (if c.act < 3 ∨ 5 < c.act then ([], 4) else bfin (chgc (layN (layN (lnkc (layN ([], 0) c.kind 1) c) c.next 6) c.act 1) c c.act) (cutP c.key c.old c.nw))
  else if c.kind = 3 ∨ c.kind = 4 ∨ c.kind = 5 then bfin (chgc (lnkc (layN ([], 0) c.kind 1) c) c c.kind) (cutP c.key c.old c.nw)
  else if c.kind = 7 ∨ c.kind = 8 then bfin (lnkc (layN ([], 0) c.kind 1) c) 0
  else if c.kind = 9 then bfin (tbg (layN (layN ([], 0) c.kind 1) (c.tbl.length : Int) 1) c.tbl) 0
  else if c.kind = 10 then bfin (layN (layN (layN ([], 0) c.kind 1) c.epoch 4) c.node 1) 0
  else ([], 1)
set_option maxHeartbeats 4000000 in
theorem g71 (A : HP) (r : api_Rec) (c : Rc) (h : RcAt A r c) : Fp (eT2 eS eI) Tryz.prog 71 #[v_api_Rec r] [A] c.body := fun L => by
  obtain ⟨e, hi, ht, li, lt⟩ := h
  obtain ⟨kind, txn, prev, page, act, key, old, nw, next, imgs, tbl, epoch, node⟩ := c
  obtain ⟨kind', txn', prev', page', act', key', old', nw', next', im, tb, epoch', node'⟩ := r
  simp only [Rc.of, Rc.mk.injEq] at e
  obtain ⟨rfl, rfl, rfl, rfl, rfl, rfl, rfl, rfl, rfl, _, _, rfl, rfl⟩ := e
  dsimp only at hi ht li lt
  have hin := hi.len2 cImg_len
  have htn := ht.len2 cAct_len
  obtain ⟨ip, iN, ic⟩ := im
  obtain ⟨tp, tN, tc⟩ := tb
  dsimp only at hin htn
  subst hin htn
  generalize hB : Rc.body _ = B
  unfold Rc.body at hB
  dsimp only at hB
  obtain ⟨rr, hrr⟩ : ∃ rr : api_Rec, rr = ⟨kind, txn, prev, page, act, key, old, nw, next, (ip, imgs.length, ic), (tp, tbl.length, tc), epoch, node⟩ := ⟨_, rfl⟩
  refine c71_fn rfl rfl ?_
  have K1 := layN_len ([], 0) kind 1
  dsimp only [List.length_nil] at K1
  refine d_seq ?_
  intro K0 hK0
  refine d_reg ?_
  simp only [go_sem]
  refine r_nwc ?_
  intro b1
  refine hK0 _ _ ?_
  clear hK0 K0
  refine d_seq ?_
  intro K0 hK0
  refine d_reg ?_
  simp only [go_sem]
  refine r_nwc ?_
  intro wb
  refine hK0 _ _ ?_
  clear hK0 K0
  refine d_seq ?_
  intro K0 hK0
  refine d_reg ?_
  simp only [go_sem]
  refine i_ld (e := eI) rfl ?_
  refine i_clq (gN _ ([], 0) kind 1 (by decide) (by decide) (by decide)) ?_
  refine hK0 _ _ ?_
  clear hK0 K0
  generalize layN ([], 0) kind 1 = x0 at *
  refine d_seq ?_
  intro K0 hK0
  refine d_reg ?_
  simp only [go_sem]
  refine hK0 _ _ ?_
  clear hK0 K0
  refine d_seq ?_
  intro K0 hK0
  have fin : ∀ (x : Wt) (e : Int) (tl : Env), bfin x e = B → E (wr wb x :: ar b1 36 [.int .i64 kind, .int .i64 txn, .int .i64 prev, .int .i64 page, .int .i64 act, str key, str old, str nw, .int .i64 next, .slice ip imgs.length ic, .slice tp tbl.length tc, .int .i64 epoch, .int .i64 node] :: A :: L) (K0 ((4, .pointer (some ⟨wb, 0, none⟩)) :: (5, .int .i64 e) :: tl)) := by
    intro x e tl hx
    subst hx
    refine hK0 _ _ ?_
    clear hK0 K0
    unfold bfin
    obtain ⟨t, f⟩ := x
    dsimp only
    by_cases he : e = 0
    · subst he
      rw [if_pos rfl]
      by_cases hf : f = 0
      · subst hf
        rw [if_pos rfl]
        by_cases hl : 4096 < t.length
        · rw [if_pos hl]
          repeat' ((fail_if_success with_reducible refine nph ?_); first | (with_reducible first | (refine d_seq ?_; intro K hK) | (refine hK _ _ ?_; clear hK K) | (refine SG.p ?_; try intro b) | refine r_rq (by first | decide | omega) ?_) | ((with_reducible refine SC.p ?_); refine aI ?_ ?_) <;> intro hc <;> try simp only [push_cast, seval] at hc | ((with_reducible refine SL.p ?_); first | refine ⟨_, rfl, ?_⟩ | refine ⟨_, _, _, rfl, ?_⟩ | (refine ⟨?_, rfl, ?_⟩; focus (simp; done))) | ((with_reducible first | apply i_ldn | apply i_ldnq); iterate 3 exact rfl) | ((try with_reducible refine d_reg ?_); simp only [go_sem]) | clear hK K)
          refine i_clp (f96 wb (t, 0)) ?_
          repeat' ((fail_if_success with_reducible refine nph ?_); first | (with_reducible first | (refine d_seq ?_; intro K hK) | (refine hK _ _ ?_; clear hK K) | (refine SG.p ?_; try intro b) | refine r_rq (by first | decide | omega) ?_) | ((with_reducible refine SC.p ?_); refine aI ?_ ?_) <;> intro hc <;> try simp only [push_cast, seval] at hc | ((with_reducible refine SL.p ?_); first | refine ⟨_, rfl, ?_⟩ | refine ⟨_, _, _, rfl, ?_⟩ | (refine ⟨?_, rfl, ?_⟩; focus (simp; done))) | ((with_reducible first | apply i_ldn | apply i_ldnq); iterate 3 exact rfl) | ((try with_reducible refine d_reg ?_); simp only [go_sem]) | clear hK K)
          all_goals try (first | contradiction | (simp only [ reduceCtorEq] at *; done) | (exfalso; omega))
          (with_reducible first | apply i_ret0 | apply i_ret2 | apply i_ret3 | apply i_ret); exact rfl
          rfl
        · rw [if_neg hl]
          repeat' ((fail_if_success with_reducible refine nph ?_); first | (with_reducible first | (refine d_seq ?_; intro K hK) | (refine hK _ _ ?_; clear hK K) | (refine SG.p ?_; try intro b) | refine r_rq (by first | decide | omega) ?_) | ((with_reducible refine SC.p ?_); refine aI ?_ ?_) <;> intro hc <;> try simp only [push_cast, seval] at hc | ((with_reducible refine SL.p ?_); first | refine ⟨_, rfl, ?_⟩ | refine ⟨_, _, _, rfl, ?_⟩ | (refine ⟨?_, rfl, ?_⟩; focus (simp; done))) | ((with_reducible first | apply i_ldn | apply i_ldnq); iterate 3 exact rfl) | ((try with_reducible refine d_reg ?_); simp only [go_sem]) | clear hK K)
          refine i_clp (f96 wb (t, 0)) ?_
          repeat' ((fail_if_success with_reducible refine nph ?_); first | (with_reducible first | (refine d_seq ?_; intro K hK) | (refine hK _ _ ?_; clear hK K) | (refine SG.p ?_; try intro b) | refine r_rq (by first | decide | omega) ?_) | ((with_reducible refine SC.p ?_); refine aI ?_ ?_) <;> intro hc <;> try simp only [push_cast, seval] at hc | ((with_reducible refine SL.p ?_); first | refine ⟨_, rfl, ?_⟩ | refine ⟨_, _, _, rfl, ?_⟩ | (refine ⟨?_, rfl, ?_⟩; focus (simp; done))) | ((with_reducible first | apply i_ldn | apply i_ldnq); iterate 3 exact rfl) | ((try with_reducible refine d_reg ?_); simp only [go_sem]) | clear hK K)
          all_goals try (first | contradiction | (simp only [ reduceCtorEq] at *; done) | (exfalso; omega))
          (with_reducible first | apply i_ret0 | apply i_ret2 | apply i_ret3 | apply i_ret); exact rfl
          rfl
      · rw [if_neg hf]
        repeat' ((fail_if_success with_reducible refine nph ?_); first | (with_reducible first | (refine d_seq ?_; intro K hK) | (refine hK _ _ ?_; clear hK K) | (refine SG.p ?_; try intro b) | refine r_rq (by first | decide | omega) ?_) | ((with_reducible refine SC.p ?_); refine aI ?_ ?_) <;> intro hc <;> try simp only [push_cast, seval] at hc | ((with_reducible refine SL.p ?_); first | refine ⟨_, rfl, ?_⟩ | refine ⟨_, _, _, rfl, ?_⟩ | (refine ⟨?_, rfl, ?_⟩; focus (simp; done))) | ((with_reducible first | apply i_ldn | apply i_ldnq); iterate 3 exact rfl) | ((try with_reducible refine d_reg ?_); simp only [go_sem]) | clear hK K)
        refine i_clp (f96 wb (t, f)) ?_
        repeat' ((fail_if_success with_reducible refine nph ?_); first | (with_reducible first | (refine d_seq ?_; intro K hK) | (refine hK _ _ ?_; clear hK K) | (refine SG.p ?_; try intro b) | refine r_rq (by first | decide | omega) ?_) | ((with_reducible refine SC.p ?_); refine aI ?_ ?_) <;> intro hc <;> try simp only [push_cast, seval] at hc | ((with_reducible refine SL.p ?_); first | refine ⟨_, rfl, ?_⟩ | refine ⟨_, _, _, rfl, ?_⟩ | (refine ⟨?_, rfl, ?_⟩; focus (simp; done))) | ((with_reducible first | apply i_ldn | apply i_ldnq); iterate 3 exact rfl) | ((try with_reducible refine d_reg ?_); simp only [go_sem]) | clear hK K)
        all_goals try (first | contradiction | (simp only [ reduceCtorEq] at *; done) | (exfalso; omega))
        (with_reducible first | apply i_ret0 | apply i_ret2 | apply i_ret3 | apply i_ret); exact rfl
        rfl
    · rw [if_neg he, if_neg he]
      repeat' ((fail_if_success with_reducible refine nph ?_); first | (with_reducible first | (refine d_seq ?_; intro K hK) | (refine hK _ _ ?_; clear hK K) | (refine SG.p ?_; try intro b) | refine r_rq (by first | decide | omega) ?_) | ((with_reducible refine SC.p ?_); refine aI ?_ ?_) <;> intro hc <;> try simp only [push_cast, seval] at hc | ((with_reducible refine SL.p ?_); first | refine ⟨_, rfl, ?_⟩ | refine ⟨_, _, _, rfl, ?_⟩ | (refine ⟨?_, rfl, ?_⟩; focus (simp; done))) | ((with_reducible first | apply i_ldn | apply i_ldnq); iterate 3 exact rfl) | ((try with_reducible refine d_reg ?_); simp only [go_sem]) | clear hK K)
      refine i_clp (f96 wb (t, f)) ?_
      repeat' ((fail_if_success with_reducible refine nph ?_); first | (with_reducible first | (refine d_seq ?_; intro K hK) | (refine hK _ _ ?_; clear hK K) | (refine SG.p ?_; try intro b) | refine r_rq (by first | decide | omega) ?_) | ((with_reducible refine SC.p ?_); refine aI ?_ ?_) <;> intro hc <;> try simp only [push_cast, seval] at hc | ((with_reducible refine SL.p ?_); first | refine ⟨_, rfl, ?_⟩ | refine ⟨_, _, _, rfl, ?_⟩ | (refine ⟨?_, rfl, ?_⟩; focus (simp; done))) | ((with_reducible first | apply i_ldn | apply i_ldnq); iterate 3 exact rfl) | ((try with_reducible refine d_reg ?_); simp only [go_sem]) | clear hK K)
      all_goals try (first | contradiction | (simp only [ reduceCtorEq] at *; done) | (exfalso; omega))
      (with_reducible first | apply i_ret0 | apply i_ret2 | apply i_ret3 | apply i_ret); exact rfl
      rfl
  clear hK0
  by_cases h1 : kind = 1
  · subst h1
    rw [if_pos rfl] at hB
    by_cases hl : imgs.length = 1
    · rw [if_pos hl] at hB
      repeat' ((fail_if_success with_reducible refine nph ?_); first | (with_reducible first | (refine d_seq ?_; intro K hK) | (refine hK _ _ ?_; clear hK K) | (refine SG.p ?_; try intro b) | refine r_rq (by first | decide | omega) ?_) | ((with_reducible refine SC.p ?_); refine aI ?_ ?_) <;> intro hc <;> try simp only [push_cast, seval] at hc | ((with_reducible refine SL.p ?_); first | refine ⟨_, rfl, ?_⟩ | refine ⟨_, _, _, rfl, ?_⟩ | (refine ⟨?_, rfl, ?_⟩; focus (simp; done))) | ((with_reducible first | apply i_ldn | apply i_ldnq); iterate 3 exact rfl) | ((try with_reducible refine d_reg ?_); simp only [go_sem]) | clear hK K)
      all_goals try (first | contradiction | (simp only [ reduceCtorEq] at *; done) | (exfalso; omega))
      refine i_clq (g104 A wb x0 (ip, imgs.length, ic) imgs hi li (by omega)) ?_
      exact (fin _ _ _ hB).sub SX.p
    · rw [if_neg hl] at hB
      repeat' ((fail_if_success with_reducible refine nph ?_); first | (with_reducible first | (refine d_seq ?_; intro K hK) | (refine hK _ _ ?_; clear hK K) | (refine SG.p ?_; try intro b) | refine r_rq (by first | decide | omega) ?_) | ((with_reducible refine SC.p ?_); refine aI ?_ ?_) <;> intro hc <;> try simp only [push_cast, seval] at hc | ((with_reducible refine SL.p ?_); first | refine ⟨_, rfl, ?_⟩ | refine ⟨_, _, _, rfl, ?_⟩ | (refine ⟨?_, rfl, ?_⟩; focus (simp; done))) | ((with_reducible first | apply i_ldn | apply i_ldnq); iterate 3 exact rfl) | ((try with_reducible refine d_reg ?_); simp only [go_sem]) | clear hK K)
      all_goals try (first | contradiction | (simp only [ reduceCtorEq] at *; done) | (exfalso; omega))
      subst hB
      (with_reducible first | apply i_ret0 | apply i_ret2 | apply i_ret3 | apply i_ret); exact rfl
      rfl
  rw [if_neg h1] at hB
  by_cases h2 : kind = 2
  · subst h2
    rw [if_pos rfl] at hB
    repeat' ((fail_if_success with_reducible refine nph ?_); first | (with_reducible first | (refine d_seq ?_; intro K hK) | (refine hK _ _ ?_; clear hK K) | (refine SG.p ?_; try intro b) | refine r_rq (by first | decide | omega) ?_) | ((with_reducible refine SC.p ?_); refine aI ?_ ?_) <;> intro hc <;> try simp only [push_cast, seval] at hc | ((with_reducible refine SL.p ?_); first | refine ⟨_, rfl, ?_⟩ | refine ⟨_, _, _, rfl, ?_⟩ | (refine ⟨?_, rfl, ?_⟩; focus (simp; done))) | ((with_reducible first | apply i_ldn | apply i_ldnq); iterate 3 exact rfl) | ((try with_reducible refine d_reg ?_); simp only [go_sem]) | clear hK K)
    all_goals try (first | contradiction | (simp only [ reduceCtorEq] at *; done) | (exfalso; omega))
    refine i_clq (g104 A wb x0 (ip, imgs.length, ic) imgs hi li (by omega)) ?_
    exact (fin _ _ _ hB).sub SX.p
  rw [if_neg h2] at hB
  by_cases h6 : kind = 6
  · subst h6
    rw [if_pos rfl] at hB
    by_cases ha : act < 3 ∨ 5 < act
    · rw [if_pos ha] at hB
      repeat' ((fail_if_success with_reducible refine nph ?_); first | (with_reducible first | (refine d_seq ?_; intro K hK) | (refine hK _ _ ?_; clear hK K) | (refine SG.p ?_; try intro b) | refine r_rq (by first | decide | omega) ?_) | ((with_reducible refine SC.p ?_); refine aI ?_ ?_) <;> intro hc <;> try simp only [push_cast, seval] at hc | ((with_reducible refine SL.p ?_); first | refine ⟨_, rfl, ?_⟩ | refine ⟨_, _, _, rfl, ?_⟩ | (refine ⟨?_, rfl, ?_⟩; focus (simp; done))) | ((with_reducible first | apply i_ldn | apply i_ldnq); iterate 3 exact rfl) | ((try with_reducible refine d_reg ?_); simp only [go_sem]) | clear hK K)
      all_goals try (first | contradiction | (simp only [ reduceCtorEq] at *; done) | (exfalso; omega))
      all_goals
        subst hB
        (with_reducible first | apply i_ret0 | apply i_ret2 | apply i_ret3 | apply i_ret); exact rfl
        rfl
    · rw [if_neg ha] at hB
      repeat' ((fail_if_success with_reducible refine nph ?_); first | (with_reducible first | (refine d_seq ?_; intro K hK) | (refine hK _ _ ?_; clear hK K) | (refine SG.p ?_; try intro b) | refine r_rq (by first | decide | omega) ?_) | ((with_reducible refine SC.p ?_); refine aI ?_ ?_) <;> intro hc <;> try simp only [push_cast, seval] at hc | ((with_reducible refine SL.p ?_); first | refine ⟨_, rfl, ?_⟩ | refine ⟨_, _, _, rfl, ?_⟩ | (refine ⟨?_, rfl, ?_⟩; focus (simp; done))) | ((with_reducible first | apply i_ldn | apply i_ldnq); iterate 3 exact rfl) | ((try with_reducible refine d_reg ?_); simp only [go_sem]) | clear hK K)
      all_goals try (exfalso; omega)
      refine i_clp (g105 key old nw _) ?_
      have q1 := layN_len x0 txn 6
      have q2 := layN_len (layN x0 txn 6) prev 6
      have q3 := layN_len (layN (layN x0 txn 6) prev 6) next 6
      have q4 := layN_len (layN (layN (layN x0 txn 6) prev 6) next 6) act 1
      repeat' ((fail_if_success with_reducible refine nph ?_); first | (with_reducible first | (refine d_seq ?_; intro K hK) | (refine hK _ _ ?_; clear hK K) | (refine SG.p ?_; try intro b) | refine r_rq (by first | decide | omega) ?_) | ((with_reducible refine SC.p ?_); refine aI ?_ ?_) <;> intro hc <;> try simp only [push_cast, seval] at hc | ((with_reducible refine SL.p ?_); first | refine ⟨_, rfl, ?_⟩ | refine ⟨_, _, _, rfl, ?_⟩ | (refine ⟨?_, rfl, ?_⟩; focus (simp; done))) | ((with_reducible first | apply i_ldn | apply i_ldnq); iterate 3 exact rfl) | ((try with_reducible refine d_reg ?_); simp only [go_sem]) | clear hK K)
      refine i_ldn (e := e_api_Rec) (x := ⟨6, txn, prev, page, act, key, old, nw, next, (ip, imgs.length, ic), (tp, tbl.length, tc), epoch, node⟩) rfl rfl rfl ?_
      refine i_clq (show Fq eN Tryz.prog 106 #[.pointer (some ⟨wb, 0, none⟩), v_api_Rec ⟨6, txn, prev, page, act, key, old, nw, next, (ip, imgs.length, ic), (tp, tbl.length, tc), epoch, node⟩] [wr wb x0] [wr wb (layN (layN x0 txn 6) prev 6)] () from g106 wb x0 _ (by omega)) ?_
      repeat' ((fail_if_success with_reducible refine nph ?_); first | (with_reducible first | (refine d_seq ?_; intro K hK) | (refine hK _ _ ?_; clear hK K) | (refine SG.p ?_; try intro b) | refine r_rq (by first | decide | omega) ?_) | ((with_reducible refine SC.p ?_); refine aI ?_ ?_) <;> intro hc <;> try simp only [push_cast, seval] at hc | ((with_reducible refine SL.p ?_); first | refine ⟨_, rfl, ?_⟩ | refine ⟨_, _, _, rfl, ?_⟩ | (refine ⟨?_, rfl, ?_⟩; focus (simp; done))) | ((with_reducible first | apply i_ldn | apply i_ldnq); iterate 3 exact rfl) | ((try with_reducible refine d_reg ?_); simp only [go_sem]) | clear hK K)
      refine i_clq (gN wb (layN (layN x0 txn 6) prev 6) next 6 (by decide) (by decide) (by omega)) ?_
      repeat' ((fail_if_success with_reducible refine nph ?_); first | (with_reducible first | (refine d_seq ?_; intro K hK) | (refine hK _ _ ?_; clear hK K) | (refine SG.p ?_; try intro b) | refine r_rq (by first | decide | omega) ?_) | ((with_reducible refine SC.p ?_); refine aI ?_ ?_) <;> intro hc <;> try simp only [push_cast, seval] at hc | ((with_reducible refine SL.p ?_); first | refine ⟨_, rfl, ?_⟩ | refine ⟨_, _, _, rfl, ?_⟩ | (refine ⟨?_, rfl, ?_⟩; focus (simp; done))) | ((with_reducible first | apply i_ldn | apply i_ldnq); iterate 3 exact rfl) | ((try with_reducible refine d_reg ?_); simp only [go_sem]) | clear hK K)
      refine i_clq (gN wb (layN (layN (layN x0 txn 6) prev 6) next 6) act 1 (by decide) (by decide) (by omega)) ?_
      repeat' ((fail_if_success with_reducible refine nph ?_); first | (with_reducible first | (refine d_seq ?_; intro K hK) | (refine hK _ _ ?_; clear hK K) | (refine SG.p ?_; try intro b) | refine r_rq (by first | decide | omega) ?_) | ((with_reducible refine SC.p ?_); refine aI ?_ ?_) <;> intro hc <;> try simp only [push_cast, seval] at hc | ((with_reducible refine SL.p ?_); first | refine ⟨_, rfl, ?_⟩ | refine ⟨_, _, _, rfl, ?_⟩ | (refine ⟨?_, rfl, ?_⟩; focus (simp; done))) | ((with_reducible first | apply i_ldn | apply i_ldnq); iterate 3 exact rfl) | ((try with_reducible refine d_reg ?_); simp only [go_sem]) | clear hK K)
      refine i_ldn (e := e_api_Rec) (x := ⟨6, txn, prev, page, act, key, old, nw, next, (ip, imgs.length, ic), (tp, tbl.length, tc), epoch, node⟩) rfl rfl rfl ?_
      repeat' ((fail_if_success with_reducible refine nph ?_); first | (with_reducible first | (refine d_seq ?_; intro K hK) | (refine hK _ _ ?_; clear hK K) | (refine SG.p ?_; try intro b) | refine r_rq (by first | decide | omega) ?_) | ((with_reducible refine SC.p ?_); refine aI ?_ ?_) <;> intro hc <;> try simp only [push_cast, seval] at hc | ((with_reducible refine SL.p ?_); first | refine ⟨_, rfl, ?_⟩ | refine ⟨_, _, _, rfl, ?_⟩ | (refine ⟨?_, rfl, ?_⟩; focus (simp; done))) | ((with_reducible first | apply i_ldn | apply i_ldnq); iterate 3 exact rfl) | ((try with_reducible refine d_reg ?_); simp only [go_sem]) | clear hK K)
      refine i_clq (g107 wb (layN (layN (layN (layN x0 txn 6) prev 6) next 6) act 1) ⟨6, txn, prev, page, act, key, old, nw, next, (ip, imgs.length, ic), (tp, tbl.length, tc), epoch, node⟩ act (by omega)) ?_
      repeat' ((fail_if_success with_reducible refine nph ?_); first | (with_reducible first | (refine d_seq ?_; intro K hK) | (refine hK _ _ ?_; clear hK K) | (refine SG.p ?_; try intro b) | refine r_rq (by first | decide | omega) ?_) | ((with_reducible refine SC.p ?_); refine aI ?_ ?_) <;> intro hc <;> try simp only [push_cast, seval] at hc | ((with_reducible refine SL.p ?_); first | refine ⟨_, rfl, ?_⟩ | refine ⟨_, _, _, rfl, ?_⟩ | (refine ⟨?_, rfl, ?_⟩; focus (simp; done))) | ((with_reducible first | apply i_ldn | apply i_ldnq); iterate 3 exact rfl) | ((try with_reducible refine d_reg ?_); simp only [go_sem]) | clear hK K)
      exact (fin (chg (layN (layN (layN (layN x0 txn 6) prev 6) next 6) act 1) ⟨6, txn, prev, page, act, key, old, nw, next, (ip, imgs.length, ic), (tp, tbl.length, tc), epoch, node⟩ act) _ _ hB).sub SX.p
  rw [if_neg h6] at hB
  by_cases h345 : kind = 3 ∨ kind = 4 ∨ kind = 5
  · rw [if_pos h345] at hB
    have q1 := layN_len x0 txn 6
    have q2 := layN_len (layN x0 txn 6) prev 6
    repeat' ((fail_if_success with_reducible refine nph ?_); first | (with_reducible first | (refine d_seq ?_; intro K hK) | (refine hK _ _ ?_; clear hK K) | (refine SG.p ?_; try intro b) | refine r_rq (by first | decide | omega) ?_) | ((with_reducible refine SC.p ?_); refine aI ?_ ?_) <;> intro hc <;> try simp only [push_cast, seval] at hc | ((with_reducible refine SL.p ?_); first | refine ⟨_, rfl, ?_⟩ | refine ⟨_, _, _, rfl, ?_⟩ | (refine ⟨?_, rfl, ?_⟩; focus (simp; done))) | ((with_reducible first | apply i_ldn | apply i_ldnq); iterate 3 exact rfl) | ((try with_reducible refine d_reg ?_); simp only [go_sem]) | clear hK K)
    all_goals try (exfalso; omega)
    all_goals
      refine i_clp (g105 key old nw _) ?_
      repeat' ((fail_if_success with_reducible refine nph ?_); first | (with_reducible first | (refine d_seq ?_; intro K hK) | (refine hK _ _ ?_; clear hK K) | (refine SG.p ?_; try intro b) | refine r_rq (by first | decide | omega) ?_) | ((with_reducible refine SC.p ?_); refine aI ?_ ?_) <;> intro hc <;> try simp only [push_cast, seval] at hc | ((with_reducible refine SL.p ?_); first | refine ⟨_, rfl, ?_⟩ | refine ⟨_, _, _, rfl, ?_⟩ | (refine ⟨?_, rfl, ?_⟩; focus (simp; done))) | ((with_reducible first | apply i_ldn | apply i_ldnq); iterate 3 exact rfl) | ((try with_reducible refine d_reg ?_); simp only [go_sem]) | clear hK K)
      refine i_ldn (e := e_api_Rec) (x := ⟨kind, txn, prev, page, act, key, old, nw, next, (ip, imgs.length, ic), (tp, tbl.length, tc), epoch, node⟩) rfl rfl rfl ?_
      refine i_clq (show Fq eN Tryz.prog 106 #[.pointer (some ⟨wb, 0, none⟩), v_api_Rec ⟨kind, txn, prev, page, act, key, old, nw, next, (ip, imgs.length, ic), (tp, tbl.length, tc), epoch, node⟩] [wr wb x0] [wr wb (layN (layN x0 txn 6) prev 6)] () from g106 wb x0 _ (by omega)) ?_
      repeat' ((fail_if_success with_reducible refine nph ?_); first | (with_reducible first | (refine d_seq ?_; intro K hK) | (refine hK _ _ ?_; clear hK K) | (refine SG.p ?_; try intro b) | refine r_rq (by first | decide | omega) ?_) | ((with_reducible refine SC.p ?_); refine aI ?_ ?_) <;> intro hc <;> try simp only [push_cast, seval] at hc | ((with_reducible refine SL.p ?_); first | refine ⟨_, rfl, ?_⟩ | refine ⟨_, _, _, rfl, ?_⟩ | (refine ⟨?_, rfl, ?_⟩; focus (simp; done))) | ((with_reducible first | apply i_ldn | apply i_ldnq); iterate 3 exact rfl) | ((try with_reducible refine d_reg ?_); simp only [go_sem]) | clear hK K)
      refine i_ldn (e := e_api_Rec) (x := ⟨kind, txn, prev, page, act, key, old, nw, next, (ip, imgs.length, ic), (tp, tbl.length, tc), epoch, node⟩) rfl rfl rfl ?_
      repeat' ((fail_if_success with_reducible refine nph ?_); first | (with_reducible first | (refine d_seq ?_; intro K hK) | (refine hK _ _ ?_; clear hK K) | (refine SG.p ?_; try intro b) | refine r_rq (by first | decide | omega) ?_) | ((with_reducible refine SC.p ?_); refine aI ?_ ?_) <;> intro hc <;> try simp only [push_cast, seval] at hc | ((with_reducible refine SL.p ?_); first | refine ⟨_, rfl, ?_⟩ | refine ⟨_, _, _, rfl, ?_⟩ | (refine ⟨?_, rfl, ?_⟩; focus (simp; done))) | ((with_reducible first | apply i_ldn | apply i_ldnq); iterate 3 exact rfl) | ((try with_reducible refine d_reg ?_); simp only [go_sem]) | clear hK K)
      refine i_clq (g107 wb (layN (layN x0 txn 6) prev 6) ⟨kind, txn, prev, page, act, key, old, nw, next, (ip, imgs.length, ic), (tp, tbl.length, tc), epoch, node⟩ kind (by omega)) ?_
      repeat' ((fail_if_success with_reducible refine nph ?_); first | (with_reducible first | (refine d_seq ?_; intro K hK) | (refine hK _ _ ?_; clear hK K) | (refine SG.p ?_; try intro b) | refine r_rq (by first | decide | omega) ?_) | ((with_reducible refine SC.p ?_); refine aI ?_ ?_) <;> intro hc <;> try simp only [push_cast, seval] at hc | ((with_reducible refine SL.p ?_); first | refine ⟨_, rfl, ?_⟩ | refine ⟨_, _, _, rfl, ?_⟩ | (refine ⟨?_, rfl, ?_⟩; focus (simp; done))) | ((with_reducible first | apply i_ldn | apply i_ldnq); iterate 3 exact rfl) | ((try with_reducible refine d_reg ?_); simp only [go_sem]) | clear hK K)
      exact (fin (chg (layN (layN x0 txn 6) prev 6) ⟨kind, txn, prev, page, act, key, old, nw, next, (ip, imgs.length, ic), (tp, tbl.length, tc), epoch, node⟩ kind) _ _ hB).sub SX.p
  rw [if_neg h345] at hB
  by_cases h78 : kind = 7 ∨ kind = 8
  · rw [if_pos h78] at hB
    repeat' ((fail_if_success with_reducible refine nph ?_); first | (with_reducible first | (refine d_seq ?_; intro K hK) | (refine hK _ _ ?_; clear hK K) | (refine SG.p ?_; try intro b) | refine r_rq (by first | decide | omega) ?_) | ((with_reducible refine SC.p ?_); refine aI ?_ ?_) <;> intro hc <;> try simp only [push_cast, seval] at hc | ((with_reducible refine SL.p ?_); first | refine ⟨_, rfl, ?_⟩ | refine ⟨_, _, _, rfl, ?_⟩ | (refine ⟨?_, rfl, ?_⟩; focus (simp; done))) | ((with_reducible first | apply i_ldn | apply i_ldnq); iterate 3 exact rfl) | ((try with_reducible refine d_reg ?_); simp only [go_sem]) | clear hK K)
    all_goals try (exfalso; omega)
    all_goals
      refine i_ldn (e := e_api_Rec) (x := ⟨kind, txn, prev, page, act, key, old, nw, next, (ip, imgs.length, ic), (tp, tbl.length, tc), epoch, node⟩) rfl rfl rfl ?_
      refine i_clq (show Fq eN Tryz.prog 106 #[.pointer (some ⟨wb, 0, none⟩), v_api_Rec ⟨kind, txn, prev, page, act, key, old, nw, next, (ip, imgs.length, ic), (tp, tbl.length, tc), epoch, node⟩] [wr wb x0] [wr wb (layN (layN x0 txn 6) prev 6)] () from g106 wb x0 _ (by omega)) ?_
      repeat' ((fail_if_success with_reducible refine nph ?_); first | (with_reducible first | (refine d_seq ?_; intro K hK) | (refine hK _ _ ?_; clear hK K) | (refine SG.p ?_; try intro b) | refine r_rq (by first | decide | omega) ?_) | ((with_reducible refine SC.p ?_); refine aI ?_ ?_) <;> intro hc <;> try simp only [push_cast, seval] at hc | ((with_reducible refine SL.p ?_); first | refine ⟨_, rfl, ?_⟩ | refine ⟨_, _, _, rfl, ?_⟩ | (refine ⟨?_, rfl, ?_⟩; focus (simp; done))) | ((with_reducible first | apply i_ldn | apply i_ldnq); iterate 3 exact rfl) | ((try with_reducible refine d_reg ?_); simp only [go_sem]) | clear hK K)
      exact (fin (layN (layN x0 txn 6) prev 6) _ _ hB).sub SX.p
  rw [if_neg h78] at hB
  by_cases h9 : kind = 9
  · rw [if_pos h9] at hB
    have q1 := layN_len x0 (tbl.length : Int) 1
    repeat' ((fail_if_success with_reducible refine nph ?_); first | (with_reducible first | (refine d_seq ?_; intro K hK) | (refine hK _ _ ?_; clear hK K) | (refine SG.p ?_; try intro b) | refine r_rq (by first | decide | omega) ?_) | ((with_reducible refine SC.p ?_); refine aI ?_ ?_) <;> intro hc <;> try simp only [push_cast, seval] at hc | ((with_reducible refine SL.p ?_); first | refine ⟨_, rfl, ?_⟩ | refine ⟨_, _, _, rfl, ?_⟩ | (refine ⟨?_, rfl, ?_⟩; focus (simp; done))) | ((with_reducible first | apply i_ldn | apply i_ldnq); iterate 3 exact rfl) | ((try with_reducible refine d_reg ?_); simp only [go_sem]) | clear hK K)
    all_goals try (exfalso; omega)
    refine i_clq (gN wb x0 (tbl.length : Int) 1 (by decide) (by decide) (by omega)) ?_
    generalize layN x0 (tbl.length : Int) 1 = x1 at *
    repeat' ((fail_if_success with_reducible refine nph ?_); first | (with_reducible first | (refine d_seq ?_; intro K hK) | (refine hK _ _ ?_; clear hK K) | (refine SG.p ?_; try intro b) | refine r_rq (by first | decide | omega) ?_) | ((with_reducible refine SC.p ?_); refine aI ?_ ?_) <;> intro hc <;> try simp only [push_cast, seval] at hc | ((with_reducible refine SL.p ?_); first | refine ⟨_, rfl, ?_⟩ | refine ⟨_, _, _, rfl, ?_⟩ | (refine ⟨?_, rfl, ?_⟩; focus (simp; done))) | ((with_reducible first | apply i_ldn | apply i_ldnq); iterate 3 exact rfl) | ((try with_reducible refine d_reg ?_); simp only [go_sem]) | clear hK K)
    refine d_lp [4, 5, 102, 103, 104] (fun i : Nat => [(4, .pointer (some ⟨wb, 0, none⟩)), (5, .int .i64 0), (102, .slice tp tbl.length tc), (103, .int .i64 (tbl.length : Int)), (104, .int .i64 (i : Int))])
      (fun i => wr wb (tbg x1 (tbl.take i)) :: ar b1 36 [.int .i64 kind, .int .i64 txn, .int .i64 prev, .int .i64 page, .int .i64 act, str key, str old, str nw, .int .i64 next, .slice ip imgs.length ic, .slice tp tbl.length tc, .int .i64 epoch, .int .i64 node] :: A :: L) (fun i => i ≤ tbl.length ∧ (tbg x1 (tbl.take i)).1.length ≤ 10 + 12 * i) (fun i => tbl.length - i) 0 rfl ?_ ⟨by omega, by have e0 : (tbg x1 (tbl.take 0)).1.length = x1.1.length := rfl; omega⟩ ?_
    · show Sub (wr wb x1 :: ar b1 36 _ :: A :: L) _
      exact SX.p
    rintro i ⟨hi', hx⟩
    repeat' ((fail_if_success with_reducible refine nph ?_); first | (with_reducible first | (refine d_seq ?_; intro K hK) | (refine hK _ _ ?_; clear hK K) | (refine SG.p ?_; try intro b) | refine r_rq (by first | decide | omega) ?_) | ((with_reducible refine SC.p ?_); refine aI ?_ ?_) <;> intro hc <;> try simp only [push_cast, seval] at hc | ((with_reducible refine SL.p ?_); first | refine ⟨_, rfl, ?_⟩ | refine ⟨_, _, _, rfl, ?_⟩ | (refine ⟨?_, rfl, ?_⟩; focus (simp; done))) | ((with_reducible first | apply i_ldn | apply i_ldnq); iterate 3 exact rfl) | ((try with_reducible refine d_reg ?_); simp only [go_sem]) | clear hK K)
    · have hlt : i < tbl.length := by omega
      obtain ⟨m, hm⟩ : ∃ m, tbl[i]? = some m := ⟨tbl[i], by simp [hlt]⟩
      have T : tbg x1 (tbl.take (i + 1)) = layN (layN (tbg x1 (tbl.take i)) m.Txn 6) m.Last 6 := by
        unfold tbg
        rw [List.take_succ_eq_append_getElem hlt, List.foldl_append]
        rw [List.getElem?_eq_getElem hlt] at hm
        simp only [Option.some.injEq] at hm
        rw [hm]
        rfl
      generalize tbg x1 (tbl.take i) = y at *
      have l1 := layN_len y m.Txn 6
      have l2 := layN_len (layN y m.Txn 6) m.Last 6
      rcases tp with _ | a
      · exact absurd rfl (ht.2.1 (by dsimp only; omega))
      · refine r_nn rfl ?_
        refine i_sn (x := m) (y := m) ht cAct_len hm rfl ?_
        repeat' ((fail_if_success with_reducible refine nph ?_); first | (with_reducible first | (refine d_seq ?_; intro K hK) | (refine hK _ _ ?_; clear hK K) | (refine SG.p ?_; try intro b) | refine r_rq (by first | decide | omega) ?_) | ((with_reducible refine SC.p ?_); refine aI ?_ ?_) <;> intro hc <;> try simp only [push_cast, seval] at hc | ((with_reducible refine SL.p ?_); first | refine ⟨_, rfl, ?_⟩ | refine ⟨_, _, _, rfl, ?_⟩ | (refine ⟨?_, rfl, ?_⟩; focus (simp; done))) | ((with_reducible first | apply i_ldn | apply i_ldnq); iterate 3 exact rfl) | ((try with_reducible refine d_reg ?_); simp only [go_sem]) | clear hK K)
        refine i_clq (gN wb y m.Txn 6 (by decide) (by decide) (by omega)) ?_
        repeat' ((fail_if_success with_reducible refine nph ?_); first | (with_reducible first | (refine d_seq ?_; intro K hK) | (refine hK _ _ ?_; clear hK K) | (refine SG.p ?_; try intro b) | refine r_rq (by first | decide | omega) ?_) | ((with_reducible refine SC.p ?_); refine aI ?_ ?_) <;> intro hc <;> try simp only [push_cast, seval] at hc | ((with_reducible refine SL.p ?_); first | refine ⟨_, rfl, ?_⟩ | refine ⟨_, _, _, rfl, ?_⟩ | (refine ⟨?_, rfl, ?_⟩; focus (simp; done))) | ((with_reducible first | apply i_ldn | apply i_ldnq); iterate 3 exact rfl) | ((try with_reducible refine d_reg ?_); simp only [go_sem]) | clear hK K)
        refine i_clq (gN wb (layN y m.Txn 6) m.Last 6 (by decide) (by decide) (by omega)) ?_
        repeat' ((fail_if_success with_reducible refine nph ?_); first | (with_reducible first | (refine d_seq ?_; intro K hK) | (refine hK _ _ ?_; clear hK K) | (refine SG.p ?_; try intro b) | refine r_rq (by first | decide | omega) ?_) | ((with_reducible refine SC.p ?_); refine aI ?_ ?_) <;> intro hc <;> try simp only [push_cast, seval] at hc | ((with_reducible refine SL.p ?_); first | refine ⟨_, rfl, ?_⟩ | refine ⟨_, _, _, rfl, ?_⟩ | (refine ⟨?_, rfl, ?_⟩; focus (simp; done))) | ((with_reducible first | apply i_ldn | apply i_ldnq); iterate 3 exact rfl) | ((try with_reducible refine d_reg ?_); simp only [go_sem]) | clear hK K)
        rw [← T]
        rw [← T] at l2
        rw [w64 (by omega) (by omega)]
        exact i_bk (i + 1) rfl ⟨by omega, by omega⟩ (by omega)
    · obtain rfl : i = tbl.length := by omega
      rw [List.take_length]
      exact (fin _ _ _ hB).sub SX.p
  rw [if_neg h9] at hB
  by_cases h10 : kind = 10
  · rw [if_pos h10] at hB
    have q1 := layN_len x0 epoch 4
    repeat' ((fail_if_success with_reducible refine nph ?_); first | (with_reducible first | (refine d_seq ?_; intro K hK) | (refine hK _ _ ?_; clear hK K) | (refine SG.p ?_; try intro b) | refine r_rq (by first | decide | omega) ?_) | ((with_reducible refine SC.p ?_); refine aI ?_ ?_) <;> intro hc <;> try simp only [push_cast, seval] at hc | ((with_reducible refine SL.p ?_); first | refine ⟨_, rfl, ?_⟩ | refine ⟨_, _, _, rfl, ?_⟩ | (refine ⟨?_, rfl, ?_⟩; focus (simp; done))) | ((with_reducible first | apply i_ldn | apply i_ldnq); iterate 3 exact rfl) | ((try with_reducible refine d_reg ?_); simp only [go_sem]) | clear hK K)
    all_goals try (exfalso; omega)
    refine i_clq (gN wb x0 epoch 4 (by decide) (by decide) (by omega)) ?_
    repeat' ((fail_if_success with_reducible refine nph ?_); first | (with_reducible first | (refine d_seq ?_; intro K hK) | (refine hK _ _ ?_; clear hK K) | (refine SG.p ?_; try intro b) | refine r_rq (by first | decide | omega) ?_) | ((with_reducible refine SC.p ?_); refine aI ?_ ?_) <;> intro hc <;> try simp only [push_cast, seval] at hc | ((with_reducible refine SL.p ?_); first | refine ⟨_, rfl, ?_⟩ | refine ⟨_, _, _, rfl, ?_⟩ | (refine ⟨?_, rfl, ?_⟩; focus (simp; done))) | ((with_reducible first | apply i_ldn | apply i_ldnq); iterate 3 exact rfl) | ((try with_reducible refine d_reg ?_); simp only [go_sem]) | clear hK K)
    refine i_clq (gN wb (layN x0 epoch 4) node 1 (by decide) (by decide) (by omega)) ?_
    repeat' ((fail_if_success with_reducible refine nph ?_); first | (with_reducible first | (refine d_seq ?_; intro K hK) | (refine hK _ _ ?_; clear hK K) | (refine SG.p ?_; try intro b) | refine r_rq (by first | decide | omega) ?_) | ((with_reducible refine SC.p ?_); refine aI ?_ ?_) <;> intro hc <;> try simp only [push_cast, seval] at hc | ((with_reducible refine SL.p ?_); first | refine ⟨_, rfl, ?_⟩ | refine ⟨_, _, _, rfl, ?_⟩ | (refine ⟨?_, rfl, ?_⟩; focus (simp; done))) | ((with_reducible first | apply i_ldn | apply i_ldnq); iterate 3 exact rfl) | ((try with_reducible refine d_reg ?_); simp only [go_sem]) | clear hK K)
    exact (fin _ _ _ hB).sub SX.p
  rw [if_neg h10] at hB
  repeat' ((fail_if_success with_reducible refine nph ?_); first | (with_reducible first | (refine d_seq ?_; intro K hK) | (refine hK _ _ ?_; clear hK K) | (refine SG.p ?_; try intro b) | refine r_rq (by first | decide | omega) ?_) | ((with_reducible refine SC.p ?_); refine aI ?_ ?_) <;> intro hc <;> try simp only [push_cast, seval] at hc | ((with_reducible refine SL.p ?_); first | refine ⟨_, rfl, ?_⟩ | refine ⟨_, _, _, rfl, ?_⟩ | (refine ⟨?_, rfl, ?_⟩; focus (simp; done))) | ((with_reducible first | apply i_ldn | apply i_ldnq); iterate 3 exact rfl) | ((try with_reducible refine d_reg ?_); simp only [go_sem]) | clear hK K)
  all_goals try (exfalso; omega)
  subst hB
  (with_reducible first | apply i_ret0 | apply i_ret2 | apply i_ret3 | apply i_ret); exact rfl
  rfl
def Rc.frame (c : Rc) : Wt := if c.clean.body.2 = 0 then (lowb (c.clean.body.1.length : Int) 2 ++ (lowb (sm c.clean.body.1) 4 ++ c.clean.body.1), 0) else ([], c.clean.body.2)
theorem bfin_le (x : Wt) (e : Int) : (bfin x e).1.length ≤ 4096 := by
  unfold bfin
  repeat' split
  all_goals first | omega | (simp; done) | (dsimp only; omega)
theorem Rc.body_le (c : Rc) : c.body.1.length ≤ 4096 := by
  unfold Rc.body
  repeat' split
  all_goals first | exact bfin_le _ _ | (simp; done)
theorem put2 {s : List UInt8} (h : s.length ≤ 4096) : putN [] (s.length : Int) 2 = (lowb (s.length : Int) 2, 0) := by
  unfold putN
  have p2 : ((256 ^ 2 : Nat) : Int) = 65536 := by decide
  rw [p2, if_neg (by omega)]
  rfl
theorem g18 (A : HP) (r : api_Rec) (c : Rc) (h : RcAt A r c) : Fp (eT2 eS eI) Tryz.prog 18 #[v_api_Rec r] [A] c.frame := fun L => by
  have hb := c.clean.body_le
  have F := g71 A (clr r) c.clean h.clr
  unfold Rc.frame
  generalize c.clean.body = x at *
  obtain ⟨s, e⟩ := x
  dsimp only at hb ⊢
  obtain ⟨kind, txn, prev, page, act, key, old, nw, next, im, tb, epoch, node⟩ := r
  have hl2 := lowb_len (s.length : Int) 2
  have hl4 := lowb_len (sm s) 4
  have P := f97 [] (s.length : Int) 2 (by decide) (by decide) (by decide)
  rw [put2 hb] at P
  have G := g72 ⟨kind, txn, prev, page, act, key, old, nw, next, im, tb, epoch, node⟩
  generalize clr ⟨kind, txn, prev, page, act, key, old, nw, next, im, tb, epoch, node⟩ = y at *
  refine c18_fn rfl rfl ?_
  by_cases he : e = 0
  · subst he
    rw [if_pos rfl]
    repeat' ((fail_if_success with_reducible refine nph ?_); first | (with_reducible first | (refine d_seq ?_; intro K hK) | (refine hK _ _ ?_; clear hK K) | (refine SG.p ?_; try intro b) | refine r_rq (by first | decide | omega) ?_) | ((with_reducible refine SC.p ?_); refine aI ?_ ?_) <;> intro hc <;> try simp only [push_cast, seval] at hc | ((with_reducible refine SL.p ?_); first | refine ⟨_, rfl, ?_⟩ | refine ⟨_, _, _, rfl, ?_⟩ | (refine ⟨?_, rfl, ?_⟩; focus (simp; done))) | ((with_reducible first | apply i_ldn | apply i_ldnq); iterate 3 exact rfl) | ((try with_reducible refine d_reg ?_); simp only [go_sem]) | clear hK K)
    refine i_ldn (e := e_api_Rec) (x := ⟨kind, txn, prev, page, act, key, old, nw, next, im, tb, epoch, node⟩) rfl rfl rfl ?_
    refine i_clp G ?_
    refine i_clp F ?_
    repeat' ((fail_if_success with_reducible refine nph ?_); first | (with_reducible first | (refine d_seq ?_; intro K hK) | (refine hK _ _ ?_; clear hK K) | (refine SG.p ?_; try intro b) | refine r_rq (by first | decide | omega) ?_) | ((with_reducible refine SC.p ?_); refine aI ?_ ?_) <;> intro hc <;> try simp only [push_cast, seval] at hc | ((with_reducible refine SL.p ?_); first | refine ⟨_, rfl, ?_⟩ | refine ⟨_, _, _, rfl, ?_⟩ | (refine ⟨?_, rfl, ?_⟩; focus (simp; done))) | ((with_reducible first | apply i_ldn | apply i_ldnq); iterate 3 exact rfl) | ((try with_reducible refine d_reg ?_); simp only [go_sem]) | clear hK K)
    all_goals try (first | contradiction | (simp only [ reduceCtorEq] at *; done) | (exfalso; omega))
    refine i_clp P ?_
    repeat' ((fail_if_success with_reducible refine nph ?_); first | (with_reducible first | (refine d_seq ?_; intro K hK) | (refine hK _ _ ?_; clear hK K) | (refine SG.p ?_; try intro b) | refine r_rq (by first | decide | omega) ?_) | ((with_reducible refine SC.p ?_); refine aI ?_ ?_) <;> intro hc <;> try simp only [push_cast, seval] at hc | ((with_reducible refine SL.p ?_); first | refine ⟨_, rfl, ?_⟩ | refine ⟨_, _, _, rfl, ?_⟩ | (refine ⟨?_, rfl, ?_⟩; focus (simp; done))) | ((with_reducible first | apply i_ldn | apply i_ldnq); iterate 3 exact rfl) | ((try with_reducible refine d_reg ?_); simp only [go_sem]) | clear hK K)
    refine i_clp (g74 s (by omega)) ?_
    refine r_rq (by rw [List.length_append]; omega) ?_
    repeat' ((fail_if_success with_reducible refine nph ?_); first | (with_reducible first | (refine d_seq ?_; intro K hK) | (refine hK _ _ ?_; clear hK K) | (refine SG.p ?_; try intro b) | refine r_rq (by first | decide | omega) ?_) | ((with_reducible refine SC.p ?_); refine aI ?_ ?_) <;> intro hc <;> try simp only [push_cast, seval] at hc | ((with_reducible refine SL.p ?_); first | refine ⟨_, rfl, ?_⟩ | refine ⟨_, _, _, rfl, ?_⟩ | (refine ⟨?_, rfl, ?_⟩; focus (simp; done))) | ((with_reducible first | apply i_ldn | apply i_ldnq); iterate 3 exact rfl) | ((try with_reducible refine d_reg ?_); simp only [go_sem]) | clear hK K)
    (with_reducible first | apply i_ret0 | apply i_ret2 | apply i_ret3 | apply i_ret); exact rfl
    rfl
  · rw [if_neg he]
    repeat' ((fail_if_success with_reducible refine nph ?_); first | (with_reducible first | (refine d_seq ?_; intro K hK) | (refine hK _ _ ?_; clear hK K) | (refine SG.p ?_; try intro b) | refine r_rq (by first | decide | omega) ?_) | ((with_reducible refine SC.p ?_); refine aI ?_ ?_) <;> intro hc <;> try simp only [push_cast, seval] at hc | ((with_reducible refine SL.p ?_); first | refine ⟨_, rfl, ?_⟩ | refine ⟨_, _, _, rfl, ?_⟩ | (refine ⟨?_, rfl, ?_⟩; focus (simp; done))) | ((with_reducible first | apply i_ldn | apply i_ldnq); iterate 3 exact rfl) | ((try with_reducible refine d_reg ?_); simp only [go_sem]) | clear hK K)
    refine i_ldn (e := e_api_Rec) (x := ⟨kind, txn, prev, page, act, key, old, nw, next, im, tb, epoch, node⟩) rfl rfl rfl ?_
    refine i_clp G ?_
    refine i_clp F ?_
    repeat' ((fail_if_success with_reducible refine nph ?_); first | (with_reducible first | (refine d_seq ?_; intro K hK) | (refine hK _ _ ?_; clear hK K) | (refine SG.p ?_; try intro b) | refine r_rq (by first | decide | omega) ?_) | ((with_reducible refine SC.p ?_); refine aI ?_ ?_) <;> intro hc <;> try simp only [push_cast, seval] at hc | ((with_reducible refine SL.p ?_); first | refine ⟨_, rfl, ?_⟩ | refine ⟨_, _, _, rfl, ?_⟩ | (refine ⟨?_, rfl, ?_⟩; focus (simp; done))) | ((with_reducible first | apply i_ldn | apply i_ldnq); iterate 3 exact rfl) | ((try with_reducible refine d_reg ?_); simp only [go_sem]) | clear hK K)
    all_goals try (first | contradiction | (simp only [ reduceCtorEq] at *; done) | (exfalso; omega))
    (with_reducible first | apply i_ret0 | apply i_ret2 | apply i_ret3 | apply i_ret); exact rfl
    rfl
end Go.Sp
namespace Go.Sp
open Go
set_option maxRecDepth 100000
set_option linter.unusedVariables false
open Go.Proofs
variable (K : Env → W) (k : Value → W) {e : Enc} {args : Array Value} {G : e.α → W} {L : List HP} {ρ : Env}
attribute [local instance] cI cB cP cA
noncomputable def c26 := cf Tryz.f26 69 [(0, [0, 1]), (1, [0, 1, 4]), (2, [4]), (3, [0, 1, 4]), (4, [0, 4]), (5, [4]), (6, [0, 4]), (7, [0, 4, 7]), (8, [4]), (9, [0, 4, 7]), (10, [4]), (11, [0, 4, 7]), (12, [4, 7, 8, 9]), (13, [4, 9]), (14, [4, 7, 8]), (15, [4, 7, 9, 10]), (16, [4, 9]), (17, [4, 7, 10])] [(0, [0, 1, 4]), (1, [0, 1, 4, 18]), (2, [4, 5, 6]), (3, [0, 4]), (4, [0, 4, 25]), (5, [4, 5, 6]), (6, [0, 4, 7]), (7, [0, 4, 7, 30]), (8, [4, 5, 6]), (9, [0, 4, 7, 38]), (10, [4, 5, 6]), (11, [4, 7, 8, 9]), (12, [4, 7, 8, 9, 54]), (13, [4, 5, 6]), (14, [4, 7, 9, 10]), (15, [4, 7, 9, 10, 63]), (16, [4, 5, 6]), (17, [4, 5, 6]), (1000000, [4, 5, 6])] [] []
@[go_sem] theorem c26_i : c26.li 0 = [0, 1] ∧ c26.li 1 = [0, 1, 4] ∧ c26.li 2 = [4] ∧ c26.li 3 = [0, 1, 4] ∧ c26.li 4 = [0, 4] ∧ c26.li 5 = [4] ∧ c26.li 6 = [0, 4] ∧ c26.li 7 = [0, 4, 7] ∧ c26.li 8 = [4] ∧ c26.li 9 = [0, 4, 7] ∧ c26.li 10 = [4] ∧ c26.li 11 = [0, 4, 7] ∧ c26.li 12 = [4, 7, 8, 9] ∧ c26.li 13 = [4, 9] ∧ c26.li 14 = [4, 7, 8] ∧ c26.li 15 = [4, 7, 9, 10] ∧ c26.li 16 = [4, 9] ∧ c26.li 17 = [4, 7, 10] := ⟨rfl, rfl, rfl, rfl, rfl, rfl, rfl, rfl, rfl, rfl, rfl, rfl, rfl, rfl, rfl, rfl, rfl, rfl⟩
@[go_sem] theorem c26_r0 (v0 : List UInt8) (v1 : Int) : RP c26 0 [(0, str v0), (1, v1)] K =
 (nwc #[.int .i64 0, .int .i64 0, .int .i64 0, .int .i64 0, .int .i64 0, str ([] : List UInt8), str ([] : List UInt8), str ([] : List UInt8), .int .i64 0, .slice none 0 0, .slice none 0 0, .int .i64 0, .int .i64 0] 36 fun y1_ => (K [(0, str v0), (1, v1), (4, y1_)])) := by kernel_rfl
@[go_sem] theorem c26_r1 (v0 : List UInt8) (v1 : Int) (v4 : Addr) : RP c26 1 [(0, str v0), (1, v1), (4, v4)] K =
 (cnd (decide (v1 < 0)) (K [(0, str v0), (1, v1), (4, v4), (18, true)]) (K [(0, str v0), (1, v1), (4, v4), (18, decide ((v0.length : Int) < v1))])) := by kernel_rfl
@[go_sem] theorem c26_r2 (v4 : Addr) : RP c26 2 [(4, v4)] K =
 (stl [.int .i64 ((⟨(0 : Int), (0 : Int), (0 : Int), (0 : Int), (0 : Int), ([] : List UInt8), ([] : List UInt8), ([] : List UInt8), (0 : Int), (none, 0, 0), (none, 0, 0), (0 : Int), (0 : Int)⟩ : api_Rec).Kind), .int .i64 ((⟨(0 : Int), (0 : Int), (0 : Int), (0 : Int), (0 : Int), ([] : List UInt8), ([] : List UInt8), ([] : List UInt8), (0 : Int), (none, 0, 0), (none, 0, 0), (0 : Int), (0 : Int)⟩ : api_Rec).Txn), .int .i64 ((⟨(0 : Int), (0 : Int), (0 : Int), (0 : Int), (0 : Int), ([] : List UInt8), ([] : List UInt8), ([] : List UInt8), (0 : Int), (none, 0, 0), (none, 0, 0), (0 : Int), (0 : Int)⟩ : api_Rec).Prev), .int .i64 ((⟨(0 : Int), (0 : Int), (0 : Int), (0 : Int), (0 : Int), ([] : List UInt8), ([] : List UInt8), ([] : List UInt8), (0 : Int), (none, 0, 0), (none, 0, 0), (0 : Int), (0 : Int)⟩ : api_Rec).Page), .int .i64 ((⟨(0 : Int), (0 : Int), (0 : Int), (0 : Int), (0 : Int), ([] : List UInt8), ([] : List UInt8), ([] : List UInt8), (0 : Int), (none, 0, 0), (none, 0, 0), (0 : Int), (0 : Int)⟩ : api_Rec).Act), str ((⟨(0 : Int), (0 : Int), (0 : Int), (0 : Int), (0 : Int), ([] : List UInt8), ([] : List UInt8), ([] : List UInt8), (0 : Int), (none, 0, 0), (none, 0, 0), (0 : Int), (0 : Int)⟩ : api_Rec).Key), str ((⟨(0 : Int), (0 : Int), (0 : Int), (0 : Int), (0 : Int), ([] : List UInt8), ([] : List UInt8), ([] : List UInt8), (0 : Int), (none, 0, 0), (none, 0, 0), (0 : Int), (0 : Int)⟩ : api_Rec).Old), str ((⟨(0 : Int), (0 : Int), (0 : Int), (0 : Int), (0 : Int), ([] : List UInt8), ([] : List UInt8), ([] : List UInt8), (0 : Int), (none, 0, 0), (none, 0, 0), (0 : Int), (0 : Int)⟩ : api_Rec).New), .int .i64 ((⟨(0 : Int), (0 : Int), (0 : Int), (0 : Int), (0 : Int), ([] : List UInt8), ([] : List UInt8), ([] : List UInt8), (0 : Int), (none, 0, 0), (none, 0, 0), (0 : Int), (0 : Int)⟩ : api_Rec).Next), .slice (((⟨(0 : Int), (0 : Int), (0 : Int), (0 : Int), (0 : Int), ([] : List UInt8), ([] : List UInt8), ([] : List UInt8), (0 : Int), (none, 0, 0), (none, 0, 0), (0 : Int), (0 : Int)⟩ : api_Rec).Images).1) (((⟨(0 : Int), (0 : Int), (0 : Int), (0 : Int), (0 : Int), ([] : List UInt8), ([] : List UInt8), ([] : List UInt8), (0 : Int), (none, 0, 0), (none, 0, 0), (0 : Int), (0 : Int)⟩ : api_Rec).Images).2.1) (((⟨(0 : Int), (0 : Int), (0 : Int), (0 : Int), (0 : Int), ([] : List UInt8), ([] : List UInt8), ([] : List UInt8), (0 : Int), (none, 0, 0), (none, 0, 0), (0 : Int), (0 : Int)⟩ : api_Rec).Images).2.2), .slice (((⟨(0 : Int), (0 : Int), (0 : Int), (0 : Int), (0 : Int), ([] : List UInt8), ([] : List UInt8), ([] : List UInt8), (0 : Int), (none, 0, 0), (none, 0, 0), (0 : Int), (0 : Int)⟩ : api_Rec).Table).1) (((⟨(0 : Int), (0 : Int), (0 : Int), (0 : Int), (0 : Int), ([] : List UInt8), ([] : List UInt8), ([] : List UInt8), (0 : Int), (none, 0, 0), (none, 0, 0), (0 : Int), (0 : Int)⟩ : api_Rec).Table).2.1) (((⟨(0 : Int), (0 : Int), (0 : Int), (0 : Int), (0 : Int), ([] : List UInt8), ([] : List UInt8), ([] : List UInt8), (0 : Int), (none, 0, 0), (none, 0, 0), (0 : Int), (0 : Int)⟩ : api_Rec).Table).2.2), .int .i64 ((⟨(0 : Int), (0 : Int), (0 : Int), (0 : Int), (0 : Int), ([] : List UInt8), ([] : List UInt8), ([] : List UInt8), (0 : Int), (none, 0, 0), (none, 0, 0), (0 : Int), (0 : Int)⟩ : api_Rec).Epoch), .int .i64 ((⟨(0 : Int), (0 : Int), (0 : Int), (0 : Int), (0 : Int), ([] : List UInt8), ([] : List UInt8), ([] : List UInt8), (0 : Int), (none, 0, 0), (none, 0, 0), (0 : Int), (0 : Int)⟩ : api_Rec).Node)] v4 0 (K [(4, v4), (5, .int .i64 0), (6, .int .i64 6)])) := by kernel_rfl
@[go_sem] theorem c26_r3 (v0 : List UInt8) (v1 : Int) (v4 : Addr) : RP c26 3 [(0, str v0), (1, v1), (4, v4)] K =
 (rq (0 ≤ (v1 : Int) ∧ v1 ≤ (v0.length : Int) ∧ (v0.length : Int) ≤ (v0.length : Int)) (K [(0, str (ss v0 v1 (v0.length : Int))), (4, v4)])) := by kernel_rfl
@[go_sem] theorem c26_r4 (v0 : List UInt8) (v4 : Addr) : RP c26 4 [(0, str v0), (4, v4)] K =
 (K [(0, str v0), (4, v4), (25, decide ((v0.length : Int) < 6))]) := by kernel_rfl
@[go_sem] theorem c26_r5 (v4 : Addr) : RP c26 5 [(4, v4)] K =
 (stl [.int .i64 ((⟨(0 : Int), (0 : Int), (0 : Int), (0 : Int), (0 : Int), ([] : List UInt8), ([] : List UInt8), ([] : List UInt8), (0 : Int), (none, 0, 0), (none, 0, 0), (0 : Int), (0 : Int)⟩ : api_Rec).Kind), .int .i64 ((⟨(0 : Int), (0 : Int), (0 : Int), (0 : Int), (0 : Int), ([] : List UInt8), ([] : List UInt8), ([] : List UInt8), (0 : Int), (none, 0, 0), (none, 0, 0), (0 : Int), (0 : Int)⟩ : api_Rec).Txn), .int .i64 ((⟨(0 : Int), (0 : Int), (0 : Int), (0 : Int), (0 : Int), ([] : List UInt8), ([] : List UInt8), ([] : List UInt8), (0 : Int), (none, 0, 0), (none, 0, 0), (0 : Int), (0 : Int)⟩ : api_Rec).Prev), .int .i64 ((⟨(0 : Int), (0 : Int), (0 : Int), (0 : Int), (0 : Int), ([] : List UInt8), ([] : List UInt8), ([] : List UInt8), (0 : Int), (none, 0, 0), (none, 0, 0), (0 : Int), (0 : Int)⟩ : api_Rec).Page), .int .i64 ((⟨(0 : Int), (0 : Int), (0 : Int), (0 : Int), (0 : Int), ([] : List UInt8), ([] : List UInt8), ([] : List UInt8), (0 : Int), (none, 0, 0), (none, 0, 0), (0 : Int), (0 : Int)⟩ : api_Rec).Act), str ((⟨(0 : Int), (0 : Int), (0 : Int), (0 : Int), (0 : Int), ([] : List UInt8), ([] : List UInt8), ([] : List UInt8), (0 : Int), (none, 0, 0), (none, 0, 0), (0 : Int), (0 : Int)⟩ : api_Rec).Key), str ((⟨(0 : Int), (0 : Int), (0 : Int), (0 : Int), (0 : Int), ([] : List UInt8), ([] : List UInt8), ([] : List UInt8), (0 : Int), (none, 0, 0), (none, 0, 0), (0 : Int), (0 : Int)⟩ : api_Rec).Old), str ((⟨(0 : Int), (0 : Int), (0 : Int), (0 : Int), (0 : Int), ([] : List UInt8), ([] : List UInt8), ([] : List UInt8), (0 : Int), (none, 0, 0), (none, 0, 0), (0 : Int), (0 : Int)⟩ : api_Rec).New), .int .i64 ((⟨(0 : Int), (0 : Int), (0 : Int), (0 : Int), (0 : Int), ([] : List UInt8), ([] : List UInt8), ([] : List UInt8), (0 : Int), (none, 0, 0), (none, 0, 0), (0 : Int), (0 : Int)⟩ : api_Rec).Next), .slice (((⟨(0 : Int), (0 : Int), (0 : Int), (0 : Int), (0 : Int), ([] : List UInt8), ([] : List UInt8), ([] : List UInt8), (0 : Int), (none, 0, 0), (none, 0, 0), (0 : Int), (0 : Int)⟩ : api_Rec).Images).1) (((⟨(0 : Int), (0 : Int), (0 : Int), (0 : Int), (0 : Int), ([] : List UInt8), ([] : List UInt8), ([] : List UInt8), (0 : Int), (none, 0, 0), (none, 0, 0), (0 : Int), (0 : Int)⟩ : api_Rec).Images).2.1) (((⟨(0 : Int), (0 : Int), (0 : Int), (0 : Int), (0 : Int), ([] : List UInt8), ([] : List UInt8), ([] : List UInt8), (0 : Int), (none, 0, 0), (none, 0, 0), (0 : Int), (0 : Int)⟩ : api_Rec).Images).2.2), .slice (((⟨(0 : Int), (0 : Int), (0 : Int), (0 : Int), (0 : Int), ([] : List UInt8), ([] : List UInt8), ([] : List UInt8), (0 : Int), (none, 0, 0), (none, 0, 0), (0 : Int), (0 : Int)⟩ : api_Rec).Table).1) (((⟨(0 : Int), (0 : Int), (0 : Int), (0 : Int), (0 : Int), ([] : List UInt8), ([] : List UInt8), ([] : List UInt8), (0 : Int), (none, 0, 0), (none, 0, 0), (0 : Int), (0 : Int)⟩ : api_Rec).Table).2.1) (((⟨(0 : Int), (0 : Int), (0 : Int), (0 : Int), (0 : Int), ([] : List UInt8), ([] : List UInt8), ([] : List UInt8), (0 : Int), (none, 0, 0), (none, 0, 0), (0 : Int), (0 : Int)⟩ : api_Rec).Table).2.2), .int .i64 ((⟨(0 : Int), (0 : Int), (0 : Int), (0 : Int), (0 : Int), ([] : List UInt8), ([] : List UInt8), ([] : List UInt8), (0 : Int), (none, 0, 0), (none, 0, 0), (0 : Int), (0 : Int)⟩ : api_Rec).Epoch), .int .i64 ((⟨(0 : Int), (0 : Int), (0 : Int), (0 : Int), (0 : Int), ([] : List UInt8), ([] : List UInt8), ([] : List UInt8), (0 : Int), (none, 0, 0), (none, 0, 0), (0 : Int), (0 : Int)⟩ : api_Rec).Node)] v4 0 (K [(4, v4), (5, .int .i64 0), (6, .int .i64 2)])) := by kernel_rfl
@[go_sem] theorem c26_r6 (v0 : List UInt8) (v4 : Addr) : RP c26 6 [(0, str v0), (4, v4)] K =
 (cal eP Tryz.prog 84 #[str v0] fun (y1_ : Option Addr) => (cal eI Tryz.prog 85 #[y1_, .int .i64 2] fun (y2_ : Int) => (K [(0, str v0), (4, v4), (7, y2_)]))) := by kernel_rfl
@[go_sem] theorem c26_r7 (v0 : List UInt8) (v4 : Addr) (v7 : Int) : RP c26 7 [(0, str v0), (4, v4), (7, v7)] K =
 (cnd (decide (v7 < 1)) (K [(0, str v0), (4, v4), (7, v7), (30, true)]) (K [(0, str v0), (4, v4), (7, v7), (30, decide (4096 < v7))])) := by kernel_rfl
@[go_sem] theorem c26_r8 (v4 : Addr) : RP c26 8 [(4, v4)] K =
 (stl [.int .i64 ((⟨(0 : Int), (0 : Int), (0 : Int), (0 : Int), (0 : Int), ([] : List UInt8), ([] : List UInt8), ([] : List UInt8), (0 : Int), (none, 0, 0), (none, 0, 0), (0 : Int), (0 : Int)⟩ : api_Rec).Kind), .int .i64 ((⟨(0 : Int), (0 : Int), (0 : Int), (0 : Int), (0 : Int), ([] : List UInt8), ([] : List UInt8), ([] : List UInt8), (0 : Int), (none, 0, 0), (none, 0, 0), (0 : Int), (0 : Int)⟩ : api_Rec).Txn), .int .i64 ((⟨(0 : Int), (0 : Int), (0 : Int), (0 : Int), (0 : Int), ([] : List UInt8), ([] : List UInt8), ([] : List UInt8), (0 : Int), (none, 0, 0), (none, 0, 0), (0 : Int), (0 : Int)⟩ : api_Rec).Prev), .int .i64 ((⟨(0 : Int), (0 : Int), (0 : Int), (0 : Int), (0 : Int), ([] : List UInt8), ([] : List UInt8), ([] : List UInt8), (0 : Int), (none, 0, 0), (none, 0, 0), (0 : Int), (0 : Int)⟩ : api_Rec).Page), .int .i64 ((⟨(0 : Int), (0 : Int), (0 : Int), (0 : Int), (0 : Int), ([] : List UInt8), ([] : List UInt8), ([] : List UInt8), (0 : Int), (none, 0, 0), (none, 0, 0), (0 : Int), (0 : Int)⟩ : api_Rec).Act), str ((⟨(0 : Int), (0 : Int), (0 : Int), (0 : Int), (0 : Int), ([] : List UInt8), ([] : List UInt8), ([] : List UInt8), (0 : Int), (none, 0, 0), (none, 0, 0), (0 : Int), (0 : Int)⟩ : api_Rec).Key), str ((⟨(0 : Int), (0 : Int), (0 : Int), (0 : Int), (0 : Int), ([] : List UInt8), ([] : List UInt8), ([] : List UInt8), (0 : Int), (none, 0, 0), (none, 0, 0), (0 : Int), (0 : Int)⟩ : api_Rec).Old), str ((⟨(0 : Int), (0 : Int), (0 : Int), (0 : Int), (0 : Int), ([] : List UInt8), ([] : List UInt8), ([] : List UInt8), (0 : Int), (none, 0, 0), (none, 0, 0), (0 : Int), (0 : Int)⟩ : api_Rec).New), .int .i64 ((⟨(0 : Int), (0 : Int), (0 : Int), (0 : Int), (0 : Int), ([] : List UInt8), ([] : List UInt8), ([] : List UInt8), (0 : Int), (none, 0, 0), (none, 0, 0), (0 : Int), (0 : Int)⟩ : api_Rec).Next), .slice (((⟨(0 : Int), (0 : Int), (0 : Int), (0 : Int), (0 : Int), ([] : List UInt8), ([] : List UInt8), ([] : List UInt8), (0 : Int), (none, 0, 0), (none, 0, 0), (0 : Int), (0 : Int)⟩ : api_Rec).Images).1) (((⟨(0 : Int), (0 : Int), (0 : Int), (0 : Int), (0 : Int), ([] : List UInt8), ([] : List UInt8), ([] : List UInt8), (0 : Int), (none, 0, 0), (none, 0, 0), (0 : Int), (0 : Int)⟩ : api_Rec).Images).2.1) (((⟨(0 : Int), (0 : Int), (0 : Int), (0 : Int), (0 : Int), ([] : List UInt8), ([] : List UInt8), ([] : List UInt8), (0 : Int), (none, 0, 0), (none, 0, 0), (0 : Int), (0 : Int)⟩ : api_Rec).Images).2.2), .slice (((⟨(0 : Int), (0 : Int), (0 : Int), (0 : Int), (0 : Int), ([] : List UInt8), ([] : List UInt8), ([] : List UInt8), (0 : Int), (none, 0, 0), (none, 0, 0), (0 : Int), (0 : Int)⟩ : api_Rec).Table).1) (((⟨(0 : Int), (0 : Int), (0 : Int), (0 : Int), (0 : Int), ([] : List UInt8), ([] : List UInt8), ([] : List UInt8), (0 : Int), (none, 0, 0), (none, 0, 0), (0 : Int), (0 : Int)⟩ : api_Rec).Table).2.1) (((⟨(0 : Int), (0 : Int), (0 : Int), (0 : Int), (0 : Int), ([] : List UInt8), ([] : List UInt8), ([] : List UInt8), (0 : Int), (none, 0, 0), (none, 0, 0), (0 : Int), (0 : Int)⟩ : api_Rec).Table).2.2), .int .i64 ((⟨(0 : Int), (0 : Int), (0 : Int), (0 : Int), (0 : Int), ([] : List UInt8), ([] : List UInt8), ([] : List UInt8), (0 : Int), (none, 0, 0), (none, 0, 0), (0 : Int), (0 : Int)⟩ : api_Rec).Epoch), .int .i64 ((⟨(0 : Int), (0 : Int), (0 : Int), (0 : Int), (0 : Int), ([] : List UInt8), ([] : List UInt8), ([] : List UInt8), (0 : Int), (none, 0, 0), (none, 0, 0), (0 : Int), (0 : Int)⟩ : api_Rec).Node)] v4 0 (K [(4, v4), (5, .int .i64 0), (6, .int .i64 4)])) := by kernel_rfl
@[go_sem] theorem c26_r9 (v0 : List UInt8) (v4 : Addr) (v7 : Int) : RP c26 9 [(0, str v0), (4, v4), (7, v7)] K =
 (K [(0, str v0), (4, v4), (7, v7), (38, decide ((IntKind.wrap .i64 ((v0.length : Int) - 6)) < v7))]) := by kernel_rfl
@[go_sem] theorem c26_r10 (v4 : Addr) : RP c26 10 [(4, v4)] K =
 (stl [.int .i64 ((⟨(0 : Int), (0 : Int), (0 : Int), (0 : Int), (0 : Int), ([] : List UInt8), ([] : List UInt8), ([] : List UInt8), (0 : Int), (none, 0, 0), (none, 0, 0), (0 : Int), (0 : Int)⟩ : api_Rec).Kind), .int .i64 ((⟨(0 : Int), (0 : Int), (0 : Int), (0 : Int), (0 : Int), ([] : List UInt8), ([] : List UInt8), ([] : List UInt8), (0 : Int), (none, 0, 0), (none, 0, 0), (0 : Int), (0 : Int)⟩ : api_Rec).Txn), .int .i64 ((⟨(0 : Int), (0 : Int), (0 : Int), (0 : Int), (0 : Int), ([] : List UInt8), ([] : List UInt8), ([] : List UInt8), (0 : Int), (none, 0, 0), (none, 0, 0), (0 : Int), (0 : Int)⟩ : api_Rec).Prev), .int .i64 ((⟨(0 : Int), (0 : Int), (0 : Int), (0 : Int), (0 : Int), ([] : List UInt8), ([] : List UInt8), ([] : List UInt8), (0 : Int), (none, 0, 0), (none, 0, 0), (0 : Int), (0 : Int)⟩ : api_Rec).Page), .int .i64 ((⟨(0 : Int), (0 : Int), (0 : Int), (0 : Int), (0 : Int), ([] : List UInt8), ([] : List UInt8), ([] : List UInt8), (0 : Int), (none, 0, 0), (none, 0, 0), (0 : Int), (0 : Int)⟩ : api_Rec).Act), str ((⟨(0 : Int), (0 : Int), (0 : Int), (0 : Int), (0 : Int), ([] : List UInt8), ([] : List UInt8), ([] : List UInt8), (0 : Int), (none, 0, 0), (none, 0, 0), (0 : Int), (0 : Int)⟩ : api_Rec).Key), str ((⟨(0 : Int), (0 : Int), (0 : Int), (0 : Int), (0 : Int), ([] : List UInt8), ([] : List UInt8), ([] : List UInt8), (0 : Int), (none, 0, 0), (none, 0, 0), (0 : Int), (0 : Int)⟩ : api_Rec).Old), str ((⟨(0 : Int), (0 : Int), (0 : Int), (0 : Int), (0 : Int), ([] : List UInt8), ([] : List UInt8), ([] : List UInt8), (0 : Int), (none, 0, 0), (none, 0, 0), (0 : Int), (0 : Int)⟩ : api_Rec).New), .int .i64 ((⟨(0 : Int), (0 : Int), (0 : Int), (0 : Int), (0 : Int), ([] : List UInt8), ([] : List UInt8), ([] : List UInt8), (0 : Int), (none, 0, 0), (none, 0, 0), (0 : Int), (0 : Int)⟩ : api_Rec).Next), .slice (((⟨(0 : Int), (0 : Int), (0 : Int), (0 : Int), (0 : Int), ([] : List UInt8), ([] : List UInt8), ([] : List UInt8), (0 : Int), (none, 0, 0), (none, 0, 0), (0 : Int), (0 : Int)⟩ : api_Rec).Images).1) (((⟨(0 : Int), (0 : Int), (0 : Int), (0 : Int), (0 : Int), ([] : List UInt8), ([] : List UInt8), ([] : List UInt8), (0 : Int), (none, 0, 0), (none, 0, 0), (0 : Int), (0 : Int)⟩ : api_Rec).Images).2.1) (((⟨(0 : Int), (0 : Int), (0 : Int), (0 : Int), (0 : Int), ([] : List UInt8), ([] : List UInt8), ([] : List UInt8), (0 : Int), (none, 0, 0), (none, 0, 0), (0 : Int), (0 : Int)⟩ : api_Rec).Images).2.2), .slice (((⟨(0 : Int), (0 : Int), (0 : Int), (0 : Int), (0 : Int), ([] : List UInt8), ([] : List UInt8), ([] : List UInt8), (0 : Int), (none, 0, 0), (none, 0, 0), (0 : Int), (0 : Int)⟩ : api_Rec).Table).1) (((⟨(0 : Int), (0 : Int), (0 : Int), (0 : Int), (0 : Int), ([] : List UInt8), ([] : List UInt8), ([] : List UInt8), (0 : Int), (none, 0, 0), (none, 0, 0), (0 : Int), (0 : Int)⟩ : api_Rec).Table).2.1) (((⟨(0 : Int), (0 : Int), (0 : Int), (0 : Int), (0 : Int), ([] : List UInt8), ([] : List UInt8), ([] : List UInt8), (0 : Int), (none, 0, 0), (none, 0, 0), (0 : Int), (0 : Int)⟩ : api_Rec).Table).2.2), .int .i64 ((⟨(0 : Int), (0 : Int), (0 : Int), (0 : Int), (0 : Int), ([] : List UInt8), ([] : List UInt8), ([] : List UInt8), (0 : Int), (none, 0, 0), (none, 0, 0), (0 : Int), (0 : Int)⟩ : api_Rec).Epoch), .int .i64 ((⟨(0 : Int), (0 : Int), (0 : Int), (0 : Int), (0 : Int), ([] : List UInt8), ([] : List UInt8), ([] : List UInt8), (0 : Int), (none, 0, 0), (none, 0, 0), (0 : Int), (0 : Int)⟩ : api_Rec).Node)] v4 0 (K [(4, v4), (5, .int .i64 0), (6, .int .i64 2)])) := by kernel_rfl
@[go_sem] theorem c26_r11 (v0 : List UInt8) (v4 : Addr) (v7 : Int) : RP c26 11 [(0, str v0), (4, v4), (7, v7)] K =
 (rq (0 ≤ ((2 : Int) : Int) ∧ (2 : Int) ≤ (IntKind.wrap .i64 ((6 : Int) + v7)) ∧ (IntKind.wrap .i64 ((6 : Int) + v7)) ≤ (v0.length : Int)) (cal (eT2 eS eI) Tryz.prog 86 #[str (ss v0 (2 : Int) (IntKind.wrap .i64 ((6 : Int) + v7)))] fun (y1_ : ((List UInt8) × Int)) => (K [(4, v4), (7, v7), (8, str y1_.1), (9, y1_.2)]))) := by kernel_rfl
@[go_sem] theorem c26_r12 (v4 : Addr) (v7 : Int) (v8 : List UInt8) (v9 : Int) : RP c26 12 [(4, v4), (7, v7), (8, str v8), (9, v9)] K =
 (K [(4, v4), (7, v7), (8, str v8), (9, v9), (54, .bool (v9 != 0))]) := by kernel_rfl
@[go_sem] theorem c26_r13 (v4 : Addr) (v9 : Int) : RP c26 13 [(4, v4), (9, v9)] K =
 (stl [.int .i64 ((⟨(0 : Int), (0 : Int), (0 : Int), (0 : Int), (0 : Int), ([] : List UInt8), ([] : List UInt8), ([] : List UInt8), (0 : Int), (none, 0, 0), (none, 0, 0), (0 : Int), (0 : Int)⟩ : api_Rec).Kind), .int .i64 ((⟨(0 : Int), (0 : Int), (0 : Int), (0 : Int), (0 : Int), ([] : List UInt8), ([] : List UInt8), ([] : List UInt8), (0 : Int), (none, 0, 0), (none, 0, 0), (0 : Int), (0 : Int)⟩ : api_Rec).Txn), .int .i64 ((⟨(0 : Int), (0 : Int), (0 : Int), (0 : Int), (0 : Int), ([] : List UInt8), ([] : List UInt8), ([] : List UInt8), (0 : Int), (none, 0, 0), (none, 0, 0), (0 : Int), (0 : Int)⟩ : api_Rec).Prev), .int .i64 ((⟨(0 : Int), (0 : Int), (0 : Int), (0 : Int), (0 : Int), ([] : List UInt8), ([] : List UInt8), ([] : List UInt8), (0 : Int), (none, 0, 0), (none, 0, 0), (0 : Int), (0 : Int)⟩ : api_Rec).Page), .int .i64 ((⟨(0 : Int), (0 : Int), (0 : Int), (0 : Int), (0 : Int), ([] : List UInt8), ([] : List UInt8), ([] : List UInt8), (0 : Int), (none, 0, 0), (none, 0, 0), (0 : Int), (0 : Int)⟩ : api_Rec).Act), str ((⟨(0 : Int), (0 : Int), (0 : Int), (0 : Int), (0 : Int), ([] : List UInt8), ([] : List UInt8), ([] : List UInt8), (0 : Int), (none, 0, 0), (none, 0, 0), (0 : Int), (0 : Int)⟩ : api_Rec).Key), str ((⟨(0 : Int), (0 : Int), (0 : Int), (0 : Int), (0 : Int), ([] : List UInt8), ([] : List UInt8), ([] : List UInt8), (0 : Int), (none, 0, 0), (none, 0, 0), (0 : Int), (0 : Int)⟩ : api_Rec).Old), str ((⟨(0 : Int), (0 : Int), (0 : Int), (0 : Int), (0 : Int), ([] : List UInt8), ([] : List UInt8), ([] : List UInt8), (0 : Int), (none, 0, 0), (none, 0, 0), (0 : Int), (0 : Int)⟩ : api_Rec).New), .int .i64 ((⟨(0 : Int), (0 : Int), (0 : Int), (0 : Int), (0 : Int), ([] : List UInt8), ([] : List UInt8), ([] : List UInt8), (0 : Int), (none, 0, 0), (none, 0, 0), (0 : Int), (0 : Int)⟩ : api_Rec).Next), .slice (((⟨(0 : Int), (0 : Int), (0 : Int), (0 : Int), (0 : Int), ([] : List UInt8), ([] : List UInt8), ([] : List UInt8), (0 : Int), (none, 0, 0), (none, 0, 0), (0 : Int), (0 : Int)⟩ : api_Rec).Images).1) (((⟨(0 : Int), (0 : Int), (0 : Int), (0 : Int), (0 : Int), ([] : List UInt8), ([] : List UInt8), ([] : List UInt8), (0 : Int), (none, 0, 0), (none, 0, 0), (0 : Int), (0 : Int)⟩ : api_Rec).Images).2.1) (((⟨(0 : Int), (0 : Int), (0 : Int), (0 : Int), (0 : Int), ([] : List UInt8), ([] : List UInt8), ([] : List UInt8), (0 : Int), (none, 0, 0), (none, 0, 0), (0 : Int), (0 : Int)⟩ : api_Rec).Images).2.2), .slice (((⟨(0 : Int), (0 : Int), (0 : Int), (0 : Int), (0 : Int), ([] : List UInt8), ([] : List UInt8), ([] : List UInt8), (0 : Int), (none, 0, 0), (none, 0, 0), (0 : Int), (0 : Int)⟩ : api_Rec).Table).1) (((⟨(0 : Int), (0 : Int), (0 : Int), (0 : Int), (0 : Int), ([] : List UInt8), ([] : List UInt8), ([] : List UInt8), (0 : Int), (none, 0, 0), (none, 0, 0), (0 : Int), (0 : Int)⟩ : api_Rec).Table).2.1) (((⟨(0 : Int), (0 : Int), (0 : Int), (0 : Int), (0 : Int), ([] : List UInt8), ([] : List UInt8), ([] : List UInt8), (0 : Int), (none, 0, 0), (none, 0, 0), (0 : Int), (0 : Int)⟩ : api_Rec).Table).2.2), .int .i64 ((⟨(0 : Int), (0 : Int), (0 : Int), (0 : Int), (0 : Int), ([] : List UInt8), ([] : List UInt8), ([] : List UInt8), (0 : Int), (none, 0, 0), (none, 0, 0), (0 : Int), (0 : Int)⟩ : api_Rec).Epoch), .int .i64 ((⟨(0 : Int), (0 : Int), (0 : Int), (0 : Int), (0 : Int), ([] : List UInt8), ([] : List UInt8), ([] : List UInt8), (0 : Int), (none, 0, 0), (none, 0, 0), (0 : Int), (0 : Int)⟩ : api_Rec).Node)] v4 0 (K [(4, v4), (5, .int .i64 0), (6, v9)])) := by kernel_rfl
@[go_sem] theorem c26_r14 (v4 : Addr) (v7 : Int) (v8 : List UInt8) : RP c26 14 [(4, v4), (7, v7), (8, str v8)] K =
 (cal (eT2 e_api_Rec eI) Tryz.prog 87 #[str v8] fun (y1_ : (api_Rec × Int)) => (nwc #[.int .i64 0, .int .i64 0, .int .i64 0, .int .i64 0, .int .i64 0, str ([] : List UInt8), str ([] : List UInt8), str ([] : List UInt8), .int .i64 0, .slice none 0 0, .slice none 0 0, .int .i64 0, .int .i64 0] 36 fun y2_ => (stl [.int .i64 y1_.1.Kind, .int .i64 y1_.1.Txn, .int .i64 y1_.1.Prev, .int .i64 y1_.1.Page, .int .i64 y1_.1.Act, str y1_.1.Key, str y1_.1.Old, str y1_.1.New, .int .i64 y1_.1.Next, .slice y1_.1.Images.1 y1_.1.Images.2.1 y1_.1.Images.2.2, .slice y1_.1.Table.1 y1_.1.Table.2.1 y1_.1.Table.2.2, .int .i64 y1_.1.Epoch, .int .i64 y1_.1.Node] y2_ 0 (K [(4, v4), (7, v7), (9, y1_.2), (10, y2_)])))) := by kernel_rfl
@[go_sem] theorem c26_r15 (v4 : Addr) (v7 v9 : Int) (v10 : Addr) : RP c26 15 [(4, v4), (7, v7), (9, v9), (10, v10)] K =
 (K [(4, v4), (7, v7), (9, v9), (10, v10), (63, .bool (v9 != 0))]) := by kernel_rfl
@[go_sem] theorem c26_r16 (v4 : Addr) (v9 : Int) : RP c26 16 [(4, v4), (9, v9)] K =
 (stl [.int .i64 ((⟨(0 : Int), (0 : Int), (0 : Int), (0 : Int), (0 : Int), ([] : List UInt8), ([] : List UInt8), ([] : List UInt8), (0 : Int), (none, 0, 0), (none, 0, 0), (0 : Int), (0 : Int)⟩ : api_Rec).Kind), .int .i64 ((⟨(0 : Int), (0 : Int), (0 : Int), (0 : Int), (0 : Int), ([] : List UInt8), ([] : List UInt8), ([] : List UInt8), (0 : Int), (none, 0, 0), (none, 0, 0), (0 : Int), (0 : Int)⟩ : api_Rec).Txn), .int .i64 ((⟨(0 : Int), (0 : Int), (0 : Int), (0 : Int), (0 : Int), ([] : List UInt8), ([] : List UInt8), ([] : List UInt8), (0 : Int), (none, 0, 0), (none, 0, 0), (0 : Int), (0 : Int)⟩ : api_Rec).Prev), .int .i64 ((⟨(0 : Int), (0 : Int), (0 : Int), (0 : Int), (0 : Int), ([] : List UInt8), ([] : List UInt8), ([] : List UInt8), (0 : Int), (none, 0, 0), (none, 0, 0), (0 : Int), (0 : Int)⟩ : api_Rec).Page), .int .i64 ((⟨(0 : Int), (0 : Int), (0 : Int), (0 : Int), (0 : Int), ([] : List UInt8), ([] : List UInt8), ([] : List UInt8), (0 : Int), (none, 0, 0), (none, 0, 0), (0 : Int), (0 : Int)⟩ : api_Rec).Act), str ((⟨(0 : Int), (0 : Int), (0 : Int), (0 : Int), (0 : Int), ([] : List UInt8), ([] : List UInt8), ([] : List UInt8), (0 : Int), (none, 0, 0), (none, 0, 0), (0 : Int), (0 : Int)⟩ : api_Rec).Key), str ((⟨(0 : Int), (0 : Int), (0 : Int), (0 : Int), (0 : Int), ([] : List UInt8), ([] : List UInt8), ([] : List UInt8), (0 : Int), (none, 0, 0), (none, 0, 0), (0 : Int), (0 : Int)⟩ : api_Rec).Old), str ((⟨(0 : Int), (0 : Int), (0 : Int), (0 : Int), (0 : Int), ([] : List UInt8), ([] : List UInt8), ([] : List UInt8), (0 : Int), (none, 0, 0), (none, 0, 0), (0 : Int), (0 : Int)⟩ : api_Rec).New), .int .i64 ((⟨(0 : Int), (0 : Int), (0 : Int), (0 : Int), (0 : Int), ([] : List UInt8), ([] : List UInt8), ([] : List UInt8), (0 : Int), (none, 0, 0), (none, 0, 0), (0 : Int), (0 : Int)⟩ : api_Rec).Next), .slice (((⟨(0 : Int), (0 : Int), (0 : Int), (0 : Int), (0 : Int), ([] : List UInt8), ([] : List UInt8), ([] : List UInt8), (0 : Int), (none, 0, 0), (none, 0, 0), (0 : Int), (0 : Int)⟩ : api_Rec).Images).1) (((⟨(0 : Int), (0 : Int), (0 : Int), (0 : Int), (0 : Int), ([] : List UInt8), ([] : List UInt8), ([] : List UInt8), (0 : Int), (none, 0, 0), (none, 0, 0), (0 : Int), (0 : Int)⟩ : api_Rec).Images).2.1) (((⟨(0 : Int), (0 : Int), (0 : Int), (0 : Int), (0 : Int), ([] : List UInt8), ([] : List UInt8), ([] : List UInt8), (0 : Int), (none, 0, 0), (none, 0, 0), (0 : Int), (0 : Int)⟩ : api_Rec).Images).2.2), .slice (((⟨(0 : Int), (0 : Int), (0 : Int), (0 : Int), (0 : Int), ([] : List UInt8), ([] : List UInt8), ([] : List UInt8), (0 : Int), (none, 0, 0), (none, 0, 0), (0 : Int), (0 : Int)⟩ : api_Rec).Table).1) (((⟨(0 : Int), (0 : Int), (0 : Int), (0 : Int), (0 : Int), ([] : List UInt8), ([] : List UInt8), ([] : List UInt8), (0 : Int), (none, 0, 0), (none, 0, 0), (0 : Int), (0 : Int)⟩ : api_Rec).Table).2.1) (((⟨(0 : Int), (0 : Int), (0 : Int), (0 : Int), (0 : Int), ([] : List UInt8), ([] : List UInt8), ([] : List UInt8), (0 : Int), (none, 0, 0), (none, 0, 0), (0 : Int), (0 : Int)⟩ : api_Rec).Table).2.2), .int .i64 ((⟨(0 : Int), (0 : Int), (0 : Int), (0 : Int), (0 : Int), ([] : List UInt8), ([] : List UInt8), ([] : List UInt8), (0 : Int), (none, 0, 0), (none, 0, 0), (0 : Int), (0 : Int)⟩ : api_Rec).Epoch), .int .i64 ((⟨(0 : Int), (0 : Int), (0 : Int), (0 : Int), (0 : Int), ([] : List UInt8), ([] : List UInt8), ([] : List UInt8), (0 : Int), (none, 0, 0), (none, 0, 0), (0 : Int), (0 : Int)⟩ : api_Rec).Node)] v4 0 (K [(4, v4), (5, .int .i64 0), (6, v9)])) := by kernel_rfl
@[go_sem] theorem c26_r17 (v4 : Addr) (v7 : Int) (v10 : Addr) : RP c26 17 [(4, v4), (7, v7), (10, v10)] K =
 (ldn e_api_Rec 13 v10 fun (y1_ : api_Rec) => (stl [y1_.Kind, y1_.Txn, y1_.Prev, y1_.Page, y1_.Act, str y1_.Key, str y1_.Old, str y1_.New, y1_.Next, .slice y1_.Images.1 y1_.Images.2.1 y1_.Images.2.2, .slice y1_.Table.1 y1_.Table.2.1 y1_.Table.2.2, y1_.Epoch, y1_.Node] v4 0 (K [(4, v4), (5, IntKind.wrap .i64 ((6 : Int) + v7)), (6, .int .i64 0)]))) := by kernel_rfl
@[go_sem] theorem c26_o : c26.lo 1000000 = [4, 5, 6] := rfl
@[go_sem] theorem c26_e (v4 : Addr) (v5 v6 : Int) : RTp c26 [(4, v4), (5, v5), (6, v6)] k = (ldn e_api_Rec 13 v4 fun (y1_ : api_Rec) => (k (.tuple #[v_api_Rec y1_, v5, v6]))) := by kernel_rfl
theorem c26_ok : (c26.P.follows .mixedOrders && okc c26 c26.body) = true := by kernel_rfl
theorem c26_fn (hρ : envA 0 args.toList = ρ) (hs : Nat.ble args.size 69 = true) (h : E L (D c26 (.seq (.reg 0) (.seq (.seq (.reg 1) (.cond (.tmp 18) (.seq (.reg 2) (.ret)) (.skip))) (.seq (.reg 3) (.seq (.seq (.reg 4) (.cond (.tmp 25) (.seq (.reg 5) (.ret)) (.skip))) (.seq (.reg 6) (.seq (.block 0 (.seq (.reg 7) (.cond (.tmp 30) (.seq (.reg 8) (.ret)) (.seq (.reg 9) (.cond (.tmp 38) (.seq (.reg 10) (.ret)) (.skip)))))) (.seq (.reg 11) (.seq (.seq (.reg 12) (.cond (.tmp 54) (.seq (.reg 13) (.ret)) (.skip))) (.seq (.reg 14) (.seq (.seq (.reg 15) (.cond (.tmp 63) (.seq (.reg 16) (.ret)) (.skip))) (.seq (.reg 17) (.ret)))))))))))) (fnQ c26 e G) ρ)) : E L (cal e Tryz.prog 26 args G) :=
  d_fn (c := c26) Tryz.func26 (by kernel_rfl) (by kernel_rfl) (by kernel_rfl) c26_ok (by kernel_rfl) (by kernel_rfl) hρ hs h
end Go.Sp
namespace Go.Sp
open Go Go.Proofs
set_option linter.unusedSimpArgs false
set_option linter.unusedVariables false
set_option maxRecDepth 10000
def Rd.left (R : Rd) : Int := if R.e = 0 then (R.s.length : Int) - R.a else 0
def Rd.fin (R : Rd) : Rd := if 0 < R.left then R.fail 4 else R
structure Rd.in (R : Rd) (b : Nat) (s : List UInt8) : Prop where
  b : R.b = b
  s : R.s = s
  a : R.a ≤ R.s.length
theorem Rd.in.raw {R : Rd} {b : Nat} {s : List UInt8} (h : R.in b s) (n : Int) : (R.raw n).2.in b s := by
  obtain ⟨h1, h2, h3⟩ := Rd.raw_a n h.a
  exact ⟨h3.trans h.b, h2.trans h.s, h1⟩
theorem Rd.in.fail {R : Rd} {b : Nat} {s : List UInt8} (h : R.in b s) (x : Int) : (R.fail x).in b s := by
  unfold Rd.fail
  split
  · exact ⟨h.b, h.s, h.a⟩
  · exact h
theorem Rd.in.text {R : Rd} {b : Nat} {s : List UInt8} (h : R.in b s) (n : Int) : (R.text n).2.in b s := by
  unfold Rd.text
  split
  · exact ((h.raw 2).fail 3).raw _
  · exact (h.raw 2).raw _
def rim : Nat → Rd → List api_Image → List api_Image × Rd
  | 0, R, l => (l, R)
  | k + 1, R, l => if (((R.raw 2).2.text 224).2.e) = 0 then rim k ((R.raw 2).2.text 224).2 (l ++ [⟨be (R.raw 2).1, ((R.raw 2).2.text 224).1⟩]) else ([], ((R.raw 2).2.text 224).2)
def rtb : Nat → Rd → List api_Active → List api_Active × Rd
  | 0, R, l => (l, R)
  | k + 1, R, l => rtb k ((R.raw 6).2.raw 6).2 (l ++ [⟨be (R.raw 6).1, be ((R.raw 6).2.raw 6).1⟩])
def rcK (R : Rd) : List UInt8 × Rd := (R.raw 2).2.text 16
def rcO (R : Rd) (act : Int) : List UInt8 × Rd := if act = 3 then ([], (rcK R).2) else (rcK R).2.text 32
def rcN (R : Rd) (act : Int) : List UInt8 × Rd := if act = 4 then ([], (rcO R act).2) else (rcO R act).2.text 32
def rof (R : Rd) (k : Int) : Rc × Rd :=
  if k = 1 ∨ k = 2 then ({ Rc.z k with imgs := (rim (be (R.raw 1).1) (R.raw 1).2 []).1 }, (rim (be (R.raw 1).1) (R.raw 1).2 []).2)
  else if k = 6 then
    (fun (t p n a : Int) (Q : Rd) => (⟨k, t, p, be (Q.raw 2).1, a, (rcK Q).1, (rcO Q a).1, (rcN Q a).1, n, [], [], 0, 0⟩, (rcN Q a).2))
      (be (R.raw 6).1) (be ((R.raw 6).2.raw 6).1) (be (((R.raw 6).2.raw 6).2.raw 6).1) (be ((((R.raw 6).2.raw 6).2.raw 6).2.raw 1).1) ((((R.raw 6).2.raw 6).2.raw 6).2.raw 1).2
  else if k = 3 ∨ k = 4 ∨ k = 5 then
    (fun (t p : Int) (Q : Rd) => (⟨k, t, p, be (Q.raw 2).1, 0, (rcK Q).1, (rcO Q k).1, (rcN Q k).1, 0, [], [], 0, 0⟩, (rcN Q k).2)) (be (R.raw 6).1) (be ((R.raw 6).2.raw 6).1) ((R.raw 6).2.raw 6).2
  else if k = 7 ∨ k = 8 then ({ Rc.z k with txn := be (R.raw 6).1, prev := be ((R.raw 6).2.raw 6).1 }, ((R.raw 6).2.raw 6).2)
  else if k = 9 then ({ Rc.z k with tbl := (rtb (be (R.raw 1).1) (R.raw 1).2 []).1 }, (rtb (be (R.raw 1).1) (R.raw 1).2 []).2)
  else if k = 10 then ({ Rc.z k with epoch := be (R.raw 4).1, node := be ((R.raw 4).2.raw 1).1 }, ((R.raw 4).2.raw 1).2)
  else (Rc.z k, R)
def ofin (s : List UInt8) (Q : Rd) (c : Rc) : Rc × Int := if Q.fin.e = 0 then (if c.body = (s, 0) then (c, 0) else (Rc.z 0, 4)) else (Rc.z 0, Q.fin.e)
def ofP (b : Nat) (s : List UInt8) : Rc × Int :=
  if ((⟨b, s, 0, 0⟩ : Rd).raw 1).2.e = 0 then ofin s (rof ((⟨b, s, 0, 0⟩ : Rd).raw 1).2 (be ((⟨b, s, 0, 0⟩ : Rd).raw 1).1)).2 (rof ((⟨b, s, 0, 0⟩ : Rd).raw 1).2 (be ((⟨b, s, 0, 0⟩ : Rd).raw 1).1)).1
  else (Rc.z 0, ((⟨b, s, 0, 0⟩ : Rd).raw 1).2.e)
def Rd.at (R : Rd) (c : Nat) : Rd := ⟨c, R.s, R.a, R.e⟩
def opn0 (s : List UInt8) : Rc × Int × Int :=
  if s.length < 6 then (Rc.z 0, 0, 2)
  else if be (s.take 2) < 1 ∨ 4096 < be (s.take 2) then (Rc.z 0, 0, 4)
  else if s.length < 6 + be (s.take 2) then (Rc.z 0, 0, 2)
  else if (unsl ((s.drop 2).take (4 + be (s.take 2)))).2 = 0 then
    (if (ofP 0 (unsl ((s.drop 2).take (4 + be (s.take 2)))).1).2 = 0 then ((ofP 0 (unsl ((s.drop 2).take (4 + be (s.take 2)))).1).1, ((6 + be (s.take 2) : Nat) : Int), 0)
    else (Rc.z 0, 0, (ofP 0 (unsl ((s.drop 2).take (4 + be (s.take 2)))).1).2))
  else (Rc.z 0, 0, (unsl ((s.drop 2).take (4 + be (s.take 2)))).2)
def opn (s : List UInt8) (n : Int) : Rc × Int × Int := if n < 0 ∨ (s.length : Int) < n then (Rc.z 0, 0, 6) else opn0 (s.drop n.toNat)
def fitN (n : Int) (w : Nat) : Prop := 0 ≤ n ∧ n < ((256 ^ w : Nat) : Int)
structure Rat (R : Rd) (s Y : List UInt8) : Prop where
  e : R.e = 0
  a : R.a ≤ s.length
  d : s.drop R.a = Y
  t : R.s = s
theorem Rat.raw {R : Rd} {s B Y : List UInt8} (h : Rat R s (B ++ Y)) {w : Nat} {wi : Int} (hw : wi = (w : Int)) (hB : B.length = w) : (R.raw wi).1 = B ∧ Rat (R.raw wi).2 s Y := by
  obtain ⟨b, s', a, e⟩ := R
  obtain ⟨h1, h3, h4, h2⟩ := h
  dsimp only at h1 h2 h3 h4
  subst h1 h2 hw
  have hl : s'.length - a = w + Y.length := by
    have := congrArg List.length h4
    rw [List.length_drop, List.length_append, hB] at this
    exact this
  rw [raw_go b s' a w (by omega), h4]
  refine ⟨List.take_left' hB, rfl, by dsimp only; omega, ?_, rfl⟩
  dsimp only
  rw [← List.drop_drop, h4]
  exact List.drop_left' hB
theorem Rat.num {R : Rd} {s Y : List UInt8} {n : Int} {w : Nat} (h : Rat R s (lowb n w ++ Y)) {wi : Int} (hw : wi = (w : Int)) (hf : fitN n w) : (be (R.raw wi).1 : Int) = n ∧ Rat (R.raw wi).2 s Y := by
  obtain ⟨h1, h2⟩ := h.raw hw (lowb_len n w)
  rw [h1]
  exact ⟨be_fits hf.1 hf.2, h2⟩
theorem fit2 {t : List UInt8} (h : t.length < 65536) : fitN (t.length : Int) 2 := ⟨by omega, by rw [show ((256 ^ 2 : Nat) : Int) = 65536 by decide]; omega⟩
theorem Rat.text {R : Rd} {s t Y : List UInt8} (h : Rat R s (lowb (t.length : Int) 2 ++ (t ++ Y))) {m : Int} (ht : t.length < 65536) (hm : (t.length : Int) ≤ m) : (R.text m).1 = t ∧ Rat (R.text m).2 s Y := by
  obtain ⟨h1, h2⟩ := h.num (wi := 2) rfl (fit2 ht)
  unfold Rd.text
  rw [h1, if_neg (by omega)]
  exact h2.raw rfl rfl
theorem Rat.fin {R : Rd} {s : List UInt8} (h : Rat R s []) : R.fin = R := by
  have hl := congrArg List.length h.d
  rw [List.length_drop] at hl
  simp only [List.length_nil] at hl
  have ha := h.a
  unfold Rd.fin Rd.left
  rw [h.e, if_pos rfl, h.t, if_neg (by omega)]
theorem Rat.start (b : List UInt8) : Rat ⟨0, b, 0, 0⟩ b b := ⟨rfl, by simp, rfl, rfl⟩
theorem nat_eq {a b : Nat} (h : (a : Int) = (b : Int)) : a = b := by omega
end Go.Sp
namespace Go.Proofs
open Go.Shelf
def Tryz.lays189_ren : Go.Shelf.Ren := ⟨fun | 189 => 136 | 125 => 146 | 257 => 145 | 128 => 158 | 129 => 159 | 294 => 149 | 295 => 150 | 296 => 151 | 297 => 152 | 298 => 153 | 299 => 154 | 216 => 155 | 300 => 156 | 301 => 157 | 328 => 160 | 329 => 161 | 330 => 162 | 331 => 163 | 332 => 164 | 215 => 165 | 343 => 166 | n => n, fun | 28 => 45 | 3 => 3 | 46 => 165 | 0 => 0 | 51 => 174 | 53 => 101 | 4 => 4 | 183 => 196 | 182 => 195 | 131 => 200 | 5 => 5 | 9 => 9 | 218 => 204 | 222 => 208 | 228 => 210 | 229 => 97 | n => n, fun | n => n⟩
theorem Tryz.lays189 : Go.Proofs.Lays.n189 Tryz.prog Tryz.lays189_ren := {
  mixed := by kernel_rfl
  f125 := Tryz.func146.trans (congrArg some (by kernel_rfl))
  f128 := Tryz.func158.trans (congrArg some (by kernel_rfl))
  f129 := Tryz.func159.trans (congrArg some (by kernel_rfl))
  f189 := Tryz.func136.trans (congrArg some (by kernel_rfl))
  f215 := Tryz.func165.trans (congrArg some (by kernel_rfl))
  f216 := Tryz.func155.trans (congrArg some (by kernel_rfl))
  f257 := Tryz.func145.trans (congrArg some (by kernel_rfl))
  f294 := Tryz.func149.trans (congrArg some (by kernel_rfl))
  f295 := Tryz.func150.trans (congrArg some (by kernel_rfl))
  f296 := Tryz.func151.trans (congrArg some (by kernel_rfl))
  f297 := Tryz.func152.trans (congrArg some (by kernel_rfl))
  f298 := Tryz.func153.trans (congrArg some (by kernel_rfl))
  f299 := Tryz.func154.trans (congrArg some (by kernel_rfl))
  f300 := Tryz.func156.trans (congrArg some (by kernel_rfl))
  f301 := Tryz.func157.trans (congrArg some (by kernel_rfl))
  f328 := Tryz.func160.trans (congrArg some (by kernel_rfl))
  f329 := Tryz.func161.trans (congrArg some (by kernel_rfl))
  f330 := Tryz.func162.trans (congrArg some (by kernel_rfl))
  f331 := Tryz.func163.trans (congrArg some (by kernel_rfl))
  f332 := Tryz.func164.trans (congrArg some (by kernel_rfl))
  f343 := Tryz.func166.trans (congrArg some (by kernel_rfl))
  t0 := Tryz.underlying0
  a0 := Tryz.isAgg0
  z0 := Tryz.sizeOf0
  v0 := Tryz.zeroValue0
  t3 := Tryz.underlying3
  a3 := Tryz.isAgg3
  z3 := Tryz.sizeOf3
  v3 := Tryz.zeroValue3
  t4 := Tryz.underlying4
  a4 := Tryz.isAgg4
  z4 := Tryz.sizeOf4
  v4 := Tryz.zeroValue4
  t5 := Tryz.underlying5
  a5 := Tryz.isAgg5
  z5 := Tryz.sizeOf5
  v5 := Tryz.zeroValue5
  t9 := Tryz.underlying9
  a9 := Tryz.isAgg9
  z9 := Tryz.sizeOf9
  v9 := Tryz.zeroValue9
  t28 := Tryz.underlying45
  a28 := Tryz.isAgg45
  z28 := Tryz.sizeOf45
  v28 := Tryz.zeroValue45
  t46 := Tryz.underlying165
  a46 := Tryz.isAgg165
  z46 := Tryz.sizeOf165
  v46 := Tryz.zeroValue165
  t51 := Tryz.underlying174
  a51 := Tryz.isAgg174
  z51 := Tryz.sizeOf174
  v51 := Tryz.zeroValue174
  t53 := Tryz.underlying101
  a53 := Tryz.isAgg101
  z53 := Tryz.sizeOf101
  v53 := Tryz.zeroValue101
  t131 := Tryz.underlying200
  a131 := Tryz.isAgg200
  z131 := Tryz.sizeOf200
  v131 := Tryz.zeroValue200
  t182 := Tryz.underlying195
  a182 := Tryz.isAgg195
  z182 := Tryz.sizeOf195
  v182 := Tryz.zeroValue195
  t183 := Tryz.underlying196
  a183 := Tryz.isAgg196
  z183 := Tryz.sizeOf196
  v183 := Tryz.zeroValue196
  t218 := Tryz.underlying204
  a218 := Tryz.isAgg204
  z218 := Tryz.sizeOf204
  v218 := Tryz.zeroValue204
  t222 := Tryz.underlying208
  a222 := Tryz.isAgg208
  z222 := Tryz.sizeOf208
  v222 := Tryz.zeroValue208
  t228 := Tryz.underlying210
  a228 := Tryz.isAgg210
  z228 := Tryz.sizeOf210
  v228 := Tryz.zeroValue210
  t229 := Tryz.underlying97
  a229 := Tryz.isAgg97
  z229 := Tryz.sizeOf97
  v229 := Tryz.zeroValue97 }
def Tryz.lays105_ren : Go.Shelf.Ren := ⟨fun | 105 => 112 | 212 => 129 | 99 => 130 | 165 => 131 | 166 => 100 | 170 => 132 | 169 => 102 | 263 => 141 | 264 => 142 | 206 => 143 | 240 => 124 | 241 => 144 | 276 => 137 | 277 => 148 | n => n, fun | 9 => 9 | 3 => 3 | 4 => 4 | 20 => 20 | 0 => 0 | 46 => 165 | 109 => 176 | 5 => 5 | 72 => 144 | 76 => 147 | 51 => 174 | 146 => 186 | 53 => 101 | 148 => 188 | 70 => 142 | 37 => 116 | 75 => 146 | 127 => 171 | 164 => 181 | 80 => 150 | n => n, fun | n => n⟩
theorem Tryz.lays105 : Go.Proofs.Lays.n105 Tryz.prog Tryz.lays105_ren := {
  mixed := by kernel_rfl
  f99 := Tryz.func130.trans (congrArg some (by kernel_rfl))
  f105 := Tryz.func112.trans (congrArg some (by kernel_rfl))
  f165 := Tryz.func131.trans (congrArg some (by kernel_rfl))
  f166 := Tryz.func100.trans (congrArg some (by kernel_rfl))
  f169 := Tryz.func102.trans (congrArg some (by kernel_rfl))
  f170 := Tryz.func132.trans (congrArg some (by kernel_rfl))
  f206 := Tryz.func143.trans (congrArg some (by kernel_rfl))
  f212 := Tryz.func129.trans (congrArg some (by kernel_rfl))
  f240 := Tryz.func124.trans (congrArg some (by kernel_rfl))
  f241 := Tryz.func144.trans (congrArg some (by kernel_rfl))
  f263 := Tryz.func141.trans (congrArg some (by kernel_rfl))
  f264 := Tryz.func142.trans (congrArg some (by kernel_rfl))
  f276 := Tryz.func137.trans (congrArg some (by kernel_rfl))
  f277 := Tryz.func148.trans (congrArg some (by kernel_rfl))
  t0 := Tryz.underlying0
  a0 := Tryz.isAgg0
  z0 := Tryz.sizeOf0
  v0 := Tryz.zeroValue0
  t3 := Tryz.underlying3
  a3 := Tryz.isAgg3
  z3 := Tryz.sizeOf3
  v3 := Tryz.zeroValue3
  t4 := Tryz.underlying4
  a4 := Tryz.isAgg4
  z4 := Tryz.sizeOf4
  v4 := Tryz.zeroValue4
  t5 := Tryz.underlying5
  a5 := Tryz.isAgg5
  z5 := Tryz.sizeOf5
  v5 := Tryz.zeroValue5
  t9 := Tryz.underlying9
  a9 := Tryz.isAgg9
  z9 := Tryz.sizeOf9
  v9 := Tryz.zeroValue9
  t20 := Tryz.underlying20
  a20 := Tryz.isAgg20
  z20 := Tryz.sizeOf20
  v20 := Tryz.zeroValue20
  t37 := Tryz.underlying116
  a37 := Tryz.isAgg116
  z37 := Tryz.sizeOf116
  v37 := Tryz.zeroValue116
  t46 := Tryz.underlying165
  a46 := Tryz.isAgg165
  z46 := Tryz.sizeOf165
  v46 := Tryz.zeroValue165
  t51 := Tryz.underlying174
  a51 := Tryz.isAgg174
  z51 := Tryz.sizeOf174
  v51 := Tryz.zeroValue174
  t53 := Tryz.underlying101
  a53 := Tryz.isAgg101
  z53 := Tryz.sizeOf101
  v53 := Tryz.zeroValue101
  t70 := Tryz.underlying142
  a70 := Tryz.isAgg142
  z70 := Tryz.sizeOf142
  v70 := Tryz.zeroValue142
  t72 := Tryz.underlying144
  a72 := Tryz.isAgg144
  z72 := Tryz.sizeOf144
  v72 := Tryz.zeroValue144
  t75 := Tryz.underlying146
  a75 := Tryz.isAgg146
  z75 := Tryz.sizeOf146
  v75 := Tryz.zeroValue146
  t76 := Tryz.underlying147
  a76 := Tryz.isAgg147
  z76 := Tryz.sizeOf147
  v76 := Tryz.zeroValue147
  t109 := Tryz.underlying176
  a109 := Tryz.isAgg176
  z109 := Tryz.sizeOf176
  v109 := Tryz.zeroValue176
  t127 := Tryz.underlying171
  a127 := Tryz.isAgg171
  z127 := Tryz.sizeOf171
  v127 := Tryz.zeroValue171
  t146 := Tryz.underlying186
  a146 := Tryz.isAgg186
  z146 := Tryz.sizeOf186
  v146 := Tryz.zeroValue186
  t148 := Tryz.underlying188
  a148 := Tryz.isAgg188
  z148 := Tryz.sizeOf188
  v148 := Tryz.zeroValue188
  t164 := Tryz.underlying181
  a164 := Tryz.isAgg181
  z164 := Tryz.sizeOf181
  v164 := Tryz.zeroValue181 }
theorem Tryz.builder : Builder.Extra Tryz.prog Tryz.lays105_ren := {
  sizeBuilder := by kernel_rfl
  liesBuilder := by kernel_rfl
  t5 := Tryz.underlying5
  a5 := Tryz.isAgg5
  z5 := Tryz.sizeOf5
  v5 := Tryz.zeroValue5
  infoByte := by kernel_rfl
  cellsByte := by kernel_rfl
  sizeByte := by kernel_rfl
  neB5 := by decide }
def Tryz.lays169_ren : Go.Shelf.Ren := ⟨fun | 169 => 102 | n => n, fun | 70 => 142 | 9 => 9 | 0 => 0 | 72 => 144 | 37 => 116 | 127 => 171 | 3 => 3 | 5 => 5 | n => n, fun | n => n⟩
theorem Tryz.lays169 : Go.Proofs.Lays.n169 Tryz.prog Tryz.lays169_ren := {
  mixed := by kernel_rfl
  f169 := Tryz.func102.trans (congrArg some (by kernel_rfl))
  t0 := Tryz.underlying0
  a0 := Tryz.isAgg0
  z0 := Tryz.sizeOf0
  v0 := Tryz.zeroValue0
  t3 := Tryz.underlying3
  a3 := Tryz.isAgg3
  z3 := Tryz.sizeOf3
  v3 := Tryz.zeroValue3
  t9 := Tryz.underlying9
  a9 := Tryz.isAgg9
  z9 := Tryz.sizeOf9
  v9 := Tryz.zeroValue9
  t37 := Tryz.underlying116
  a37 := Tryz.isAgg116
  z37 := Tryz.sizeOf116
  v37 := Tryz.zeroValue116
  t70 := Tryz.underlying142
  a70 := Tryz.isAgg142
  z70 := Tryz.sizeOf142
  v70 := Tryz.zeroValue142
  t72 := Tryz.underlying144
  a72 := Tryz.isAgg144
  z72 := Tryz.sizeOf144
  v72 := Tryz.zeroValue144
  t127 := Tryz.underlying171
  a127 := Tryz.isAgg171
  z127 := Tryz.sizeOf171
  v127 := Tryz.zeroValue171 }
theorem Tryz.builderS : Builder.Extra Tryz.prog Tryz.lays169_ren := {
  sizeBuilder := by kernel_rfl
  liesBuilder := by kernel_rfl
  t5 := Tryz.underlying5
  a5 := Tryz.isAgg5
  z5 := Tryz.sizeOf5
  v5 := Tryz.zeroValue5
  infoByte := by kernel_rfl
  cellsByte := by kernel_rfl
  sizeByte := by kernel_rfl
  neB5 := by decide }
def Tryz.lays166_ren : Go.Shelf.Ren := ⟨fun | 166 => 100 | 240 => 124 | 276 => 137 | n => n, fun | 70 => 142 | 72 => 144 | 37 => 116 | 75 => 146 | 80 => 150 | 164 => 181 | n => n, fun | n => n⟩
theorem Tryz.lays166 : Go.Proofs.Lays.n166 Tryz.prog Tryz.lays166_ren := {
  mixed := by kernel_rfl
  f166 := Tryz.func100.trans (congrArg some (by kernel_rfl))
  f240 := Tryz.func124.trans (congrArg some (by kernel_rfl))
  f276 := Tryz.func137.trans (congrArg some (by kernel_rfl))
  t0 := Tryz.underlying0
  a0 := Tryz.isAgg0
  z0 := Tryz.sizeOf0
  v0 := Tryz.zeroValue0
  t3 := Tryz.underlying3
  a3 := Tryz.isAgg3
  z3 := Tryz.sizeOf3
  v3 := Tryz.zeroValue3
  t4 := Tryz.underlying4
  a4 := Tryz.isAgg4
  z4 := Tryz.sizeOf4
  v4 := Tryz.zeroValue4
  t9 := Tryz.underlying9
  a9 := Tryz.isAgg9
  z9 := Tryz.sizeOf9
  v9 := Tryz.zeroValue9
  t20 := Tryz.underlying20
  a20 := Tryz.isAgg20
  z20 := Tryz.sizeOf20
  v20 := Tryz.zeroValue20
  t37 := Tryz.underlying116
  a37 := Tryz.isAgg116
  z37 := Tryz.sizeOf116
  v37 := Tryz.zeroValue116
  t70 := Tryz.underlying142
  a70 := Tryz.isAgg142
  z70 := Tryz.sizeOf142
  v70 := Tryz.zeroValue142
  t72 := Tryz.underlying144
  a72 := Tryz.isAgg144
  z72 := Tryz.sizeOf144
  v72 := Tryz.zeroValue144
  t75 := Tryz.underlying146
  a75 := Tryz.isAgg146
  z75 := Tryz.sizeOf146
  v75 := Tryz.zeroValue146
  t164 := Tryz.underlying181
  a164 := Tryz.isAgg181
  z164 := Tryz.sizeOf181
  v164 := Tryz.zeroValue181 }
theorem Tryz.builderW : Builder.Extra Tryz.prog Tryz.lays166_ren := {
  sizeBuilder := by kernel_rfl
  liesBuilder := by kernel_rfl
  t5 := Tryz.underlying5
  a5 := Tryz.isAgg5
  z5 := Tryz.sizeOf5
  v5 := Tryz.zeroValue5
  infoByte := by kernel_rfl
  cellsByte := by kernel_rfl
  sizeByte := by kernel_rfl
  neB5 := by decide }
end Go.Proofs
namespace Go.Sp
open Go
set_option maxRecDepth 100000
set_option linter.unusedVariables false
open Go.Proofs
variable (K : Env → W) (k : Value → W) {e : Enc} {args : Array Value} {G : e.α → W} {L : List HP} {ρ : Env}
attribute [local instance] cI cB cP cA
noncomputable def c16 := cf Tryz.f16 15 [(0, [0]), (1, [0]), (2, []), (3, [0])] [(0, [0]), (1, [0, 9]), (2, [2, 3]), (3, [2, 3]), (1000000, [2, 3])] [] []
@[go_sem] theorem c16_i : c16.li 0 = [0] ∧ c16.li 1 = [0] ∧ c16.li 2 = [] ∧ c16.li 3 = [0] := ⟨rfl, rfl, rfl, rfl⟩
@[go_sem] theorem c16_r0 (v0 : Int) : RP c16 0 [(0, v0)] K =
 (K [(0, v0)]) := by kernel_rfl
@[go_sem] theorem c16_r1 (v0 : Int) : RP c16 1 [(0, v0)] K =
 (cnd (decide (v0 < 1)) (K [(0, v0), (9, true)]) (K [(0, v0), (9, decide (8192 < v0))])) := by kernel_rfl
@[go_sem] theorem c16_r2 : RP c16 2 [] K =
 (K [(2, .pointer none), (3, .int .i64 1)]) := by kernel_rfl
@[go_sem] theorem c16_r3 (v0 : Int) : RP c16 3 [(0, v0)] K =
 (val eSl Tryz.prog (oMake 44 (v0) (v0)) fun (y1_ : (Option Addr × Nat × Nat)) => (nwb (.map #[] 0) fun y2_ => (nwc #[.slice (((⟨(y1_.1, y1_.2.1, y1_.2.2), (some y2_), true, (-1 : Int), (0 : Int), (0 : Int), (0 : Int)⟩ : disk_Disk).sure).1) (((⟨(y1_.1, y1_.2.1, y1_.2.2), (some y2_), true, (-1 : Int), (0 : Int), (0 : Int), (0 : Int)⟩ : disk_Disk).sure).2.1) (((⟨(y1_.1, y1_.2.1, y1_.2.2), (some y2_), true, (-1 : Int), (0 : Int), (0 : Int), (0 : Int)⟩ : disk_Disk).sure).2.2), .map ((⟨(y1_.1, y1_.2.1, y1_.2.2), (some y2_), true, (-1 : Int), (0 : Int), (0 : Int), (0 : Int)⟩ : disk_Disk).wait), .bool ((⟨(y1_.1, y1_.2.1, y1_.2.2), (some y2_), true, (-1 : Int), (0 : Int), (0 : Int), (0 : Int)⟩ : disk_Disk).up), .int .i64 ((⟨(y1_.1, y1_.2.1, y1_.2.2), (some y2_), true, (-1 : Int), (0 : Int), (0 : Int), (0 : Int)⟩ : disk_Disk).fuse), .int .u64 ((⟨(y1_.1, y1_.2.1, y1_.2.2), (some y2_), true, (-1 : Int), (0 : Int), (0 : Int), (0 : Int)⟩ : disk_Disk).keep), .int .i64 ((⟨(y1_.1, y1_.2.1, y1_.2.2), (some y2_), true, (-1 : Int), (0 : Int), (0 : Int), (0 : Int)⟩ : disk_Disk).acts), .int .i64 ((⟨(y1_.1, y1_.2.1, y1_.2.2), (some y2_), true, (-1 : Int), (0 : Int), (0 : Int), (0 : Int)⟩ : disk_Disk).downs)] 108 fun y3_ => (K [(2, y3_), (3, .int .i64 0)])))) := by kernel_rfl
@[go_sem] theorem c16_o : c16.lo 1000000 = [2, 3] := rfl
@[go_sem] theorem c16_e (v2 : Option Addr) (v3 : Int) : RTp c16 [(2, v2), (3, v3)] k = (k (.tuple #[v2, v3])) := by kernel_rfl
theorem c16_ok : (c16.P.follows .mixedOrders && okc c16 c16.body) = true := by kernel_rfl
theorem c16_fn (hρ : envA 0 args.toList = ρ) (hs : Nat.ble args.size 15 = true) (h : E L (D c16 (.seq (.reg 0) (.seq (.seq (.reg 1) (.cond (.tmp 9) (.seq (.reg 2) (.ret)) (.skip))) (.seq (.reg 3) (.ret)))) (fnQ c16 e G) ρ)) : E L (cal e Tryz.prog 16 args G) :=
  d_fn (c := c16) Tryz.func16 (by kernel_rfl) (by kernel_rfl) (by kernel_rfl) c16_ok (by kernel_rfl) (by kernel_rfl) hρ hs h
noncomputable def c22 := cf Tryz.f22 34 [(0, [0, 1]), (1, [0, 1]), (2, [0, 1, 6]), (3, [6]), (4, [0, 1]), (5, [0, 1, 7, 8]), (6, [7]), (7, [0, 1])] [(0, [0, 1]), (1, [0, 1, 6]), (2, [0, 1, 6, 13]), (3, [4, 5]), (4, [0, 1, 7, 8]), (5, [0, 1, 7, 24]), (6, [4, 5]), (7, [4, 5]), (1000000, [4, 5])] [] []
@[go_sem] theorem c22_i : c22.li 0 = [0, 1] ∧ c22.li 1 = [0, 1] ∧ c22.li 2 = [0, 1, 6] ∧ c22.li 3 = [6] ∧ c22.li 4 = [0, 1] ∧ c22.li 5 = [0, 1, 7, 8] ∧ c22.li 6 = [7] ∧ c22.li 7 = [0, 1] := ⟨rfl, rfl, rfl, rfl, rfl, rfl, rfl, rfl⟩
@[go_sem] theorem c22_r0 (v0 : Option Addr) (v1 : Int) : RP c22 0 [(0, v0), (1, v1)] K =
 (K [(0, v0), (1, v1)]) := by kernel_rfl
@[go_sem] theorem c22_r1 (v0 : Option Addr) (v1 : Int) : RP c22 1 [(0, v0), (1, v1)] K =
 (cal eI Tryz.prog 80 #[v0, v1] fun (y1_ : Int) => (K [(0, v0), (1, v1), (6, y1_)])) := by kernel_rfl
@[go_sem] theorem c22_r2 (v0 : Option Addr) (v1 v6 : Int) : RP c22 2 [(0, v0), (1, v1), (6, v6)] K =
 (K [(0, v0), (1, v1), (6, v6), (13, .bool (v6 != 0))]) := by kernel_rfl
@[go_sem] theorem c22_r3 (v6 : Int) : RP c22 3 [(6, v6)] K =
 (K [(4, str ([] : List UInt8)), (5, v6)]) := by kernel_rfl
@[go_sem] theorem c22_r4 (v0 : Option Addr) (v1 : Int) : RP c22 4 [(0, v0), (1, v1)] K =
 (nn v0 fun y1_ => (ld eM (y1_.add 1) fun (y2_ : Option Nat) => (val (eT2 eS eB) Tryz.prog (oLookup 106 (.map y2_) (v1) true) fun (y3_ : ((List UInt8) × Bool)) => (K [(0, v0), (1, v1), (7, str y3_.1), (8, y3_.2)])))) := by kernel_rfl
@[go_sem] theorem c22_r5 (v0 : Option Addr) (v1 : Int) (v7 : List UInt8) (v8 : Bool) : RP c22 5 [(0, v0), (1, v1), (7, str v7), (8, v8)] K =
 (K [(0, v0), (1, v1), (7, str v7), (24, v8)]) := by kernel_rfl
@[go_sem] theorem c22_r6 (v7 : List UInt8) : RP c22 6 [(7, str v7)] K =
 (K [(4, str v7), (5, .int .i64 0)]) := by kernel_rfl
@[go_sem] theorem c22_r7 (v0 : Option Addr) (v1 : Int) : RP c22 7 [(0, v0), (1, v1)] K =
 (nn v0 fun y1_ => (ld eSl y1_ fun (y2_ : (Option Addr × Nat × Nat)) => (rq (0 ≤ v1 ∧ v1 < (y2_.2.1 : Int)) (nn y2_.1 fun y3_ => (ld eS (Addr.add y3_ (v1.toNat * 1)) fun (y4_ : List UInt8) => (cal eS Tryz.prog 81 #[str y4_] fun (y5_ : List UInt8) => (K [(4, str y5_), (5, .int .i64 0)]))))))) := by kernel_rfl
@[go_sem] theorem c22_o : c22.lo 1000000 = [4, 5] := rfl
@[go_sem] theorem c22_e (v4 : List UInt8) (v5 : Int) : RTp c22 [(4, str v4), (5, v5)] k = (k (.tuple #[str v4, v5])) := by kernel_rfl
theorem c22_ok : (c22.P.follows .mixedOrders && okc c22 c22.body) = true := by kernel_rfl
theorem c22_fn (hρ : envA 0 args.toList = ρ) (hs : Nat.ble args.size 34 = true) (h : E L (D c22 (.seq (.reg 0) (.seq (.seq (.reg 1) (.seq (.reg 2) (.cond (.tmp 13) (.seq (.reg 3) (.ret)) (.skip)))) (.seq (.seq (.reg 4) (.seq (.reg 5) (.cond (.tmp 24) (.seq (.reg 6) (.ret)) (.skip)))) (.seq (.reg 7) (.ret))))) (fnQ c22 e G) ρ)) : E L (cal e Tryz.prog 22 args G) :=
  d_fn (c := c22) Tryz.func22 (by kernel_rfl) (by kernel_rfl) (by kernel_rfl) c22_ok (by kernel_rfl) (by kernel_rfl) hρ hs h
noncomputable def c24 := cf Tryz.f24 30 [(0, [0, 1, 2]), (1, [0, 1, 2]), (2, [0, 1, 2, 7]), (3, [7]), (4, [0, 1, 2]), (5, []), (6, [0, 1, 2]), (7, [0, 1, 2, 8]), (8, [8]), (9, [0, 1, 2]), (10, [])] [(0, [0, 1, 2]), (1, [0, 1, 2, 7]), (2, [0, 1, 2, 7, 13]), (3, [6]), (4, [0, 1, 2, 17]), (5, [6]), (6, [0, 1, 2, 8]), (7, [0, 1, 2, 8, 21]), (8, [6]), (9, []), (10, [6]), (1000000, [6])] [(9, (true, [(0, 1), (1, 1), (2, 1), (3, 0), (4, 1), (5, 1), (6, 2), (7, 4)]))] []
@[go_sem] theorem c24_i : c24.li 0 = [0, 1, 2] ∧ c24.li 1 = [0, 1, 2] ∧ c24.li 2 = [0, 1, 2, 7] ∧ c24.li 3 = [7] ∧ c24.li 4 = [0, 1, 2] ∧ c24.li 5 = [] ∧ c24.li 6 = [0, 1, 2] ∧ c24.li 7 = [0, 1, 2, 8] ∧ c24.li 8 = [8] ∧ c24.li 9 = [0, 1, 2] ∧ c24.li 10 = [] := ⟨rfl, rfl, rfl, rfl, rfl, rfl, rfl, rfl, rfl, rfl, rfl⟩
@[go_sem] theorem c24_r0 (v0 : Option Addr) (v1 : Int) (v2 : List UInt8) : RP c24 0 [(0, v0), (1, v1), (2, str v2)] K =
 (K [(0, v0), (1, v1), (2, str v2)]) := by kernel_rfl
@[go_sem] theorem c24_r1 (v0 : Option Addr) (v1 : Int) (v2 : List UInt8) : RP c24 1 [(0, v0), (1, v1), (2, str v2)] K =
 (cal eI Tryz.prog 80 #[v0, v1] fun (y1_ : Int) => (K [(0, v0), (1, v1), (2, str v2), (7, y1_)])) := by kernel_rfl
@[go_sem] theorem c24_r2 (v0 : Option Addr) (v1 : Int) (v2 : List UInt8) (v7 : Int) : RP c24 2 [(0, v0), (1, v1), (2, str v2), (7, v7)] K =
 (K [(0, v0), (1, v1), (2, str v2), (7, v7), (13, .bool (v7 != 0))]) := by kernel_rfl
@[go_sem] theorem c24_r3 (v7 : Int) : RP c24 3 [(7, v7)] K =
 (K [(6, v7)]) := by kernel_rfl
@[go_sem] theorem c24_r4 (v0 : Option Addr) (v1 : Int) (v2 : List UInt8) : RP c24 4 [(0, v0), (1, v1), (2, str v2)] K =
 (K [(0, v0), (1, v1), (2, str v2), (17, decide ((64 : Int) < (v2.length : Int)))]) := by kernel_rfl
@[go_sem] theorem c24_r5 : RP c24 5 [] K =
 (K [(6, .int .i64 3)]) := by kernel_rfl
@[go_sem] theorem c24_r6 (v0 : Option Addr) (v1 : Int) (v2 : List UInt8) : RP c24 6 [(0, v0), (1, v1), (2, str v2)] K =
 (cal eI Tryz.prog 82 #[v0] fun (y1_ : Int) => (K [(0, v0), (1, v1), (2, str v2), (8, y1_)])) := by kernel_rfl
@[go_sem] theorem c24_r7 (v0 : Option Addr) (v1 : Int) (v2 : List UInt8) (v8 : Int) : RP c24 7 [(0, v0), (1, v1), (2, str v2), (8, v8)] K =
 (K [(0, v0), (1, v1), (2, str v2), (8, v8), (21, .bool (v8 != 0))]) := by kernel_rfl
@[go_sem] theorem c24_r8 (v8 : Int) : RP c24 8 [(8, v8)] K =
 (K [(6, v8)]) := by kernel_rfl
@[go_sem] theorem c24_r9 (v0 : Option Addr) (v1 : Int) (v2 : List UInt8) : RP c24 9 [(0, v0), (1, v1), (2, str v2)] K =
 (ph fun S0 => (nn v0 fun y1_ => (ldq S0 eM (y1_.add 1) fun (y2_ : Option Nat) => (cal eS Tryz.prog 81 #[str v2] fun (y3_ : List UInt8) => (kpn S0 fun S1 => (unt Tryz.prog (oMapUpdate 106 (.map y2_) (v1) (str y3_)) (K []))))))) := by kernel_rfl
@[go_sem] theorem c24_r10 : RP c24 10 [] K =
 (K [(6, .int .i64 0)]) := by kernel_rfl
@[go_sem] theorem c24_o : c24.lo 1000000 = [6] := rfl
@[go_sem] theorem c24_e (v6 : Int) : RTp c24 [(6, v6)] k = (k (v6)) := by kernel_rfl
theorem c24_ok : (c24.P.follows .mixedOrders && okc c24 c24.body) = true := by kernel_rfl
theorem c24_fn (hρ : envA 0 args.toList = ρ) (hs : Nat.ble args.size 30 = true) (h : E L (D c24 (.seq (.reg 0) (.seq (.seq (.reg 1) (.seq (.reg 2) (.cond (.tmp 13) (.seq (.reg 3) (.ret)) (.skip)))) (.seq (.seq (.reg 4) (.cond (.tmp 17) (.seq (.reg 5) (.ret)) (.skip))) (.seq (.seq (.reg 6) (.seq (.reg 7) (.cond (.tmp 21) (.seq (.reg 8) (.ret)) (.skip)))) (.seq (.reg 9) (.seq (.reg 10) (.ret))))))) (fnQ c24 e G) ρ)) : E L (cal e Tryz.prog 24 args G) :=
  d_fn (c := c24) Tryz.func24 (by kernel_rfl) (by kernel_rfl) (by kernel_rfl) c24_ok (by kernel_rfl) (by kernel_rfl) hρ hs h
noncomputable def c60 := cf Tryz.f60 23 [(0, [0, 1, 2]), (1, [0, 1, 2]), (2, [0, 1, 2, 7]), (3, [7]), (4, [0, 1, 2]), (5, []), (6, [0, 1, 2]), (7, [])] [(0, [0, 1, 2]), (1, [0, 1, 2, 7]), (2, [0, 1, 2, 7, 11]), (3, [6]), (4, [0, 1, 2, 14]), (5, [6]), (6, []), (7, [6]), (1000000, [6])] [] []
@[go_sem] theorem c60_i : c60.li 0 = [0, 1, 2] ∧ c60.li 1 = [0, 1, 2] ∧ c60.li 2 = [0, 1, 2, 7] ∧ c60.li 3 = [7] ∧ c60.li 4 = [0, 1, 2] ∧ c60.li 5 = [] ∧ c60.li 6 = [0, 1, 2] ∧ c60.li 7 = [] := ⟨rfl, rfl, rfl, rfl, rfl, rfl, rfl, rfl⟩
@[go_sem] theorem c60_r0 (v0 : Option Addr) (v1 v2 : Int) : RP c60 0 [(0, v0), (1, v1), (2, .int .u64 v2)] K =
 (K [(0, v0), (1, v1), (2, .int .u64 v2)]) := by kernel_rfl
@[go_sem] theorem c60_r1 (v0 : Option Addr) (v1 v2 : Int) : RP c60 1 [(0, v0), (1, v1), (2, .int .u64 v2)] K =
 (cal eI Tryz.prog 80 #[v0, .int .i64 0] fun (y1_ : Int) => (K [(0, v0), (1, v1), (2, .int .u64 v2), (7, y1_)])) := by kernel_rfl
@[go_sem] theorem c60_r2 (v0 : Option Addr) (v1 v2 v7 : Int) : RP c60 2 [(0, v0), (1, v1), (2, .int .u64 v2), (7, v7)] K =
 (K [(0, v0), (1, v1), (2, .int .u64 v2), (7, v7), (11, .bool (v7 != 0))]) := by kernel_rfl
@[go_sem] theorem c60_r3 (v7 : Int) : RP c60 3 [(7, v7)] K =
 (K [(6, v7)]) := by kernel_rfl
@[go_sem] theorem c60_r4 (v0 : Option Addr) (v1 v2 : Int) : RP c60 4 [(0, v0), (1, v1), (2, .int .u64 v2)] K =
 (K [(0, v0), (1, v1), (2, .int .u64 v2), (14, decide (v1 < 0))]) := by kernel_rfl
@[go_sem] theorem c60_r5 : RP c60 5 [] K =
 (K [(6, .int .i64 1)]) := by kernel_rfl
@[go_sem] theorem c60_r6 (v0 : Option Addr) (v1 v2 : Int) : RP c60 6 [(0, v0), (1, v1), (2, .int .u64 v2)] K =
 (nn v0 fun y1_ => (st (y1_.add 3) (v1) (nn v0 fun y2_ => (st (y2_.add 4) (.int .u64 v2) (K []))))) := by kernel_rfl
@[go_sem] theorem c60_r7 : RP c60 7 [] K =
 (K [(6, .int .i64 0)]) := by kernel_rfl
@[go_sem] theorem c60_o : c60.lo 1000000 = [6] := rfl
@[go_sem] theorem c60_e (v6 : Int) : RTp c60 [(6, v6)] k = (k (v6)) := by kernel_rfl
theorem c60_ok : (c60.P.follows .mixedOrders && okc c60 c60.body) = true := by kernel_rfl
theorem c60_fn (hρ : envA 0 args.toList = ρ) (hs : Nat.ble args.size 23 = true) (h : E L (D c60 (.seq (.reg 0) (.seq (.seq (.reg 1) (.seq (.reg 2) (.cond (.tmp 11) (.seq (.reg 3) (.ret)) (.skip)))) (.seq (.seq (.reg 4) (.cond (.tmp 14) (.seq (.reg 5) (.ret)) (.skip))) (.seq (.reg 6) (.seq (.reg 7) (.ret)))))) (fnQ c60 e G) ρ)) : E L (cal e Tryz.prog 60 args G) :=
  d_fn (c := c60) Tryz.func60 (by kernel_rfl) (by kernel_rfl) (by kernel_rfl) c60_ok (by kernel_rfl) (by kernel_rfl) hρ hs h
noncomputable def c62 := cf Tryz.f62 14 [(0, [0, 1]), (1, [0, 1]), (2, [0, 1, 5]), (3, [5]), (4, [0, 1]), (5, [])] [(0, [0, 1]), (1, [0, 1, 5]), (2, [0, 1, 5, 9]), (3, [4]), (4, []), (5, [4]), (1000000, [4])] [] []
@[go_sem] theorem c62_i : c62.li 0 = [0, 1] ∧ c62.li 1 = [0, 1] ∧ c62.li 2 = [0, 1, 5] ∧ c62.li 3 = [5] ∧ c62.li 4 = [0, 1] ∧ c62.li 5 = [] := ⟨rfl, rfl, rfl, rfl, rfl, rfl⟩
@[go_sem] theorem c62_r0 (v0 : Option Addr) (v1 : Int) : RP c62 0 [(0, v0), (1, .int .u64 v1)] K =
 (K [(0, v0), (1, .int .u64 v1)]) := by kernel_rfl
@[go_sem] theorem c62_r1 (v0 : Option Addr) (v1 : Int) : RP c62 1 [(0, v0), (1, .int .u64 v1)] K =
 (cal eI Tryz.prog 80 #[v0, .int .i64 0] fun (y1_ : Int) => (K [(0, v0), (1, .int .u64 v1), (5, y1_)])) := by kernel_rfl
@[go_sem] theorem c62_r2 (v0 : Option Addr) (v1 v5 : Int) : RP c62 2 [(0, v0), (1, .int .u64 v1), (5, v5)] K =
 (K [(0, v0), (1, .int .u64 v1), (5, v5), (9, .bool (v5 != 0))]) := by kernel_rfl
@[go_sem] theorem c62_r3 (v5 : Int) : RP c62 3 [(5, v5)] K =
 (K [(4, v5)]) := by kernel_rfl
@[go_sem] theorem c62_r4 (v0 : Option Addr) (v1 : Int) : RP c62 4 [(0, v0), (1, .int .u64 v1)] K =
 (cal eN Tryz.prog 97 #[v0, .int .u64 v1] fun (y1_ : Unit) => (K [])) := by kernel_rfl
@[go_sem] theorem c62_r5 : RP c62 5 [] K =
 (K [(4, .int .i64 0)]) := by kernel_rfl
@[go_sem] theorem c62_o : c62.lo 1000000 = [4] := rfl
@[go_sem] theorem c62_e (v4 : Int) : RTp c62 [(4, v4)] k = (k (v4)) := by kernel_rfl
theorem c62_ok : (c62.P.follows .mixedOrders && okc c62 c62.body) = true := by kernel_rfl
theorem c62_fn (hρ : envA 0 args.toList = ρ) (hs : Nat.ble args.size 14 = true) (h : E L (D c62 (.seq (.reg 0) (.seq (.seq (.reg 1) (.seq (.reg 2) (.cond (.tmp 9) (.seq (.reg 3) (.ret)) (.skip)))) (.seq (.reg 4) (.seq (.reg 5) (.ret))))) (fnQ c62 e G) ρ)) : E L (cal e Tryz.prog 62 args G) :=
  d_fn (c := c62) Tryz.func62 (by kernel_rfl) (by kernel_rfl) (by kernel_rfl) c62_ok (by kernel_rfl) (by kernel_rfl) hρ hs h
noncomputable def c63 := cf Tryz.f63 8 [(0, [0]), (1, [0])] [(0, [0, 4]), (1, []), (1000000, [])] [] []
@[go_sem] theorem c63_i : c63.li 0 = [0] ∧ c63.li 1 = [0] := ⟨rfl, rfl⟩
@[go_sem] theorem c63_r0 (v0 : Option Addr) : RP c63 0 [(0, v0)] K =
 (cal eB Tryz.prog 96 #[v0] fun (y1_ : Bool) => (K [(0, v0), (4, .bool (!y1_))])) := by kernel_rfl
@[go_sem] theorem c63_r1 (v0 : Option Addr) : RP c63 1 [(0, v0)] K =
 (nn v0 fun y1_ => (st (y1_.add 3) (.int .i64 (-1 : Int)) (K []))) := by kernel_rfl
@[go_sem] theorem c63_o : c63.lo 1000000 = [] := rfl
@[go_sem] theorem c63_e : RTp c63 [] k = (k (.tuple #[])) := by kernel_rfl
theorem c63_ok : (c63.P.follows .mixedOrders && okc c63 c63.body) = true := by kernel_rfl
theorem c63_fn (hρ : envA 0 args.toList = ρ) (hs : Nat.ble args.size 8 = true) (h : E L (D c63 (.seq (.reg 0) (.cond (.tmp 4) (.reg 1) (.skip))) (fnQ c63 e G) ρ)) : E L (cal e Tryz.prog 63 args G) :=
  d_fn (c := c63) Tryz.func63 (by kernel_rfl) (by kernel_rfl) (by kernel_rfl) c63_ok (by kernel_rfl) (by kernel_rfl) hρ hs h
noncomputable def c64 := cf Tryz.f64 14 [(0, [0]), (1, [0]), (2, []), (3, [0]), (4, []), (5, [0]), (6, [])] [(0, [0]), (1, [0, 3]), (2, [2]), (3, [0, 6]), (4, [2]), (5, []), (6, [2]), (1000000, [2])] [] []
@[go_sem] theorem c64_i : c64.li 0 = [0] ∧ c64.li 1 = [0] ∧ c64.li 2 = [] ∧ c64.li 3 = [0] ∧ c64.li 4 = [] ∧ c64.li 5 = [0] ∧ c64.li 6 = [] := ⟨rfl, rfl, rfl, rfl, rfl, rfl, rfl⟩
@[go_sem] theorem c64_r0 (v0 : Option Addr) : RP c64 0 [(0, v0)] K =
 (K [(0, v0)]) := by kernel_rfl
@[go_sem] theorem c64_r1 (v0 : Option Addr) : RP c64 1 [(0, v0)] K =
 (cal eB Tryz.prog 96 #[v0] fun (y1_ : Bool) => (K [(0, v0), (3, y1_)])) := by kernel_rfl
@[go_sem] theorem c64_r2 : RP c64 2 [] K =
 (K [(2, .int .i64 11)]) := by kernel_rfl
@[go_sem] theorem c64_r3 (v0 : Option Addr) : RP c64 3 [(0, v0)] K =
 (nn v0 fun y1_ => (ld eB (y1_.add 2) fun (y2_ : Bool) => (K [(0, v0), (6, y2_)]))) := by kernel_rfl
@[go_sem] theorem c64_r4 : RP c64 4 [] K =
 (K [(2, .int .i64 19)]) := by kernel_rfl
@[go_sem] theorem c64_r5 (v0 : Option Addr) : RP c64 5 [(0, v0)] K =
 (nn v0 fun y1_ => (st (y1_.add 2) (true) (K []))) := by kernel_rfl
@[go_sem] theorem c64_r6 : RP c64 6 [] K =
 (K [(2, .int .i64 0)]) := by kernel_rfl
@[go_sem] theorem c64_o : c64.lo 1000000 = [2] := rfl
@[go_sem] theorem c64_e (v2 : Int) : RTp c64 [(2, v2)] k = (k (v2)) := by kernel_rfl
theorem c64_ok : (c64.P.follows .mixedOrders && okc c64 c64.body) = true := by kernel_rfl
theorem c64_fn (hρ : envA 0 args.toList = ρ) (hs : Nat.ble args.size 14 = true) (h : E L (D c64 (.seq (.reg 0) (.seq (.block 0 (.seq (.reg 1) (.cond (.tmp 3) (.seq (.reg 2) (.ret)) (.seq (.reg 3) (.cond (.tmp 6) (.seq (.reg 4) (.ret)) (.skip)))))) (.seq (.reg 5) (.seq (.reg 6) (.ret))))) (fnQ c64 e G) ρ)) : E L (cal e Tryz.prog 64 args G) :=
  d_fn (c := c64) Tryz.func64 (by kernel_rfl) (by kernel_rfl) (by kernel_rfl) c64_ok (by kernel_rfl) (by kernel_rfl) hρ hs h
noncomputable def c79 := cf Tryz.f79 38 [(0, [0]), (1, [0]), (2, [0, 3]), (3, [3]), (4, [0]), (5, [0, 4]), (6, [4]), (7, [0]), (8, [0, 21]), (9, [0, 21]), (10, [0, 5, 6, 21]), (11, [0]), (12, [])] [(0, [0]), (1, [0, 3]), (2, [0, 3, 10]), (3, [2]), (4, [0, 4]), (5, [0, 4, 15]), (6, [2]), (7, [0, 21]), (8, [0, 21, 23]), (9, [0, 5, 6, 21]), (10, [0, 21]), (11, []), (12, [2]), (1000000, [2])] [] [(21, eP), (22, (eT3 eB eI eS)), (24, (eT2 eI eS))]
@[go_sem] theorem c79_i : c79.li 0 = [0] ∧ c79.li 1 = [0] ∧ c79.li 2 = [0, 3] ∧ c79.li 3 = [3] ∧ c79.li 4 = [0] ∧ c79.li 5 = [0, 4] ∧ c79.li 6 = [4] ∧ c79.li 7 = [0] ∧ c79.li 8 = [0, 21] ∧ c79.li 9 = [0, 21] ∧ c79.li 10 = [0, 5, 6, 21] ∧ c79.li 11 = [0] ∧ c79.li 12 = [] := ⟨rfl, rfl, rfl, rfl, rfl, rfl, rfl, rfl, rfl, rfl, rfl, rfl, rfl⟩
@[go_sem] theorem c79_r0 (v0 : Option Addr) : RP c79 0 [(0, v0)] K =
 (K [(0, v0)]) := by kernel_rfl
@[go_sem] theorem c79_r1 (v0 : Option Addr) : RP c79 1 [(0, v0)] K =
 (cal eI Tryz.prog 80 #[v0, .int .i64 0] fun (y1_ : Int) => (K [(0, v0), (3, y1_)])) := by kernel_rfl
@[go_sem] theorem c79_r2 (v0 : Option Addr) (v3 : Int) : RP c79 2 [(0, v0), (3, v3)] K =
 (K [(0, v0), (3, v3), (10, .bool (v3 != 0))]) := by kernel_rfl
@[go_sem] theorem c79_r3 (v3 : Int) : RP c79 3 [(3, v3)] K =
 (K [(2, v3)]) := by kernel_rfl
@[go_sem] theorem c79_r4 (v0 : Option Addr) : RP c79 4 [(0, v0)] K =
 (cal eI Tryz.prog 82 #[v0] fun (y1_ : Int) => (K [(0, v0), (4, y1_)])) := by kernel_rfl
@[go_sem] theorem c79_r5 (v0 : Option Addr) (v4 : Int) : RP c79 5 [(0, v0), (4, v4)] K =
 (K [(0, v0), (4, v4), (15, .bool (v4 != 0))]) := by kernel_rfl
@[go_sem] theorem c79_r6 (v4 : Int) : RP c79 6 [(4, v4)] K =
 (K [(2, v4)]) := by kernel_rfl
@[go_sem] theorem c79_r7 (v0 : Option Addr) : RP c79 7 [(0, v0)] K =
 (nn v0 fun y1_ => (ld eM (y1_.add 1) fun (y2_ : Option Nat) => (val eP Tryz.prog (oRange 106 (.map y2_)) fun (y3_ : Option Addr) => (K [(0, v0), (21, y3_)])))) := by kernel_rfl
@[go_sem] theorem c79_r8 (v0 v21 : Option Addr) : RP c79 8 [(0, v0), (21, v21)] K =
 (nxt (eT3 eB eI eS) Tryz.prog (oNext (v21) false 0) (K [(0, v0), (21, v21), (23, false)]) fun (y1_ : (Bool × Int × (List UInt8))) => (K [(0, v0), (21, v21), (23, y1_.1)])) := by kernel_rfl
@[go_sem] theorem c79_r9 (v0 v21 : Option Addr) : RP c79 9 [(0, v0), (21, v21)] K =
 (val (eT2 eI eS) Tryz.prog (oEntry (v21)) fun (y1_ : (Int × (List UInt8))) => (K [(0, v0), (5, y1_.1), (6, str y1_.2), (21, v21)])) := by kernel_rfl
@[go_sem] theorem c79_r10 (v0 : Option Addr) (v5 : Int) (v6 : List UInt8) (v21 : Option Addr) : RP c79 10 [(0, v0), (5, v5), (6, str v6), (21, v21)] K =
 (nn v0 fun y1_ => (ld eSl y1_ fun (y2_ : (Option Addr × Nat × Nat)) => (rq (0 ≤ v5 ∧ v5 < (y2_.2.1 : Int)) (nn y2_.1 fun y3_ => (st (Addr.add y3_ (v5.toNat * 1)) (str v6) (K [(0, v0), (21, v21)])))))) := by kernel_rfl
@[go_sem] theorem c79_r11 (v0 : Option Addr) : RP c79 11 [(0, v0)] K =
 (nn v0 fun y1_ => (ld eM (y1_.add 1) fun (y2_ : Option Nat) => (val eN Tryz.prog (oB_clear #[106] 0 #[.map y2_]) fun (y3_ : Unit) => (K [])))) := by kernel_rfl
@[go_sem] theorem c79_r12 : RP c79 12 [] K =
 (K [(2, .int .i64 0)]) := by kernel_rfl
@[go_sem] theorem c79_o : c79.lo 1000000 = [2] := rfl
@[go_sem] theorem c79_e (v2 : Int) : RTp c79 [(2, v2)] k = (k (v2)) := by kernel_rfl
theorem c79_ok : (c79.P.follows .mixedOrders && okc c79 c79.body) = true := by kernel_rfl
theorem c79_fn (hρ : envA 0 args.toList = ρ) (hs : Nat.ble args.size 38 = true) (h : E L (D c79 (.seq (.reg 0) (.seq (.seq (.reg 1) (.seq (.reg 2) (.cond (.tmp 10) (.seq (.reg 3) (.ret)) (.skip)))) (.seq (.seq (.reg 4) (.seq (.reg 5) (.cond (.tmp 15) (.seq (.reg 6) (.ret)) (.skip)))) (.seq (.seq (.reg 7) (.block 0 (.loop (.seq (.reg 8) (.seq (.cond (.tmp 23) (.skip) (.exit 0)) (.block 1 (.seq (.reg 9) (.reg 10)))))))) (.seq (.reg 11) (.seq (.reg 12) (.ret))))))) (fnQ c79 e G) ρ)) : E L (cal e Tryz.prog 79 args G) :=
  d_fn (c := c79) Tryz.func79 (by kernel_rfl) (by kernel_rfl) (by kernel_rfl) c79_ok (by kernel_rfl) (by kernel_rfl) hρ hs h
noncomputable def c80 := cf Tryz.f80 26 [(0, [0, 1]), (1, [0, 1]), (2, []), (3, [0, 1]), (4, []), (5, [0, 1]), (6, []), (7, [])] [(0, [0, 1]), (1, [0, 1, 5]), (2, [4]), (3, [0, 1, 8]), (4, [4]), (5, [14]), (6, [4]), (7, [4]), (1000000, [4])] [] []
@[go_sem] theorem c80_i : c80.li 0 = [0, 1] ∧ c80.li 1 = [0, 1] ∧ c80.li 2 = [] ∧ c80.li 3 = [0, 1] ∧ c80.li 4 = [] ∧ c80.li 5 = [0, 1] ∧ c80.li 6 = [] ∧ c80.li 7 = [] := ⟨rfl, rfl, rfl, rfl, rfl, rfl, rfl, rfl⟩
@[go_sem] theorem c80_r0 (v0 : Option Addr) (v1 : Int) : RP c80 0 [(0, v0), (1, v1)] K =
 (K [(0, v0), (1, v1)]) := by kernel_rfl
@[go_sem] theorem c80_r1 (v0 : Option Addr) (v1 : Int) : RP c80 1 [(0, v0), (1, v1)] K =
 (cal eB Tryz.prog 96 #[v0] fun (y1_ : Bool) => (K [(0, v0), (1, v1), (5, y1_)])) := by kernel_rfl
@[go_sem] theorem c80_r2 : RP c80 2 [] K =
 (K [(4, .int .i64 11)]) := by kernel_rfl
@[go_sem] theorem c80_r3 (v0 : Option Addr) (v1 : Int) : RP c80 3 [(0, v0), (1, v1)] K =
 (nn v0 fun y1_ => (ld eB (y1_.add 2) fun (y2_ : Bool) => (K [(0, v0), (1, v1), (8, .bool (!y2_))]))) := by kernel_rfl
@[go_sem] theorem c80_r4 : RP c80 4 [] K =
 (K [(4, .int .i64 9)]) := by kernel_rfl
@[go_sem] theorem c80_r5 (v0 : Option Addr) (v1 : Int) : RP c80 5 [(0, v0), (1, v1)] K =
 (cnd (decide (v1 < 0)) (K [(14, true)]) (nn v0 fun y1_ => (ld eSl y1_ fun (y2_ : (Option Addr × Nat × Nat)) => (K [(14, decide ((y2_.2.1 : Int) ≤ v1))])))) := by kernel_rfl
@[go_sem] theorem c80_r6 : RP c80 6 [] K =
 (K [(4, .int .i64 6)]) := by kernel_rfl
@[go_sem] theorem c80_r7 : RP c80 7 [] K =
 (K [(4, .int .i64 0)]) := by kernel_rfl
@[go_sem] theorem c80_o : c80.lo 1000000 = [4] := rfl
@[go_sem] theorem c80_e (v4 : Int) : RTp c80 [(4, v4)] k = (k (v4)) := by kernel_rfl
theorem c80_ok : (c80.P.follows .mixedOrders && okc c80 c80.body) = true := by kernel_rfl
theorem c80_fn (hρ : envA 0 args.toList = ρ) (hs : Nat.ble args.size 26 = true) (h : E L (D c80 (.seq (.reg 0) (.seq (.block 0 (.seq (.reg 1) (.cond (.tmp 5) (.seq (.reg 2) (.ret)) (.seq (.reg 3) (.cond (.tmp 8) (.seq (.reg 4) (.ret)) (.seq (.reg 5) (.cond (.tmp 14) (.seq (.reg 6) (.ret)) (.skip)))))))) (.seq (.reg 7) (.ret)))) (fnQ c80 e G) ρ)) : E L (cal e Tryz.prog 80 args G) :=
  d_fn (c := c80) Tryz.func80 (by kernel_rfl) (by kernel_rfl) (by kernel_rfl) c80_ok (by kernel_rfl) (by kernel_rfl) hρ hs h
noncomputable def c81 := cf Tryz.f81 9 [(0, [0]), (1, [0])] [(0, [0]), (1, [2]), (1000000, [2])] [] []
@[go_sem] theorem c81_i : c81.li 0 = [0] ∧ c81.li 1 = [0] := ⟨rfl, rfl⟩
@[go_sem] theorem c81_r0 (v0 : List UInt8) : RP c81 0 [(0, str v0)] K =
 (K [(0, str v0)]) := by kernel_rfl
@[go_sem] theorem c81_r1 (v0 : List UInt8) : RP c81 1 [(0, str v0)] K =
 (cal eS Tryz.prog 112 #[str ([0] : List UInt8), IntKind.wrap .i64 ((64 : Int) - (v0.length : Int))] fun (y1_ : List UInt8) => (rq ((v0.length : Int) + (y1_.length : Int) ≤ 9223372036854775807) (K [(2, str (v0 ++ y1_))]))) := by kernel_rfl
@[go_sem] theorem c81_o : c81.lo 1000000 = [2] := rfl
@[go_sem] theorem c81_e (v2 : List UInt8) : RTp c81 [(2, str v2)] k = (k (str v2)) := by kernel_rfl
theorem c81_ok : (c81.P.follows .mixedOrders && okc c81 c81.body) = true := by kernel_rfl
theorem c81_fn (hρ : envA 0 args.toList = ρ) (hs : Nat.ble args.size 9 = true) (h : E L (D c81 (.seq (.reg 0) (.seq (.reg 1) (.ret))) (fnQ c81 e G) ρ)) : E L (cal e Tryz.prog 81 args G) :=
  d_fn (c := c81) Tryz.func81 (by kernel_rfl) (by kernel_rfl) (by kernel_rfl) c81_ok (by kernel_rfl) (by kernel_rfl) hρ hs h
noncomputable def c82 := cf Tryz.f82 33 [(0, [0]), (1, [0]), (2, [0]), (3, []), (4, [0]), (5, [0]), (6, [0]), (7, [])] [(0, [0]), (1, [0, 7]), (2, []), (3, [2]), (4, [0, 18]), (5, [0]), (6, []), (7, [2]), (1000000, [2])] [] []
@[go_sem] theorem c82_i : c82.li 0 = [0] ∧ c82.li 1 = [0] ∧ c82.li 2 = [0] ∧ c82.li 3 = [] ∧ c82.li 4 = [0] ∧ c82.li 5 = [0] ∧ c82.li 6 = [0] ∧ c82.li 7 = [] := ⟨rfl, rfl, rfl, rfl, rfl, rfl, rfl, rfl⟩
@[go_sem] theorem c82_r0 (v0 : Option Addr) : RP c82 0 [(0, v0)] K =
 (K [(0, v0)]) := by kernel_rfl
@[go_sem] theorem c82_r1 (v0 : Option Addr) : RP c82 1 [(0, v0)] K =
 (nn v0 fun y1_ => (ld eI (y1_.add 3) fun (y2_ : Int) => (K [(0, v0), (7, .bool (y2_ == 0))]))) := by kernel_rfl
@[go_sem] theorem c82_r2 (v0 : Option Addr) : RP c82 2 [(0, v0)] K =
 (nn v0 fun y1_ => (ld eU64 (y1_.add 4) fun (y2_ : Int) => (cal eN Tryz.prog 97 #[v0, .int .u64 y2_] fun (y3_ : Unit) => (K [])))) := by kernel_rfl
@[go_sem] theorem c82_r3 : RP c82 3 [] K =
 (K [(2, .int .i64 9)]) := by kernel_rfl
@[go_sem] theorem c82_r4 (v0 : Option Addr) : RP c82 4 [(0, v0)] K =
 (nn v0 fun y1_ => (ld eI (y1_.add 3) fun (y2_ : Int) => (K [(0, v0), (18, decide (0 < y2_))]))) := by kernel_rfl
@[go_sem] theorem c82_r5 (v0 : Option Addr) : RP c82 5 [(0, v0)] K =
 (nn v0 fun y1_ => (ld eI (y1_.add 3) fun (y2_ : Int) => (nn v0 fun y3_ => (st (y3_.add 3) (IntKind.wrap .i64 (y2_ - 1)) (K [(0, v0)]))))) := by kernel_rfl
@[go_sem] theorem c82_r6 (v0 : Option Addr) : RP c82 6 [(0, v0)] K =
 (nn v0 fun y1_ => (ld eI (y1_.add 5) fun (y2_ : Int) => (nn v0 fun y3_ => (st (y3_.add 5) (IntKind.wrap .i64 (y2_ + 1)) (K []))))) := by kernel_rfl
@[go_sem] theorem c82_r7 : RP c82 7 [] K =
 (K [(2, .int .i64 0)]) := by kernel_rfl
@[go_sem] theorem c82_o : c82.lo 1000000 = [2] := rfl
@[go_sem] theorem c82_e (v2 : Int) : RTp c82 [(2, v2)] k = (k (v2)) := by kernel_rfl
theorem c82_ok : (c82.P.follows .mixedOrders && okc c82 c82.body) = true := by kernel_rfl
theorem c82_fn (hρ : envA 0 args.toList = ρ) (hs : Nat.ble args.size 33 = true) (h : E L (D c82 (.seq (.reg 0) (.seq (.seq (.reg 1) (.cond (.tmp 7) (.seq (.reg 2) (.seq (.reg 3) (.ret))) (.skip))) (.seq (.seq (.reg 4) (.cond (.tmp 18) (.reg 5) (.skip))) (.seq (.reg 6) (.seq (.reg 7) (.ret)))))) (fnQ c82 e G) ρ)) : E L (cal e Tryz.prog 82 args G) :=
  d_fn (c := c82) Tryz.func82 (by kernel_rfl) (by kernel_rfl) (by kernel_rfl) c82_ok (by kernel_rfl) (by kernel_rfl) hρ hs h
noncomputable def c96 := cf Tryz.f96 13 [(0, [0]), (1, [0])] [(0, [0]), (1, [2]), (1000000, [2])] [] []
@[go_sem] theorem c96_i : c96.li 0 = [0] ∧ c96.li 1 = [0] := ⟨rfl, rfl⟩
@[go_sem] theorem c96_r0 (v0 : Option Addr) : RP c96 0 [(0, v0)] K =
 (K [(0, v0)]) := by kernel_rfl
@[go_sem] theorem c96_r1 (v0 : Option Addr) : RP c96 1 [(0, v0)] K =
 (cnd (v0.isNone) (K [(2, true)]) (nn v0 fun y1_ => (ld eSl y1_ fun (y2_ : (Option Addr × Nat × Nat)) => (K [(2, .bool ((y2_.2.1 : Int) == 0))])))) := by kernel_rfl
@[go_sem] theorem c96_o : c96.lo 1000000 = [2] := rfl
@[go_sem] theorem c96_e (v2 : Bool) : RTp c96 [(2, v2)] k = (k (v2)) := by kernel_rfl
theorem c96_ok : (c96.P.follows .mixedOrders && okc c96 c96.body) = true := by kernel_rfl
theorem c96_fn (hρ : envA 0 args.toList = ρ) (hs : Nat.ble args.size 13 = true) (h : E L (D c96 (.seq (.reg 0) (.seq (.reg 1) (.ret))) (fnQ c96 e G) ρ)) : E L (cal e Tryz.prog 96 args G) :=
  d_fn (c := c96) Tryz.func96 (by kernel_rfl) (by kernel_rfl) (by kernel_rfl) c96_ok (by kernel_rfl) (by kernel_rfl) hρ hs h
noncomputable def c97 := cf Tryz.f97 50 [(0, [0, 1]), (1, [0, 1, 7, 8, 9]), (2, [0, 1, 7, 8, 9]), (3, [0, 1, 4, 5, 7, 8, 9]), (4, [0, 1, 5, 7, 8, 9]), (5, [0, 1, 7, 8, 9]), (6, [0]), (7, [0]), (8, [0])] [(0, [0, 1, 7, 8, 9]), (1, [0, 1, 7, 8, 9, 10]), (2, [0, 1, 4, 5, 7, 8, 9]), (3, [0, 1, 5, 7, 8, 9, 19]), (4, [0, 1, 7, 8, 9]), (5, [0, 1, 7, 8, 9]), (6, [0]), (7, [0]), (8, []), (1000000, [])] [(4, (true, [(0, 1), (1, 1), (2, 1), (3, 0), (4, 1), (5, 1), (6, 1), (7, 1), (8, 0), (9, 1), (10, 0), (11, 1), (12, 4)]))] []
@[go_sem] theorem c97_i : c97.li 0 = [0, 1] ∧ c97.li 1 = [0, 1, 7, 8, 9] ∧ c97.li 2 = [0, 1, 7, 8, 9] ∧ c97.li 3 = [0, 1, 4, 5, 7, 8, 9] ∧ c97.li 4 = [0, 1, 5, 7, 8, 9] ∧ c97.li 5 = [0, 1, 7, 8, 9] ∧ c97.li 6 = [0] ∧ c97.li 7 = [0] ∧ c97.li 8 = [0] := ⟨rfl, rfl, rfl, rfl, rfl, rfl, rfl, rfl, rfl⟩
@[go_sem] theorem c97_r0 (v0 : Option Addr) (v1 : Int) : RP c97 0 [(0, v0), (1, .int .u64 v1)] K =
 (cal eSl Tryz.prog 123 #[v0] fun (y1_ : (Option Addr × Nat × Nat)) => (K [(0, v0), (1, .int .u64 v1), (7, .slice y1_.1 y1_.2.1 y1_.2.2), (8, .int .i64 (y1_.2.1 : Int)), (9, .int .i64 0)])) := by kernel_rfl
@[go_sem] theorem c97_r1 (v0 : Option Addr) (v1 : Int) (v7p : Option Addr) (v7n v7c : Nat) (v8 v9 : Int) : RP c97 1 [(0, v0), (1, .int .u64 v1), (7, .slice v7p v7n v7c), (8, v8), (9, v9)] K =
 (K [(0, v0), (1, .int .u64 v1), (7, .slice v7p v7n v7c), (8, v8), (9, v9), (10, decide (v9 < v8))]) := by kernel_rfl
@[go_sem] theorem c97_r2 (v0 : Option Addr) (v1 : Int) (v7p : Option Addr) (v7n v7c : Nat) (v8 v9 : Int) : RP c97 2 [(0, v0), (1, .int .u64 v1), (7, .slice v7p v7n v7c), (8, v8), (9, v9)] K =
 (rq (0 ≤ v9 ∧ v9 < v7n) (nn v7p fun y1_ => (ld eI (Addr.add y1_ (v9.toNat * 1)) fun (y2_ : Int) => (K [(0, v0), (1, .int .u64 v1), (4, v9), (5, y2_), (7, .slice v7p v7n v7c), (8, v8), (9, v9)])))) := by kernel_rfl
@[go_sem] theorem c97_r3 (v0 : Option Addr) (v1 v4 v5 : Int) (v7p : Option Addr) (v7n v7c : Nat) (v8 v9 : Int) : RP c97 3 [(0, v0), (1, .int .u64 v1), (4, v4), (5, v5), (7, .slice v7p v7n v7c), (8, v8), (9, v9)] K =
 (rq ((64 : Int) ≠ 0) (rq (0 ≤ (v4.tmod (64 : Int))) (K [(0, v0), (1, .int .u64 v1), (5, v5), (7, .slice v7p v7n v7c), (8, v8), (9, v9), (19, .bool ((bits .and .u64 (v1.fdiv (2 ^ (min (v4.tmod (64 : Int)).toNat 64))) (1 : Int)) == 1))]))) := by kernel_rfl
@[go_sem] theorem c97_r4 (v0 : Option Addr) (v1 v5 : Int) (v7p : Option Addr) (v7n v7c : Nat) (v8 v9 : Int) : RP c97 4 [(0, v0), (1, .int .u64 v1), (5, v5), (7, .slice v7p v7n v7c), (8, v8), (9, v9)] K =
 (ph fun S0 => (nn v0 fun y1_ => (ldq S0 eSl y1_ fun (y2_ : (Option Addr × Nat × Nat)) => (nn v0 fun y3_ => (ldq S0 eM (y3_.add 1) fun (y4_ : Option Nat) => (valq S0 eS Tryz.prog (oLookup 106 (.map y4_) (v5) false) fun (y5_ : List UInt8) => (rq (0 ≤ v5 ∧ v5 < (y2_.2.1 : Int)) (nn y2_.1 fun y6_ => (st (Addr.add y6_ (v5.toNat * 1)) (str y5_) (K [(0, v0), (1, .int .u64 v1), (7, .slice v7p v7n v7c), (8, v8), (9, v9)])))))))))) := by kernel_rfl
@[go_sem] theorem c97_r5 (v0 : Option Addr) (v1 : Int) (v7p : Option Addr) (v7n v7c : Nat) (v8 v9 : Int) : RP c97 5 [(0, v0), (1, .int .u64 v1), (7, .slice v7p v7n v7c), (8, v8), (9, v9)] K =
 (K [(0, v0), (1, .int .u64 v1), (7, .slice v7p v7n v7c), (8, v8), (9, IntKind.wrap .i64 (v9 + 1))]) := by kernel_rfl
@[go_sem] theorem c97_r6 (v0 : Option Addr) : RP c97 6 [(0, v0)] K =
 (nn v0 fun y1_ => (ld eM (y1_.add 1) fun (y2_ : Option Nat) => (val eN Tryz.prog (oB_clear #[106] 0 #[.map y2_]) fun (y3_ : Unit) => (K [(0, v0)])))) := by kernel_rfl
@[go_sem] theorem c97_r7 (v0 : Option Addr) : RP c97 7 [(0, v0)] K =
 (nn v0 fun y1_ => (st (y1_.add 2) (false) (nn v0 fun y2_ => (st (y2_.add 3) (.int .i64 (-1 : Int)) (K [(0, v0)]))))) := by kernel_rfl
@[go_sem] theorem c97_r8 (v0 : Option Addr) : RP c97 8 [(0, v0)] K =
 (nn v0 fun y1_ => (ld eI (y1_.add 6) fun (y2_ : Int) => (nn v0 fun y3_ => (st (y3_.add 6) (IntKind.wrap .i64 (y2_ + 1)) (K []))))) := by kernel_rfl
@[go_sem] theorem c97_o : c97.lo 1000000 = [] := rfl
@[go_sem] theorem c97_e : RTp c97 [] k = (k (.tuple #[])) := by kernel_rfl
theorem c97_ok : (c97.P.follows .mixedOrders && okc c97 c97.body) = true := by kernel_rfl
theorem c97_fn (hρ : envA 0 args.toList = ρ) (hs : Nat.ble args.size 50 = true) (h : E L (D c97 (.seq (.seq (.reg 0) (.block 0 (.loop (.seq (.reg 1) (.seq (.cond (.tmp 10) (.skip) (.exit 0)) (.seq (.block 1 (.seq (.reg 2) (.seq (.reg 3) (.cond (.tmp 19) (.reg 4) (.skip))))) (.reg 5))))))) (.seq (.reg 6) (.seq (.reg 7) (.reg 8)))) (fnQ c97 e G) ρ)) : E L (cal e Tryz.prog 97 args G) :=
  d_fn (c := c97) Tryz.func97 (by kernel_rfl) (by kernel_rfl) (by kernel_rfl) c97_ok (by kernel_rfl) (by kernel_rfl) hρ hs h
noncomputable def c99 := cf Tryz.f99 10 [(0, [0]), (1, [0]), (2, []), (3, [0])] [(0, [0]), (1, [0, 4]), (2, [2]), (3, [2]), (1000000, [2])] [] []
@[go_sem] theorem c99_i : c99.li 0 = [0] ∧ c99.li 1 = [0] ∧ c99.li 2 = [] ∧ c99.li 3 = [0] := ⟨rfl, rfl, rfl, rfl⟩
@[go_sem] theorem c99_r0 (v0 : Option Addr) : RP c99 0 [(0, v0)] K =
 (K [(0, v0)]) := by kernel_rfl
@[go_sem] theorem c99_r1 (v0 : Option Addr) : RP c99 1 [(0, v0)] K =
 (cal eB Tryz.prog 96 #[v0] fun (y1_ : Bool) => (K [(0, v0), (4, y1_)])) := by kernel_rfl
@[go_sem] theorem c99_r2 : RP c99 2 [] K =
 (K [(2, .int .i64 0)]) := by kernel_rfl
@[go_sem] theorem c99_r3 (v0 : Option Addr) : RP c99 3 [(0, v0)] K =
 (nn v0 fun y1_ => (ld eSl y1_ fun (y2_ : (Option Addr × Nat × Nat)) => (K [(2, .int .i64 (y2_.2.1 : Int))]))) := by kernel_rfl
@[go_sem] theorem c99_o : c99.lo 1000000 = [2] := rfl
@[go_sem] theorem c99_e (v2 : Int) : RTp c99 [(2, v2)] k = (k (v2)) := by kernel_rfl
theorem c99_ok : (c99.P.follows .mixedOrders && okc c99 c99.body) = true := by kernel_rfl
theorem c99_fn (hρ : envA 0 args.toList = ρ) (hs : Nat.ble args.size 10 = true) (h : E L (D c99 (.seq (.reg 0) (.seq (.seq (.reg 1) (.cond (.tmp 4) (.seq (.reg 2) (.ret)) (.skip))) (.seq (.reg 3) (.ret)))) (fnQ c99 e G) ρ)) : E L (cal e Tryz.prog 99 args G) :=
  d_fn (c := c99) Tryz.func99 (by kernel_rfl) (by kernel_rfl) (by kernel_rfl) c99_ok (by kernel_rfl) (by kernel_rfl) hρ hs h
noncomputable def c123 := cf Tryz.f123 23 [(0, [0]), (1, [0]), (2, []), (3, [0]), (4, [0, 3]), (5, [3, 11]), (6, [3, 11]), (7, [3, 4, 11]), (8, [3]), (9, [3])] [(0, [0]), (1, [0, 6]), (2, [2]), (3, [0, 3]), (4, [3, 11]), (5, [3, 11, 13]), (6, [3, 4, 11]), (7, [3, 11]), (8, [3]), (9, [2]), (1000000, [2])] [] [(11, eP), (12, (eT3 eB eI eS)), (14, (eT2 eI eS))]
@[go_sem] theorem c123_i : c123.li 0 = [0] ∧ c123.li 1 = [0] ∧ c123.li 2 = [] ∧ c123.li 3 = [0] ∧ c123.li 4 = [0, 3] ∧ c123.li 5 = [3, 11] ∧ c123.li 6 = [3, 11] ∧ c123.li 7 = [3, 4, 11] ∧ c123.li 8 = [3] ∧ c123.li 9 = [3] := ⟨rfl, rfl, rfl, rfl, rfl, rfl, rfl, rfl, rfl, rfl⟩
@[go_sem] theorem c123_r0 (v0 : Option Addr) : RP c123 0 [(0, v0)] K =
 (K [(0, v0)]) := by kernel_rfl
@[go_sem] theorem c123_r1 (v0 : Option Addr) : RP c123 1 [(0, v0)] K =
 (cal eB Tryz.prog 96 #[v0] fun (y1_ : Bool) => (K [(0, v0), (6, y1_)])) := by kernel_rfl
@[go_sem] theorem c123_r2 : RP c123 2 [] K =
 (K [(2, .slice none 0 0)]) := by kernel_rfl
@[go_sem] theorem c123_r3 (v0 : Option Addr) : RP c123 3 [(0, v0)] K =
 (K [(0, v0), (3, .slice none 0 0)]) := by kernel_rfl
@[go_sem] theorem c123_r4 (v0 v3p : Option Addr) (v3n v3c : Nat) : RP c123 4 [(0, v0), (3, .slice v3p v3n v3c)] K =
 (nn v0 fun y1_ => (ld eM (y1_.add 1) fun (y2_ : Option Nat) => (val eP Tryz.prog (oRange 106 (.map y2_)) fun (y3_ : Option Addr) => (K [(3, .slice v3p v3n v3c), (11, y3_)])))) := by kernel_rfl
@[go_sem] theorem c123_r5 (v3p : Option Addr) (v3n v3c : Nat) (v11 : Option Addr) : RP c123 5 [(3, .slice v3p v3n v3c), (11, v11)] K =
 (nxt (eT3 eB eI eS) Tryz.prog (oNext (v11) false 0) (K [(3, .slice v3p v3n v3c), (11, v11), (13, false)]) fun (y1_ : (Bool × Int × (List UInt8))) => (K [(3, .slice v3p v3n v3c), (11, v11), (13, y1_.1)])) := by kernel_rfl
@[go_sem] theorem c123_r6 (v3p : Option Addr) (v3n v3c : Nat) (v11 : Option Addr) : RP c123 6 [(3, .slice v3p v3n v3c), (11, v11)] K =
 (val (eT2 eI eS) Tryz.prog (oEntry (v11)) fun (y1_ : (Int × (List UInt8))) => (K [(3, .slice v3p v3n v3c), (4, y1_.1), (11, v11)])) := by kernel_rfl
@[go_sem] theorem c123_r7 (v3p : Option Addr) (v3n v3c : Nat) (v4 : Int) (v11 : Option Addr) : RP c123 7 [(3, .slice v3p v3n v3c), (4, v4), (11, v11)] K =
 (nwc #[v4] 3 fun y1_ => (val eSl Tryz.prog (oB_append #[45, 45] 45 #[.slice v3p v3n v3c, .slice (some y1_) 1 1]) fun (y2_ : (Option Addr × Nat × Nat)) => (K [(3, .slice y2_.1 y2_.2.1 y2_.2.2), (11, v11)]))) := by kernel_rfl
@[go_sem] theorem c123_r8 (v3p : Option Addr) (v3n v3c : Nat) : RP c123 8 [(3, .slice v3p v3n v3c)] K =
 (cal eN Tryz.prog 136 #[.slice v3p v3n v3c] fun (y1_ : Unit) => (K [(3, .slice v3p v3n v3c)])) := by kernel_rfl
@[go_sem] theorem c123_r9 (v3p : Option Addr) (v3n v3c : Nat) : RP c123 9 [(3, .slice v3p v3n v3c)] K =
 (K [(2, .slice v3p v3n v3c)]) := by kernel_rfl
@[go_sem] theorem c123_o : c123.lo 1000000 = [2] := rfl
@[go_sem] theorem c123_e (v2p : Option Addr) (v2n v2c : Nat) : RTp c123 [(2, .slice v2p v2n v2c)] k = (k (.slice v2p v2n v2c)) := by kernel_rfl
theorem c123_ok : (c123.P.follows .mixedOrders && okc c123 c123.body) = true := by kernel_rfl
theorem c123_fn (hρ : envA 0 args.toList = ρ) (hs : Nat.ble args.size 23 = true) (h : E L (D c123 (.seq (.reg 0) (.seq (.seq (.reg 1) (.cond (.tmp 6) (.seq (.reg 2) (.ret)) (.skip))) (.seq (.reg 3) (.seq (.seq (.reg 4) (.block 0 (.loop (.seq (.reg 5) (.seq (.cond (.tmp 13) (.skip) (.exit 0)) (.block 1 (.seq (.reg 6) (.reg 7)))))))) (.seq (.reg 8) (.seq (.reg 9) (.ret))))))) (fnQ c123 e G) ρ)) : E L (cal e Tryz.prog 123 args G) :=
  d_fn (c := c123) Tryz.func123 (by kernel_rfl) (by kernel_rfl) (by kernel_rfl) c123_ok (by kernel_rfl) (by kernel_rfl) hρ hs h
end Go.Sp
namespace Go.Sp
set_option linter.unusedSimpArgs false
set_option linter.unusedVariables false
set_option maxRecDepth 10000
open Go Go.Proofs
theorem f80 (t : TypeId) (s : SlV) (zs : List Int) (hl : zs.length < 4611686018427387904) :
    Fq eN Tryz.prog 136 #[.slice s.1 s.2.1 s.2.2] [ow t 1 s (zs.map fun n => .int .i64 n)] [ow t 1 s ((zs.mergeSort fun x y => decide (x ≤ y)).map fun n => .int .i64 n)] () :=
  fq_sort (fun b o c zs w h1 h2 h3 => Any.slices_Sort_int Tryz.lays189 b o c zs w h1 h2 h3) (fun p c w => Any.slices_Sort_int_none Tryz.lays189 p c w) t s zs hl
theorem f87 (s : List UInt8) (c : Nat) (h : s.length * c ≤ 140737488355328) (hc : c ≤ 9223372036854775807) : Fp eS Tryz.prog 112 #[str s, .int .i64 (c : Int)] [] (Lib.repeatL s c) :=
  fp_below fun w => Any.strings_Repeat Tryz.lays105 Tryz.builder ⟨s.toArray⟩ c w hc h
def wh (s : List UInt8) : List UInt8 := s ++ List.replicate (64 - s.length) 0
theorem wh_len {s : List UInt8} (h : s.length ≤ 64) : (wh s).length = 64 := by simp [wh]; omega
theorem wh_full {s : List UInt8} (h : s.length = 64) : wh s = s := by simp [wh, h]
theorem rep_one (n : Nat) : Lib.repeatL [0] n = List.replicate n (0 : UInt8) := by
  induction n with
  | zero => rfl
  | succ n ih => rw [Lib.repeatL, ih]; rfl
theorem f69 (s : List UInt8) (h : s.length ≤ 64) : Fp eS Tryz.prog 81 #[str s] [] (wh s) := fun L => by
  refine c81_fn rfl rfl ?_
  repeat' (first | (with_reducible first | (refine d_seq ?_; intro K hK) | (refine hK _ _ ?_; clear hK K) | (refine SG.p ?_; try intro b) | refine r_rq (by first | decide | omega) ?_) | ((with_reducible refine SC.p ?_); refine aI ?_ ?_) <;> intro hc <;> try simp only [push_cast, seval] at hc | ((with_reducible refine SL.p ?_); first | refine ⟨_, rfl, ?_⟩ | refine ⟨_, _, _, rfl, ?_⟩ | (refine ⟨?_, rfl, ?_⟩; focus (simp; done))) | ((with_reducible first | apply i_ldn | apply i_ldnq); iterate 3 exact rfl) | ((try with_reducible refine d_reg ?_); simp only [go_sem]) | clear hK K)
  have e : IntKind.wrap .i64 ((64 : Int) - (s.length : Int)) = ((64 - s.length : Nat) : Int) := by rw [w64 (by omega) (by omega)]; omega
  rw [e]
  refine i_clp (f87 [0] (64 - s.length) (by simp; omega) (by omega)) ?_
  have hl : (Lib.repeatL [0] (64 - s.length)).length ≤ 64 := by rw [rep_one]; simp
  repeat' (first | (with_reducible first | (refine d_seq ?_; intro K hK) | (refine hK _ _ ?_; clear hK K) | (refine SG.p ?_; try intro b) | refine r_rq (by first | decide | omega) ?_) | ((with_reducible refine SC.p ?_); refine aI ?_ ?_) <;> intro hc <;> try simp only [push_cast, seval] at hc | ((with_reducible refine SL.p ?_); first | refine ⟨_, rfl, ?_⟩ | refine ⟨_, _, _, rfl, ?_⟩ | (refine ⟨?_, rfl, ?_⟩; focus (simp; done))) | ((with_reducible first | apply i_ldn | apply i_ldnq); iterate 3 exact rfl) | ((try with_reducible refine d_reg ?_); simp only [go_sem]) | clear hK K)
  (with_reducible first | apply i_ret0 | apply i_ret2 | apply i_ret3 | apply i_ret); exact rfl
  rw [rep_one]; rfl
end Go.Sp
namespace Go.Sp
open Go Go.Proofs
set_option linter.unusedSimpArgs false
set_option linter.unusedVariables false
set_option maxRecDepth 10000
structure Dk where
  sb : Nat
  bb : Nat
  mb : Nat
  sure : List (List UInt8)
  es : Ents eI eS
  c : Nat
  up : Bool
  fuse : Int
  keep : Int
  acts : Int
  downs : Int
abbrev Dk.hd (D : Dk) : List Value := [.slice (some ⟨D.bb, 0, none⟩) D.sure.length D.sure.length, .map (some D.mb), .bool D.up, .int .i64 D.fuse, .int .u64 D.keep, .int .i64 D.acts, .int .i64 D.downs]
abbrev dkl (D : Dk) : List HP := [ar D.sb 108 D.hd, ar D.bb 9 (D.sure.map fun s => str s), mp eI eS D.mb D.es D.c]
def Dk.p (D : Dk) : Value := .pointer (some ⟨D.sb, 0, none⟩)
structure Dk.ok (D : Dk) : Prop where
  n0 : 0 < D.sure.length
  n1 : D.sure.length ≤ 8192
  l64 : ∀ s ∈ D.sure, s.length ≤ 64
  e64 : ∀ x ∈ D.es, x.2.1.length = 64
  ei : ∀ x ∈ D.es, 0 ≤ x.1 ∧ x.1 < (D.sure.length : Int)
  ec : ∀ x ∈ D.es, x.2.2 < D.c
  kn : (D.es.map (·.1)).Nodup
  bn : (D.es.map (·.2.2)).Nodup
  fu : -1 ≤ D.fuse ∧ D.fuse ≤ 9223372036854775807
  kp : 0 ≤ D.keep ∧ D.keep ≤ 18446744073709551615
def Dk.chk (D : Dk) (i : Int) : Int := if D.up = false then 9 else if i < 0 ∨ (D.sure.length : Int) ≤ i then 6 else 0
def Dk.get (D : Dk) (i : Int) : List UInt8 := (gk D.es i).getD (wh (D.sure.getD i.toNat []))
theorem f66 (D : Dk) (h : D.ok) : Fp eB Tryz.prog 96 #[D.p] (dkl D) false := fun L => by
  refine c96_fn rfl rfl ?_
  have := h.n0
  simp only [dkl, Dk.hd, Dk.p]
  repeat' (first | (with_reducible first | (refine d_seq ?_; intro K hK) | (refine hK _ _ ?_; clear hK K) | (refine SG.p ?_; try intro b) | refine r_rq (by first | decide | omega) ?_) | ((with_reducible refine SC.p ?_); refine aI ?_ ?_) <;> intro hc <;> try simp only [push_cast, seval] at hc | ((with_reducible refine SL.p ?_); first | refine ⟨_, rfl, ?_⟩ | refine ⟨_, _, _, rfl, ?_⟩ | (refine ⟨?_, rfl, ?_⟩; focus (simp; done))) | ((with_reducible first | apply i_ldn | apply i_ldnq); iterate 3 exact rfl) | ((try with_reducible refine d_reg ?_); simp only [go_sem]) | clear hK K)
  (with_reducible first | apply i_ret0 | apply i_ret2 | apply i_ret3 | apply i_ret); exact rfl
  rw [beq_eq_false_iff_ne]; omega
theorem f67 (D : Dk) (h : D.ok) (i : Int) : Fp eI Tryz.prog 80 #[D.p, .int .i64 i] (dkl D) (D.chk i) := fun L => by
  refine c80_fn rfl rfl ?_
  simp only [Dk.p]
  repeat' ((fail_if_success with_reducible refine nph ?_); first | (with_reducible first | (refine d_seq ?_; intro K hK) | (refine hK _ _ ?_; clear hK K) | (refine SG.p ?_; try intro b) | refine r_rq (by first | decide | omega) ?_) | ((with_reducible refine SC.p ?_); refine aI ?_ ?_) <;> intro hc <;> try simp only [push_cast, seval] at hc | ((with_reducible refine SL.p ?_); first | refine ⟨_, rfl, ?_⟩ | refine ⟨_, _, _, rfl, ?_⟩ | (refine ⟨?_, rfl, ?_⟩; focus (simp; done))) | ((with_reducible first | apply i_ldn | apply i_ldnq); iterate 3 exact rfl) | ((try with_reducible refine d_reg ?_); simp only [go_sem]) | clear hK K)
  refine i_clp (f66 D h) ?_
  simp only [dkl, Dk.hd]
  repeat' (first | (with_reducible first | (refine d_seq ?_; intro K hK) | (refine hK _ _ ?_; clear hK K) | (refine SG.p ?_; try intro b) | refine r_rq (by first | decide | omega) ?_) | ((with_reducible refine SC.p ?_); refine aI ?_ ?_) <;> intro hc <;> try simp only [push_cast, seval] at hc | ((with_reducible refine SL.p ?_); first | refine ⟨_, rfl, ?_⟩ | refine ⟨_, _, _, rfl, ?_⟩ | (refine ⟨?_, rfl, ?_⟩; focus (simp; done))) | ((with_reducible first | apply i_ldn | apply i_ldnq); iterate 3 exact rfl) | ((try with_reducible refine d_reg ?_); simp only [go_sem]) | clear hK K)
  all_goals ((with_reducible first | apply i_ret0 | apply i_ret2 | apply i_ret3 | apply i_ret); exact rfl; simp [Dk.chk, *]; try omega)
theorem Dk.chk_ok {D : Dk} {i : Int} (h : D.chk i = 0) : D.up = true ∧ 0 ≤ i ∧ i < D.sure.length := by
  unfold Dk.chk at h
  split at h
  · cases h
  · split at h
    · cases h
    · rename_i h1 h2
      refine ⟨by simpa using h1, by omega, by omega⟩
theorem f31 (D : Dk) (h : D.ok) (i : Int) : Fp (eT2 eS eI) Tryz.prog 22 #[D.p, .int .i64 i] (dkl D) (if D.chk i = 0 then D.get i else [], D.chk i) := fun L => by
  refine c22_fn rfl rfl ?_
  simp only [Dk.p]
  repeat' ((fail_if_success with_reducible refine nph ?_); first | (with_reducible first | (refine d_seq ?_; intro K hK) | (refine hK _ _ ?_; clear hK K) | (refine SG.p ?_; try intro b) | refine r_rq (by first | decide | omega) ?_) | ((with_reducible refine SC.p ?_); refine aI ?_ ?_) <;> intro hc <;> try simp only [push_cast, seval] at hc | ((with_reducible refine SL.p ?_); first | refine ⟨_, rfl, ?_⟩ | refine ⟨_, _, _, rfl, ?_⟩ | (refine ⟨?_, rfl, ?_⟩; focus (simp; done))) | ((with_reducible first | apply i_ldn | apply i_ldnq); iterate 3 exact rfl) | ((try with_reducible refine d_reg ?_); simp only [go_sem]) | clear hK K)
  refine i_clp (f67 D h i) ?_
  simp only [dkl, Dk.hd]
  repeat' (first | (with_reducible first | (refine d_seq ?_; intro K hK) | (refine hK _ _ ?_; clear hK K) | (refine SG.p ?_; try intro b) | refine r_rq (by first | decide | omega) ?_) | ((with_reducible refine SC.p ?_); refine aI ?_ ?_) <;> intro hc <;> try simp only [push_cast, seval] at hc | ((with_reducible refine SL.p ?_); first | refine ⟨_, rfl, ?_⟩ | refine ⟨_, _, _, rfl, ?_⟩ | (refine ⟨?_, rfl, ?_⟩; focus (simp; done))) | ((with_reducible first | apply i_ldn | apply i_ldnq); iterate 3 exact rfl) | ((try with_reducible refine d_reg ?_); simp only [go_sem]) | clear hK K)
  · (with_reducible first | apply i_ret0 | apply i_ret2 | apply i_ret3 | apply i_ret); exact rfl
    simp [*]
  · have hk := Dk.chk_ok hc
    have hn : i.toNat < D.sure.length := by omega
    refine i_lk2 (ε := eS) [] (by kernel_rfl) ?_
    repeat' (first | (with_reducible first | (refine d_seq ?_; intro K hK) | (refine hK _ _ ?_; clear hK K) | (refine SG.p ?_; try intro b) | refine r_rq (by first | decide | omega) ?_) | ((with_reducible refine SC.p ?_); refine aI ?_ ?_) <;> intro hc <;> try simp only [push_cast, seval] at hc | ((with_reducible refine SL.p ?_); first | refine ⟨_, rfl, ?_⟩ | refine ⟨_, _, _, rfl, ?_⟩ | (refine ⟨?_, rfl, ?_⟩; focus (simp; done))) | ((with_reducible first | apply i_ldn | apply i_ldnq); iterate 3 exact rfl) | ((try with_reducible refine d_reg ?_); simp only [go_sem]) | clear hK K)
    · (with_reducible first | apply i_ret0 | apply i_ret2 | apply i_ret3 | apply i_ret); exact rfl
      simp only [hc, if_true, Dk.get]
      cases hg : gk D.es i <;> simp_all
    · have hl : (D.sure.map fun s => str s)[i.toNat]? = some (str (D.sure.getD i.toNat [])) := by simp [hn]
      refine i_ld (e := eS) (by simpa using hl) ?_
      refine i_clp (f69 _ (h.l64 _ (by simp [hn]))) ?_
      repeat' (first | (with_reducible first | (refine d_seq ?_; intro K hK) | (refine hK _ _ ?_; clear hK K) | (refine SG.p ?_; try intro b) | refine r_rq (by first | decide | omega) ?_) | ((with_reducible refine SC.p ?_); refine aI ?_ ?_) <;> intro hc <;> try simp only [push_cast, seval] at hc | ((with_reducible refine SL.p ?_); first | refine ⟨_, rfl, ?_⟩ | refine ⟨_, _, _, rfl, ?_⟩ | (refine ⟨?_, rfl, ?_⟩; focus (simp; done))) | ((with_reducible first | apply i_ldn | apply i_ldnq); iterate 3 exact rfl) | ((try with_reducible refine d_reg ?_); simp only [go_sem]) | clear hK K)
      (with_reducible first | apply i_ret0 | apply i_ret2 | apply i_ret3 | apply i_ret); exact rfl
      simp only [hc, if_true, Dk.get]
      cases hg : gk D.es i <;> simp_all
theorem f26 (D : Dk) (h : D.ok) : Fp eI Tryz.prog 99 #[D.p] (dkl D) (D.sure.length : Int) := fun L => by
  refine c99_fn rfl rfl ?_
  simp only [Dk.p]
  repeat' ((fail_if_success with_reducible refine nph ?_); first | (with_reducible first | (refine d_seq ?_; intro K hK) | (refine hK _ _ ?_; clear hK K) | (refine SG.p ?_; try intro b) | refine r_rq (by first | decide | omega) ?_) | ((with_reducible refine SC.p ?_); refine aI ?_ ?_) <;> intro hc <;> try simp only [push_cast, seval] at hc | ((with_reducible refine SL.p ?_); first | refine ⟨_, rfl, ?_⟩ | refine ⟨_, _, _, rfl, ?_⟩ | (refine ⟨?_, rfl, ?_⟩; focus (simp; done))) | ((with_reducible first | apply i_ldn | apply i_ldnq); iterate 3 exact rfl) | ((try with_reducible refine d_reg ?_); simp only [go_sem]) | clear hK K)
  refine i_clp (f66 D h) ?_
  simp only [dkl, Dk.hd]
  repeat' (first | (with_reducible first | (refine d_seq ?_; intro K hK) | (refine hK _ _ ?_; clear hK K) | (refine SG.p ?_; try intro b) | refine r_rq (by first | decide | omega) ?_) | ((with_reducible refine SC.p ?_); refine aI ?_ ?_) <;> intro hc <;> try simp only [push_cast, seval] at hc | ((with_reducible refine SL.p ?_); first | refine ⟨_, rfl, ?_⟩ | refine ⟨_, _, _, rfl, ?_⟩ | (refine ⟨?_, rfl, ?_⟩; focus (simp; done))) | ((with_reducible first | apply i_ldn | apply i_ldnq); iterate 3 exact rfl) | ((try with_reducible refine d_reg ?_); simp only [go_sem]) | clear hK K)
  (with_reducible first | apply i_ret0 | apply i_ret2 | apply i_ret3 | apply i_ret); exact rfl
  rfl
theorem f41 (D : Dk) (h : D.ok) : Fq eN Tryz.prog 63 #[D.p] (dkl D) (dkl { D with fuse := -1 }) () := fun L => by
  refine c63_fn rfl rfl ?_
  simp only [Dk.p]
  repeat' ((fail_if_success with_reducible refine nph ?_); first | (with_reducible first | (refine d_seq ?_; intro K hK) | (refine hK _ _ ?_; clear hK K) | (refine SG.p ?_; try intro b) | refine r_rq (by first | decide | omega) ?_) | ((with_reducible refine SC.p ?_); refine aI ?_ ?_) <;> intro hc <;> try simp only [push_cast, seval] at hc | ((with_reducible refine SL.p ?_); first | refine ⟨_, rfl, ?_⟩ | refine ⟨_, _, _, rfl, ?_⟩ | (refine ⟨?_, rfl, ?_⟩; focus (simp; done))) | ((with_reducible first | apply i_ldn | apply i_ldnq); iterate 3 exact rfl) | ((try with_reducible refine d_reg ?_); simp only [go_sem]) | clear hK K)
  refine i_clp (f66 D h) ?_
  simp only [dkl, Dk.hd]
  repeat' (first | (with_reducible first | (refine d_seq ?_; intro K hK) | (refine hK _ _ ?_; clear hK K) | (refine SG.p ?_; try intro b) | refine r_rq (by first | decide | omega) ?_) | ((with_reducible refine SC.p ?_); refine aI ?_ ?_) <;> intro hc <;> try simp only [push_cast, seval] at hc | ((with_reducible refine SL.p ?_); first | refine ⟨_, rfl, ?_⟩ | refine ⟨_, _, _, rfl, ?_⟩ | (refine ⟨?_, rfl, ?_⟩; focus (simp; done))) | ((with_reducible first | apply i_ldn | apply i_ldnq); iterate 3 exact rfl) | ((try with_reducible refine d_reg ?_); simp only [go_sem]) | clear hK K)
  (with_reducible first | apply i_ret0 | apply i_ret2 | apply i_ret3 | apply i_ret); exact rfl
theorem f30 (D : Dk) (h : D.ok) : Fq eI Tryz.prog 64 #[D.p] (dkl D) (dkl { D with up := true }) (if D.up then 19 else 0) := fun L => by
  refine c64_fn rfl rfl ?_
  simp only [Dk.p]
  repeat' ((fail_if_success with_reducible refine nph ?_); first | (with_reducible first | (refine d_seq ?_; intro K hK) | (refine hK _ _ ?_; clear hK K) | (refine SG.p ?_; try intro b) | refine r_rq (by first | decide | omega) ?_) | ((with_reducible refine SC.p ?_); refine aI ?_ ?_) <;> intro hc <;> try simp only [push_cast, seval] at hc | ((with_reducible refine SL.p ?_); first | refine ⟨_, rfl, ?_⟩ | refine ⟨_, _, _, rfl, ?_⟩ | (refine ⟨?_, rfl, ?_⟩; focus (simp; done))) | ((with_reducible first | apply i_ldn | apply i_ldnq); iterate 3 exact rfl) | ((try with_reducible refine d_reg ?_); simp only [go_sem]) | clear hK K)
  refine i_clp (f66 D h) ?_
  cases hu : D.up
  all_goals (simp only [dkl, Dk.hd, hu]; repeat' (first | (with_reducible first | (refine d_seq ?_; intro K hK) | (refine hK _ _ ?_; clear hK K) | (refine SG.p ?_; try intro b) | refine r_rq (by first | decide | omega) ?_) | ((with_reducible refine SC.p ?_); refine aI ?_ ?_) <;> intro hc <;> try simp only [push_cast, seval] at hc | ((with_reducible refine SL.p ?_); first | refine ⟨_, rfl, ?_⟩ | refine ⟨_, _, _, rfl, ?_⟩ | (refine ⟨?_, rfl, ?_⟩; focus (simp; done))) | ((with_reducible first | apply i_ldn | apply i_ldnq); iterate 3 exact rfl) | ((try with_reducible refine d_reg ?_); simp only [go_sem]) | clear hK K))
  all_goals ((with_reducible first | apply i_ret0 | apply i_ret2 | apply i_ret3 | apply i_ret); exact rfl; simp [hu])
def Dk.arm (D : Dk) (n k : Int) : Int × Dk := if D.chk 0 = 0 then (if n < 0 then (1, D) else (0, { D with fuse := n, keep := k })) else (D.chk 0, D)
theorem f42 (D : Dk) (h : D.ok) (n k : Int) : Fq eI Tryz.prog 60 #[D.p, .int .i64 n, .int .u64 k] (dkl D) (dkl (D.arm n k).2) (D.arm n k).1 := by
  unfold Dk.arm
  by_cases h0 : D.chk 0 = 0 <;> by_cases hn : n < 0 <;> simp only [h0, hn, if_true, if_false]
  all_goals
    intro L
    refine c60_fn rfl rfl ?_
    simp only [Dk.p]
    repeat' ((fail_if_success with_reducible refine nph ?_); first | (with_reducible first | (refine d_seq ?_; intro K hK) | (refine hK _ _ ?_; clear hK K) | (refine SG.p ?_; try intro b) | refine r_rq (by first | decide | omega) ?_) | ((with_reducible refine SC.p ?_); refine aI ?_ ?_) <;> intro hc <;> try simp only [push_cast, seval] at hc | ((with_reducible refine SL.p ?_); first | refine ⟨_, rfl, ?_⟩ | refine ⟨_, _, _, rfl, ?_⟩ | (refine ⟨?_, rfl, ?_⟩; focus (simp; done))) | ((with_reducible first | apply i_ldn | apply i_ldnq); iterate 3 exact rfl) | ((try with_reducible refine d_reg ?_); simp only [go_sem]) | clear hK K)
    refine i_clp (f67 D h 0) ?_
    simp only [dkl, Dk.hd]
    repeat' (first | (with_reducible first | (refine d_seq ?_; intro K hK) | (refine hK _ _ ?_; clear hK K) | (refine SG.p ?_; try intro b) | refine r_rq (by first | decide | omega) ?_) | ((with_reducible refine SC.p ?_); refine aI ?_ ?_) <;> intro hc <;> try simp only [push_cast, seval] at hc | ((with_reducible refine SL.p ?_); first | refine ⟨_, rfl, ?_⟩ | refine ⟨_, _, _, rfl, ?_⟩ | (refine ⟨?_, rfl, ?_⟩; focus (simp; done))) | ((with_reducible first | apply i_ldn | apply i_ldnq); iterate 3 exact rfl) | ((try with_reducible refine d_reg ?_); simp only [go_sem]) | clear hK K)
    all_goals first | contradiction | omega | ((with_reducible first | apply i_ret0 | apply i_ret2 | apply i_ret3 | apply i_ret); exact rfl; rfl)
def Dk.new (sb bb mb n : Nat) : Dk := ⟨sb, bb, mb, List.replicate n [], [], 0, true, -1, 0, 0, 0⟩
theorem Dk.new_ok {sb bb mb n : Nat} (h0 : 0 < n) (h1 : n ≤ 8192) : (Dk.new sb bb mb n).ok := by
  constructor <;> simp_all [Dk.new]
theorem f25 (n : Nat) (h0 : 0 < n) (h1 : n ≤ 8192) : Fn (eT2 eP eI) Tryz.prog 16 #[.int .i64 (n : Int)] [] fun y X => ∃ sb bb mb, y = (some ⟨sb, 0, none⟩, 0) ∧ X = dkl (Dk.new sb bb mb n) := fun L => by
  refine c16_fn rfl rfl ?_
  repeat' (first | (with_reducible first | (refine d_seq ?_; intro K hK) | (refine hK _ _ ?_; clear hK K) | (refine SG.p ?_; try intro b) | refine r_rq (by first | decide | omega) ?_) | ((with_reducible refine SC.p ?_); refine aI ?_ ?_) <;> intro hc <;> try simp only [push_cast, seval] at hc | ((with_reducible refine SL.p ?_); first | refine ⟨_, rfl, ?_⟩ | refine ⟨_, _, _, rfl, ?_⟩ | (refine ⟨?_, rfl, ?_⟩; focus (simp; done))) | ((with_reducible first | apply i_ldn | apply i_ldnq); iterate 3 exact rfl) | ((try with_reducible refine d_reg ?_); simp only [go_sem]) | clear hK K)
  all_goals try (exfalso; omega)
  refine r_mk (el := 9) n (str []) (by kernel_rfl) rfl (by omega) fun bb => ?_
  refine r_nwm eI eS fun mb => ?_
  refine r_nwc fun sb => ?_
  repeat' (first | (with_reducible first | (refine d_seq ?_; intro K hK) | (refine hK _ _ ?_; clear hK K) | (refine SG.p ?_; try intro b) | refine r_rq (by first | decide | omega) ?_) | ((with_reducible refine SC.p ?_); refine aI ?_ ?_) <;> intro hc <;> try simp only [push_cast, seval] at hc | ((with_reducible refine SL.p ?_); first | refine ⟨_, rfl, ?_⟩ | refine ⟨_, _, _, rfl, ?_⟩ | (refine ⟨?_, rfl, ?_⟩; focus (simp; done))) | ((with_reducible first | apply i_ldn | apply i_ldnq); iterate 3 exact rfl) | ((try with_reducible refine d_reg ?_); simp only [go_sem]) | clear hK K)
  refine r_done (x := (some ⟨sb, 0, none⟩, 0)) (dkl (Dk.new sb bb mb n)) rfl ⟨sb, bb, mb, rfl, rfl⟩ ?_
  have hl : (List.replicate n ([] : List UInt8)).map (fun s => str s) = List.replicate n (str []) := by simp
  simp only [dkl, Dk.hd, Dk.new, hl, List.length_replicate]
  exact SX.p
def Dk.keys (D : Dk) : List Int := (D.es.map (·.1)).mergeSort fun x y => decide (x ≤ y)
theorem sort_perm {l l' : List Int} (h : l.Perm l') : l.mergeSort (fun x y => decide (x ≤ y)) = l'.mergeSort (fun x y => decide (x ≤ y)) := by
  have tr : ∀ a b c : Int, decide (a ≤ b) = true → decide (b ≤ c) = true → decide (a ≤ c) = true := by intro a b c h1 h2; simp at *; omega
  have tt : ∀ a b : Int, (decide (a ≤ b) || decide (b ≤ a)) = true := by intro a b; simp; omega
  refine List.Perm.eq_of_pairwise (le := fun a b => decide (a ≤ b) = true) ?_ (List.pairwise_mergeSort tr tt l) (List.pairwise_mergeSort tr tt l') (((List.mergeSort_perm _ _).trans h).trans (List.mergeSort_perm _ _).symm)
  intro a b _ _ h1 h2
  simp at h1 h2
  omega
theorem f43 (D : Dk) (h : D.ok) (hlen : D.es.length ≤ 8192) : Fn eSl Tryz.prog 123 #[D.p] (dkl D) fun y X => X = ow 3 1 y (D.keys.map fun n => .int .i64 n) :: dkl D ∧ y.2.1 = D.keys.length := fun L => by
  refine c123_fn rfl rfl ?_
  simp only [Dk.p]
  repeat' ((fail_if_success with_reducible refine nph ?_); first | (with_reducible first | (refine d_seq ?_; intro K hK) | (refine hK _ _ ?_; clear hK K) | (refine SG.p ?_; try intro b) | refine r_rq (by first | decide | omega) ?_) | ((with_reducible refine SC.p ?_); refine aI ?_ ?_) <;> intro hc <;> try simp only [push_cast, seval] at hc | ((with_reducible refine SL.p ?_); first | refine ⟨_, rfl, ?_⟩ | refine ⟨_, _, _, rfl, ?_⟩ | (refine ⟨?_, rfl, ?_⟩; focus (simp; done))) | ((with_reducible first | apply i_ldn | apply i_ldnq); iterate 3 exact rfl) | ((try with_reducible refine d_reg ?_); simp only [go_sem]) | clear hK K)
  refine i_clp (f66 D h) ?_
  simp only [dkl, Dk.hd]
  repeat' (first | (with_reducible first | (refine d_seq ?_; intro K hK) | (refine hK _ _ ?_; clear hK K) | (refine SG.p ?_; try intro b) | refine r_rq (by first | decide | omega) ?_) | ((with_reducible refine SC.p ?_); refine aI ?_ ?_) <;> intro hc <;> try simp only [push_cast, seval] at hc | ((with_reducible refine SL.p ?_); first | refine ⟨_, rfl, ?_⟩ | refine ⟨_, _, _, rfl, ?_⟩ | (refine ⟨?_, rfl, ?_⟩; focus (simp; done))) | ((with_reducible first | apply i_ldn | apply i_ldnq); iterate 3 exact rfl) | ((try with_reducible refine d_reg ?_); simp only [go_sem]) | clear hK K)
  refine i_mrng (κ := eI) (ε := eS) (a := 3) (b := 9) (by kernel_rfl) fun it => ?_
  refine r_nilow 3 1 ?_
  repeat' (first | (with_reducible first | (refine d_seq ?_; intro K hK) | (refine hK _ _ ?_; clear hK K) | (refine SG.p ?_; try intro b) | refine r_rq (by first | decide | omega) ?_) | ((with_reducible refine SC.p ?_); refine aI ?_ ?_) <;> intro hc <;> try simp only [push_cast, seval] at hc | ((with_reducible refine SL.p ?_); first | refine ⟨_, rfl, ?_⟩ | refine ⟨_, _, _, rfl, ?_⟩ | (refine ⟨?_, rfl, ?_⟩; focus (simp; done))) | ((with_reducible first | apply i_ldn | apply i_ldnq); iterate 3 exact rfl) | ((try with_reducible refine d_reg ?_); simp only [go_sem]) | clear hK K)
  refine d_lp [3, 11] (fun s : SlV × Ents eI eS × Ents eI eS => [(3, .slice s.1.1 s.1.2.1 s.1.2.2), (11, .pointer (some ⟨it, 0, none⟩))])
    (fun s => ow 3 1 s.1 ((s.2.1.map fun x => (x.1 : Int)).map fun n => .int .i64 n) :: blk it (.mapIter (some D.mb) D.c (sn s.2.1) D.c) :: (dkl D ++ L)) (fun s => Rg D.es s.2.1 s.2.2 ∧ s.1.2.1 = s.2.1.length) (fun s => s.2.2.length) ((none, 0, 0), [], D.es) rfl ?_ ⟨Rg.start _, rfl⟩ ?_
  · show Sub (ow 3 1 (none, 0, 0) [] :: blk it (.mapIter (some D.mb) D.c #[] D.c) :: (dkl D ++ L)) _
    exact SX.p
  rintro ⟨⟨op, on, oc⟩, S, R⟩ ⟨hR, ho⟩
  dsimp only at ho hR ⊢
  have hlS : S.length + R.length = D.es.length := by rw [← List.length_append]; exact hR.length_eq
  repeat' (first | (with_reducible first | (refine d_seq ?_; intro K hK) | (refine hK _ _ ?_; clear hK K) | (refine SG.p ?_; try intro b) | refine r_rq (by first | decide | omega) ?_) | ((with_reducible refine SC.p ?_); refine aI ?_ ?_) <;> intro hc <;> try simp only [push_cast, seval] at hc | ((with_reducible refine SL.p ?_); first | refine ⟨_, rfl, ?_⟩ | refine ⟨_, _, _, rfl, ?_⟩ | (refine ⟨?_, rfl, ?_⟩; focus (simp; done))) | ((with_reducible first | apply i_ldn | apply i_ldnq); iterate 3 exact rfl) | ((try with_reducible refine d_reg ?_); simp only [go_sem]) | clear hK K)
  refine i_mnx (κ := eI) (ε := eS) h.ec (Nat.le_refl _) (fun ha => ?_) fun x hx hn => ?_
  · repeat' (first | (with_reducible first | (refine d_seq ?_; intro K hK) | (refine hK _ _ ?_; clear hK K) | (refine SG.p ?_; try intro b) | refine r_rq (by first | decide | omega) ?_) | ((with_reducible refine SC.p ?_); refine aI ?_ ?_) <;> intro hc <;> try simp only [push_cast, seval] at hc | ((with_reducible refine SL.p ?_); first | refine ⟨_, rfl, ?_⟩ | refine ⟨_, _, _, rfl, ?_⟩ | (refine ⟨?_, rfl, ?_⟩; focus (simp; done))) | ((with_reducible first | apply i_ldn | apply i_ldnq); iterate 3 exact rfl) | ((try with_reducible refine d_reg ?_); simp only [go_sem]) | clear hK K)
    obtain rfl := hR.done h.bn ha
    have hS : S.Perm D.es := by have := hR; unfold Rg at this; simpa using this
    refine i_clq (f80 3 (op, on, oc) (S.map fun x => (x.1 : Int)) (by simp; omega)) ?_
    repeat' (first | (with_reducible first | (refine d_seq ?_; intro K hK) | (refine hK _ _ ?_; clear hK K) | (refine SG.p ?_; try intro b) | refine r_rq (by first | decide | omega) ?_) | ((with_reducible refine SC.p ?_); refine aI ?_ ?_) <;> intro hc <;> try simp only [push_cast, seval] at hc | ((with_reducible refine SL.p ?_); first | refine ⟨_, rfl, ?_⟩ | refine ⟨_, _, _, rfl, ?_⟩ | (refine ⟨?_, rfl, ?_⟩; focus (simp; done))) | ((with_reducible first | apply i_ldn | apply i_ldnq); iterate 3 exact rfl) | ((try with_reducible refine d_reg ?_); simp only [go_sem]) | clear hK K)
    have hk : D.keys = (S.map fun x => (x.1 : Int)).mergeSort fun x y => decide (x ≤ y) := (sort_perm (hS.map _)).symm
    rw [hk]
    exact i_done (op, on, oc) (ow 3 1 (op, on, oc) _ :: dkl D) rfl ⟨rfl, by simpa using ho⟩
  · repeat' (first | (with_reducible first | (refine d_seq ?_; intro K hK) | (refine hK _ _ ?_; clear hK K) | (refine SG.p ?_; try intro b) | refine r_rq (by first | decide | omega) ?_) | ((with_reducible refine SC.p ?_); refine aI ?_ ?_) <;> intro hc <;> try simp only [push_cast, seval] at hc | ((with_reducible refine SL.p ?_); first | refine ⟨_, rfl, ?_⟩ | refine ⟨_, _, _, rfl, ?_⟩ | (refine ⟨?_, rfl, ?_⟩; focus (simp; done))) | ((with_reducible first | apply i_ldn | apply i_ldnq); iterate 3 exact rfl) | ((try with_reducible refine d_reg ?_); simp only [go_sem]) | clear hK K)
    rw [sn_push]
    refine i_ment hx h.bn ?_
    repeat' (first | (with_reducible first | (refine d_seq ?_; intro K hK) | (refine hK _ _ ?_; clear hK K) | (refine SG.p ?_; try intro b) | refine r_rq (by first | decide | omega) ?_) | ((with_reducible refine SC.p ?_); refine aI ?_ ?_) <;> intro hc <;> try simp only [push_cast, seval] at hc | ((with_reducible refine SL.p ?_); first | refine ⟨_, rfl, ?_⟩ | refine ⟨_, _, _, rfl, ?_⟩ | (refine ⟨?_, rfl, ?_⟩; focus (simp; done))) | ((with_reducible first | apply i_ldn | apply i_ldnq); iterate 3 exact rfl) | ((try with_reducible refine d_reg ?_); simp only [go_sem]) | clear hK K)
    obtain ⟨R', hlt, hst⟩ := hR.step hx hn
    refine i_app (t := 3) (sz := 1) (op, on, oc) 8 (by kernel_rfl) (by decide) rfl rfl (by simp only; omega) fun o' ho' _ => ?_
    have e : (S.map fun x => (x.1 : Int)).map (fun n => Value.int .i64 n) ++ [Value.int .i64 x.1] = ((S ++ [x]).map fun x => (x.1 : Int)).map fun n => Value.int .i64 n := by simp
    rw [e]
    exact i_bk (o', S ++ [x], R') rfl ⟨hst, by simp [ho', ho]⟩ hlt
def kb (keep : Int) (k : Nat) : Bool := bits .and .u64 (keep.fdiv (2 ^ (min (((k : Int).tmod (64 : Int))).toNat 64))) (1 : Int) == (1 : Int)
def Dk.cutn (D : Dk) (keep : Int) : Nat → List (List UInt8)
  | 0 => D.sure
  | n + 1 => if kb keep n then (D.cutn keep n).set (D.keys.getD n 0).toNat ((gk D.es (D.keys.getD n 0)).getD []) else D.cutn keep n
def Dk.off (D : Dk) (keep : Int) : Dk := { D with sure := D.cutn keep D.keys.length, es := [], up := false, fuse := -1, downs := IntKind.wrap .i64 (D.downs + 1) }
theorem Dk.cutn_len (D : Dk) (keep : Int) (n : Nat) : (D.cutn keep n).length = D.sure.length := by
  induction n with
  | zero => rfl
  | succ n ih => unfold Dk.cutn; split <;> simp [ih]
theorem Dk.keys_len (D : Dk) : D.keys.length = D.es.length := by simp [Dk.keys]
theorem Dk.keys_in {D : Dk} (h : D.ok) {n : Nat} (hn : n < D.keys.length) : 0 ≤ D.keys.getD n 0 ∧ D.keys.getD n 0 < D.sure.length := by
  have h1 : D.keys.getD n 0 ∈ D.es.map (·.1) := by
    have : D.keys.getD n 0 = D.keys[n] := by simp [hn]
    rw [this]
    exact (List.mergeSort_perm _ _).mem_iff.1 (List.getElem_mem hn)
  obtain ⟨x, hx, e⟩ := List.mem_map.1 h1
  rw [← e]
  exact h.ei x hx
theorem f70 (D : Dk) (h : D.ok) (hlen : D.es.length ≤ 8192) (keep : Int) : Fq eN Tryz.prog 97 #[D.p, .int .u64 keep] (dkl D) (dkl (D.off keep)) () := fun L => by
  refine c97_fn rfl rfl ?_
  simp only [Dk.p]
  repeat' ((fail_if_success with_reducible refine nph ?_); first | (with_reducible first | (refine d_seq ?_; intro K hK) | (refine hK _ _ ?_; clear hK K) | (refine SG.p ?_; try intro b) | refine r_rq (by first | decide | omega) ?_) | ((with_reducible refine SC.p ?_); refine aI ?_ ?_) <;> intro hc <;> try simp only [push_cast, seval] at hc | ((with_reducible refine SL.p ?_); first | refine ⟨_, rfl, ?_⟩ | refine ⟨_, _, _, rfl, ?_⟩ | (refine ⟨?_, rfl, ?_⟩; focus (simp; done))) | ((with_reducible first | apply i_ldn | apply i_ldnq); iterate 3 exact rfl) | ((try with_reducible refine d_reg ?_); simp only [go_sem]) | clear hK K)
  refine i_cal (f43 D h hlen) fun y X ⟨hX, hy⟩ => ?_
  subst hX
  obtain ⟨yp, yn, yc⟩ := y
  dsimp only at hy
  subst hy
  repeat' (first | (with_reducible first | (refine d_seq ?_; intro K hK) | (refine hK _ _ ?_; clear hK K) | (refine SG.p ?_; try intro b) | refine r_rq (by first | decide | omega) ?_) | ((with_reducible refine SC.p ?_); refine aI ?_ ?_) <;> intro hc <;> try simp only [push_cast, seval] at hc | ((with_reducible refine SL.p ?_); first | refine ⟨_, rfl, ?_⟩ | refine ⟨_, _, _, rfl, ?_⟩ | (refine ⟨?_, rfl, ?_⟩; focus (simp; done))) | ((with_reducible first | apply i_ldn | apply i_ldnq); iterate 3 exact rfl) | ((try with_reducible refine d_reg ?_); simp only [go_sem]) | clear hK K)
  refine d_lp [0, 1, 7, 8, 9] (fun n : Nat => [(0, .pointer (some ⟨D.sb, 0, none⟩)), (1, .int .u64 keep), (7, .slice yp D.keys.length yc), (8, .int .i64 (D.keys.length : Int)), (9, .int .i64 (n : Int))])
    (fun n => ow 3 1 (yp, D.keys.length, yc) (D.keys.map fun n => .int .i64 n) :: ar D.sb 108 D.hd :: ar D.bb 9 ((D.cutn keep n).map fun s => str s) :: mp eI eS D.mb D.es D.c :: L) (fun n => n ≤ D.keys.length) (fun n => D.keys.length - n) 0 rfl ?_ (by omega) ?_
  · show Sub (ow 3 1 (yp, D.keys.length, yc) (D.keys.map fun n => .int .i64 n) :: (dkl D ++ L)) _
    exact SX.p
  intro n hn
  repeat' ((fail_if_success with_reducible refine nph ?_); first | (with_reducible first | (refine d_seq ?_; intro K hK) | (refine hK _ _ ?_; clear hK K) | (refine SG.p ?_; try intro b) | refine r_rq (by first | decide | omega) ?_) | ((with_reducible refine SC.p ?_); refine aI ?_ ?_) <;> intro hc <;> try simp only [push_cast, seval] at hc | ((with_reducible refine SL.p ?_); first | refine ⟨_, rfl, ?_⟩ | refine ⟨_, _, _, rfl, ?_⟩ | (refine ⟨?_, rfl, ?_⟩; focus (simp; done))) | ((with_reducible first | apply i_ldn | apply i_ldnq); iterate 3 exact rfl) | ((try with_reducible refine d_reg ?_); simp only [go_sem]) | clear hK K)
  · refine i_ow (t := 3) (sz := 1) (yp, D.keys.length, yc) fun hR => ?_
    obtain ⟨a, rfl⟩ := hR.ptr (by omega)
    repeat' ((fail_if_success with_reducible refine nph ?_); first | (with_reducible first | (refine d_seq ?_; intro K hK) | (refine hK _ _ ?_; clear hK K) | (refine SG.p ?_; try intro b) | refine r_rq (by first | decide | omega) ?_) | ((with_reducible refine SC.p ?_); refine aI ?_ ?_) <;> intro hc <;> try simp only [push_cast, seval] at hc | ((with_reducible refine SL.p ?_); first | refine ⟨_, rfl, ?_⟩ | refine ⟨_, _, _, rfl, ?_⟩ | (refine ⟨?_, rfl, ?_⟩; focus (simp; done))) | ((with_reducible first | apply i_ldn | apply i_ldnq); iterate 3 exact rfl) | ((try with_reducible refine d_reg ?_); simp only [go_sem]) | clear hK K)
    have hn' : n < D.keys.length := by omega
    have hi := Dk.keys_in h hn'
    have hx : (D.keys.map fun n => Value.int .i64 n)[n]? = some (eI.enc (D.keys.getD n 0)) := by simp [hn']
    refine i_o1 hx ?_
    have hlc := Dk.cutn_len D keep n
    have h8 := hlen
    rw [← Dk.keys_len] at h8
    have hes : 0 ≤ (n : Int).tmod (64 : Int) := by rw [tm (by omega)]; omega
    repeat' ((fail_if_success with_reducible refine nph ?_); first | (with_reducible first | (refine d_seq ?_; intro K hK) | (refine hK _ _ ?_; clear hK K) | (refine SG.p ?_; try intro b) | refine r_rq (by first | decide | omega) ?_) | ((with_reducible refine SC.p ?_); refine aI ?_ ?_) <;> intro hc <;> try simp only [push_cast, seval] at hc | ((with_reducible refine SL.p ?_); first | refine ⟨_, rfl, ?_⟩ | refine ⟨_, _, _, rfl, ?_⟩ | (refine ⟨?_, rfl, ?_⟩; focus (simp; done))) | ((with_reducible first | apply i_ldn | apply i_ldnq); iterate 3 exact rfl) | ((try with_reducible refine d_reg ?_); simp only [go_sem]) | clear hK K)
    · have hkb : kb keep n = true := by simpa [kb] using hc
      have e : D.cutn keep (n + 1) = (D.cutn keep n).set (D.keys.getD n 0).toNat ((gk D.es (D.keys.getD n 0)).getD []) := by rw [Dk.cutn, if_pos hkb]
      repeat' (first | (with_reducible first | (refine d_seq ?_; intro K hK) | (refine hK _ _ ?_; clear hK K) | (refine SG.p ?_; try intro b) | refine r_rq (by first | decide | omega) ?_) | ((with_reducible refine SC.p ?_); refine aI ?_ ?_) <;> intro hc <;> try simp only [push_cast, seval] at hc | ((with_reducible refine SL.p ?_); first | refine ⟨_, rfl, ?_⟩ | refine ⟨_, _, _, rfl, ?_⟩ | (refine ⟨?_, rfl, ?_⟩; focus (simp; done))) | ((with_reducible first | apply i_ldn | apply i_ldnq); iterate 3 exact rfl) | ((try with_reducible refine d_reg ?_); simp only [go_sem]) | clear hK K)
      refine i_lk1q (ε := eS) [] (by kernel_rfl) ?_
      repeat' (first | (with_reducible first | (refine d_seq ?_; intro K hK) | (refine hK _ _ ?_; clear hK K) | (refine SG.p ?_; try intro b) | refine r_rq (by first | decide | omega) ?_) | ((with_reducible refine SC.p ?_); refine aI ?_ ?_) <;> intro hc <;> try simp only [push_cast, seval] at hc | ((with_reducible refine SL.p ?_); first | refine ⟨_, rfl, ?_⟩ | refine ⟨_, _, _, rfl, ?_⟩ | (refine ⟨?_, rfl, ?_⟩; focus (simp; done))) | ((with_reducible first | apply i_ldn | apply i_ldnq); iterate 3 exact rfl) | ((try with_reducible refine d_reg ?_); simp only [go_sem]) | clear hK K)
      refine i_st (by simp only [List.length_map]; omega) rfl ?_
      rw [← List.map_set, ← e]
      repeat' (first | (with_reducible first | (refine d_seq ?_; intro K hK) | (refine hK _ _ ?_; clear hK K) | (refine SG.p ?_; try intro b) | refine r_rq (by first | decide | omega) ?_) | ((with_reducible refine SC.p ?_); refine aI ?_ ?_) <;> intro hc <;> try simp only [push_cast, seval] at hc | ((with_reducible refine SL.p ?_); first | refine ⟨_, rfl, ?_⟩ | refine ⟨_, _, _, rfl, ?_⟩ | (refine ⟨?_, rfl, ?_⟩; focus (simp; done))) | ((with_reducible first | apply i_ldn | apply i_ldnq); iterate 3 exact rfl) | ((try with_reducible refine d_reg ?_); simp only [go_sem]) | clear hK K)
      exact i_bk (n + 1) (by simp (disch := omega) only [w64]; rfl) (by omega) (by omega)
    · have hkb : kb keep n = false := by simpa [kb] using hc
      have e : D.cutn keep (n + 1) = D.cutn keep n := by rw [Dk.cutn, if_neg (by simp [hkb])]
      rw [← e]
      refine i_bk (n + 1) (by simp (disch := omega) only [w64]; rfl) (by omega) (by omega)
  · obtain rfl : n = D.keys.length := by omega
    refine i_mclr (κ := eI) (ε := eS) (a := 3) (b := 9) (by kernel_rfl) ?_
    repeat' (first | (with_reducible first | (refine d_seq ?_; intro K hK) | (refine hK _ _ ?_; clear hK K) | (refine SG.p ?_; try intro b) | refine r_rq (by first | decide | omega) ?_) | ((with_reducible refine SC.p ?_); refine aI ?_ ?_) <;> intro hc <;> try simp only [push_cast, seval] at hc | ((with_reducible refine SL.p ?_); first | refine ⟨_, rfl, ?_⟩ | refine ⟨_, _, _, rfl, ?_⟩ | (refine ⟨?_, rfl, ?_⟩; focus (simp; done))) | ((with_reducible first | apply i_ldn | apply i_ldnq); iterate 3 exact rfl) | ((try with_reducible refine d_reg ?_); simp only [go_sem]) | clear hK K)
    simp only [Dk.off, dkl, Dk.hd, Dk.cutn_len]
    (with_reducible first | apply i_ret0 | apply i_ret2 | apply i_ret3 | apply i_ret); exact rfl
theorem nd_len : ∀ (n : Nat) (l : List Int), l.Nodup → (∀ x ∈ l, 0 ≤ x ∧ x < (n : Int)) → l.length ≤ n
  | 0, l, _, h => by
    cases l with
    | nil => simp
    | cons x r => have := h x (by simp); omega
  | n + 1, l, hd, h => by
    by_cases hm : (n : Int) ∈ l
    · have h1 := nd_len n (l.erase n) (hd.erase _) fun x hx => by
        have h2 := (List.Nodup.mem_erase_iff hd).1 hx
        have := h x h2.2
        have := h2.1
        omega
      rw [List.length_erase_of_mem hm] at h1
      omega
    · have h1 := nd_len n l hd fun x hx => by
        have h2 := h x hx
        have : x ≠ n := fun e => hm (e ▸ hx)
        omega
      omega
theorem Dk.ok.len {D : Dk} (h : D.ok) : D.es.length ≤ 8192 := by
  have := nd_len D.sure.length (D.es.map (·.1)) h.kn fun x hx => by
    obtain ⟨y, hy, rfl⟩ := List.mem_map.1 hx
    exact h.ei y hy
  have := h.n1
  simp at *
  omega
theorem gk_mem {es : Ents eI eS} {k : Int} {v : List UInt8} (h : gk es k = some v) : ∃ x ∈ es, x.1 = k ∧ x.2.1 = v := by
  induction es with
  | nil => cases h
  | cons x r ih =>
    unfold gk at h
    split at h
    · rename_i e; exact ⟨x, by simp, e, by simpa using h⟩
    · obtain ⟨y, hy, e⟩ := ih h; exact ⟨y, by simp [hy], e⟩
theorem gk_none {es : Ents eI eS} {k : Int} (h : gk es k = none) : ∀ x ∈ es, x.1 ≠ k := by
  induction es with
  | nil => intro x hx; cases hx
  | cons y r ih =>
    unfold gk at h
    split at h
    · cases h
    · rename_i e
      intro x hx
      cases hx with
      | head => exact e
      | tail _ hx => exact ih h x hx
theorem Dk.cutn_64 {D : Dk} (h : D.ok) (keep : Int) (n : Nat) : ∀ s ∈ D.cutn keep n, s.length ≤ 64 := by
  induction n with
  | zero => exact h.l64
  | succ n ih =>
    unfold Dk.cutn
    split
    · intro s hs
      rcases List.mem_or_eq_of_mem_set hs with h1 | rfl
      · exact ih s h1
      · cases hg : gk D.es (D.keys.getD n 0) with
        | none => simp
        | some v =>
          obtain ⟨x, hx, _, rfl⟩ := gk_mem hg
          have := h.e64 x hx
          simp only [Option.getD_some]; omega
    · exact ih
theorem Dk.off_ok {D : Dk} (h : D.ok) (keep : Int) : (D.off keep).ok := by
  have h1 := h.n0
  have h2 := h.n1
  have h3 := h.kp
  have h4 := Dk.cutn_len D keep D.keys.length
  have h5 := Dk.cutn_64 h keep D.keys.length
  constructor <;> simp only [Dk.off, h4] <;> first | assumption | simp | omega
def Dk.act (D : Dk) : Int × Dk := if D.fuse = 0 then (9, D.off D.keep) else (0, { D with fuse := if 0 < D.fuse then D.fuse - 1 else D.fuse, acts := IntKind.wrap .i64 (D.acts + 1) })
theorem Dk.act_sb (D : Dk) : D.act.2.sb = D.sb := by unfold Dk.act; split <;> rfl
theorem Dk.act_ok {D : Dk} (h : D.ok) : D.act.2.ok := by
  unfold Dk.act
  split
  · exact Dk.off_ok h _
  · obtain ⟨h1, h2, h3, h4, h5, h6, h7, h8, h9, h10⟩ := h
    constructor <;> simp only <;> first | assumption | (split <;> omega)
theorem f68 (D : Dk) (h : D.ok) : Fq eI Tryz.prog 82 #[D.p] (dkl D) (dkl D.act.2) D.act.1 := by
  have hf := h.fu
  unfold Dk.act
  by_cases h0 : D.fuse = 0
  · simp only [h0, if_true]
    intro L
    refine c82_fn rfl rfl ?_
    simp only [Dk.p]
    repeat' ((fail_if_success with_reducible refine nph ?_); first | (with_reducible first | (refine d_seq ?_; intro K hK) | (refine hK _ _ ?_; clear hK K) | (refine SG.p ?_; try intro b) | refine r_rq (by first | decide | omega) ?_) | ((with_reducible refine SC.p ?_); refine aI ?_ ?_) <;> intro hc <;> try simp only [push_cast, seval] at hc | ((with_reducible refine SL.p ?_); first | refine ⟨_, rfl, ?_⟩ | refine ⟨_, _, _, rfl, ?_⟩ | (refine ⟨?_, rfl, ?_⟩; focus (simp; done))) | ((with_reducible first | apply i_ldn | apply i_ldnq); iterate 3 exact rfl) | ((try with_reducible refine d_reg ?_); simp only [go_sem]) | clear hK K)
    · refine i_clq (f70 D h h.len D.keep) ?_
      repeat' (first | (with_reducible first | (refine d_seq ?_; intro K hK) | (refine hK _ _ ?_; clear hK K) | (refine SG.p ?_; try intro b) | refine r_rq (by first | decide | omega) ?_) | ((with_reducible refine SC.p ?_); refine aI ?_ ?_) <;> intro hc <;> try simp only [push_cast, seval] at hc | ((with_reducible refine SL.p ?_); first | refine ⟨_, rfl, ?_⟩ | refine ⟨_, _, _, rfl, ?_⟩ | (refine ⟨?_, rfl, ?_⟩; focus (simp; done))) | ((with_reducible first | apply i_ldn | apply i_ldnq); iterate 3 exact rfl) | ((try with_reducible refine d_reg ?_); simp only [go_sem]) | clear hK K)
      (with_reducible first | apply i_ret0 | apply i_ret2 | apply i_ret3 | apply i_ret); exact rfl
      rfl
    all_goals contradiction
  · by_cases h1 : 0 < D.fuse <;> simp only [h0, h1, if_true, if_false]
    all_goals
      intro L
      refine c82_fn rfl rfl ?_
      simp only [Dk.p]
      repeat' ((fail_if_success with_reducible refine nph ?_); first | (with_reducible first | (refine d_seq ?_; intro K hK) | (refine hK _ _ ?_; clear hK K) | (refine SG.p ?_; try intro b) | refine r_rq (by first | decide | omega) ?_) | ((with_reducible refine SC.p ?_); refine aI ?_ ?_) <;> intro hc <;> try simp only [push_cast, seval] at hc | ((with_reducible refine SL.p ?_); first | refine ⟨_, rfl, ?_⟩ | refine ⟨_, _, _, rfl, ?_⟩ | (refine ⟨?_, rfl, ?_⟩; focus (simp; done))) | ((with_reducible first | apply i_ldn | apply i_ldnq); iterate 3 exact rfl) | ((try with_reducible refine d_reg ?_); simp only [go_sem]) | clear hK K)
      all_goals first | contradiction | (exfalso; omega) | (simp (disch := omega) only [w64]; (with_reducible first | apply i_ret0 | apply i_ret2 | apply i_ret3 | apply i_ret); exact rfl; rfl) | ((with_reducible first | apply i_ret0 | apply i_ret2 | apply i_ret3 | apply i_ret); exact rfl; rfl)
theorem f29 (D : Dk) (h : D.ok) (keep : Int) : Fq eI Tryz.prog 62 #[D.p, .int .u64 keep] (dkl D) (dkl (if D.chk 0 = 0 then D.off keep else D)) (D.chk 0) := by
  by_cases h0 : D.chk 0 = 0 <;> simp only [h0, if_true, if_false]
  all_goals
    intro L
    refine c62_fn rfl rfl ?_
    simp only [Dk.p]
    repeat' ((fail_if_success with_reducible refine nph ?_); first | (with_reducible first | (refine d_seq ?_; intro K hK) | (refine hK _ _ ?_; clear hK K) | (refine SG.p ?_; try intro b) | refine r_rq (by first | decide | omega) ?_) | ((with_reducible refine SC.p ?_); refine aI ?_ ?_) <;> intro hc <;> try simp only [push_cast, seval] at hc | ((with_reducible refine SL.p ?_); first | refine ⟨_, rfl, ?_⟩ | refine ⟨_, _, _, rfl, ?_⟩ | (refine ⟨?_, rfl, ?_⟩; focus (simp; done))) | ((with_reducible first | apply i_ldn | apply i_ldnq); iterate 3 exact rfl) | ((try with_reducible refine d_reg ?_); simp only [go_sem]) | clear hK K)
    refine i_clp (f67 D h 0) ?_
    try simp only [h0]
    repeat' ((fail_if_success with_reducible refine nph ?_); first | (with_reducible first | (refine d_seq ?_; intro K hK) | (refine hK _ _ ?_; clear hK K) | (refine SG.p ?_; try intro b) | refine r_rq (by first | decide | omega) ?_) | ((with_reducible refine SC.p ?_); refine aI ?_ ?_) <;> intro hc <;> try simp only [push_cast, seval] at hc | ((with_reducible refine SL.p ?_); first | refine ⟨_, rfl, ?_⟩ | refine ⟨_, _, _, rfl, ?_⟩ | (refine ⟨?_, rfl, ?_⟩; focus (simp; done))) | ((with_reducible first | apply i_ldn | apply i_ldnq); iterate 3 exact rfl) | ((try with_reducible refine d_reg ?_); simp only [go_sem]) | clear hK K)
    all_goals try contradiction
  · refine i_clq (f70 D h h.len keep) ?_
    repeat' (first | (with_reducible first | (refine d_seq ?_; intro K hK) | (refine hK _ _ ?_; clear hK K) | (refine SG.p ?_; try intro b) | refine r_rq (by first | decide | omega) ?_) | ((with_reducible refine SC.p ?_); refine aI ?_ ?_) <;> intro hc <;> try simp only [push_cast, seval] at hc | ((with_reducible refine SL.p ?_); first | refine ⟨_, rfl, ?_⟩ | refine ⟨_, _, _, rfl, ?_⟩ | (refine ⟨?_, rfl, ?_⟩; focus (simp; done))) | ((with_reducible first | apply i_ldn | apply i_ldnq); iterate 3 exact rfl) | ((try with_reducible refine d_reg ?_); simp only [go_sem]) | clear hK K)
    (with_reducible first | apply i_ret0 | apply i_ret2 | apply i_ret3 | apply i_ret); exact rfl
    rfl
  · (with_reducible first | apply i_ret0 | apply i_ret2 | apply i_ret3 | apply i_ret); exact rfl
    rfl
def Dk.put (D : Dk) (i : Int) (s : List UInt8) : Dk := { D with es := pk D.es i s D.c, c := ck D.es i D.c }
def Dk.write (D : Dk) (i : Int) (s : List UInt8) : Int × Dk :=
  if D.chk i = 0 then (if 64 < s.length then (3, D) else if D.act.1 = 0 then (0, D.act.2.put i (wh s)) else (D.act.1, D.act.2)) else (D.chk i, D)
theorem f27 (D : Dk) (h : D.ok) (i : Int) (s : List UInt8) : Fq eI Tryz.prog 24 #[D.p, .int .i64 i, str s] (dkl D) (dkl (D.write i s).2) (D.write i s).1 := by
  unfold Dk.write
  by_cases h0 : D.chk i = 0
  · simp only [h0, if_true]
    by_cases h1 : 64 < s.length
    · simp only [h1, if_true]
      intro L
      refine c24_fn rfl rfl ?_
      simp only [Dk.p]
      repeat' ((fail_if_success with_reducible refine nph ?_); first | (with_reducible first | (refine d_seq ?_; intro K hK) | (refine hK _ _ ?_; clear hK K) | (refine SG.p ?_; try intro b) | refine r_rq (by first | decide | omega) ?_) | ((with_reducible refine SC.p ?_); refine aI ?_ ?_) <;> intro hc <;> try simp only [push_cast, seval] at hc | ((with_reducible refine SL.p ?_); first | refine ⟨_, rfl, ?_⟩ | refine ⟨_, _, _, rfl, ?_⟩ | (refine ⟨?_, rfl, ?_⟩; focus (simp; done))) | ((with_reducible first | apply i_ldn | apply i_ldnq); iterate 3 exact rfl) | ((try with_reducible refine d_reg ?_); simp only [go_sem]) | clear hK K)
      refine i_clp (f67 D h i) ?_
      try simp only [h0]
      repeat' ((fail_if_success with_reducible refine nph ?_); first | (with_reducible first | (refine d_seq ?_; intro K hK) | (refine hK _ _ ?_; clear hK K) | (refine SG.p ?_; try intro b) | refine r_rq (by first | decide | omega) ?_) | ((with_reducible refine SC.p ?_); refine aI ?_ ?_) <;> intro hc <;> try simp only [push_cast, seval] at hc | ((with_reducible refine SL.p ?_); first | refine ⟨_, rfl, ?_⟩ | refine ⟨_, _, _, rfl, ?_⟩ | (refine ⟨?_, rfl, ?_⟩; focus (simp; done))) | ((with_reducible first | apply i_ldn | apply i_ldnq); iterate 3 exact rfl) | ((try with_reducible refine d_reg ?_); simp only [go_sem]) | clear hK K)
      all_goals first | contradiction | omega | ((with_reducible first | apply i_ret0 | apply i_ret2 | apply i_ret3 | apply i_ret); exact rfl; rfl)
    · simp only [h1, if_false]
      by_cases h2 : D.act.1 = 0 <;> simp only [h2, if_true, if_false]
      all_goals
        intro L
        refine c24_fn rfl rfl ?_
        simp only [Dk.p]
        repeat' ((fail_if_success with_reducible refine nph ?_); first | (with_reducible first | (refine d_seq ?_; intro K hK) | (refine hK _ _ ?_; clear hK K) | (refine SG.p ?_; try intro b) | refine r_rq (by first | decide | omega) ?_) | ((with_reducible refine SC.p ?_); refine aI ?_ ?_) <;> intro hc <;> try simp only [push_cast, seval] at hc | ((with_reducible refine SL.p ?_); first | refine ⟨_, rfl, ?_⟩ | refine ⟨_, _, _, rfl, ?_⟩ | (refine ⟨?_, rfl, ?_⟩; focus (simp; done))) | ((with_reducible first | apply i_ldn | apply i_ldnq); iterate 3 exact rfl) | ((try with_reducible refine d_reg ?_); simp only [go_sem]) | clear hK K)
        refine i_clp (f67 D h i) ?_
        try simp only [h0]
        repeat' ((fail_if_success with_reducible refine nph ?_); first | (with_reducible first | (refine d_seq ?_; intro K hK) | (refine hK _ _ ?_; clear hK K) | (refine SG.p ?_; try intro b) | refine r_rq (by first | decide | omega) ?_) | ((with_reducible refine SC.p ?_); refine aI ?_ ?_) <;> intro hc <;> try simp only [push_cast, seval] at hc | ((with_reducible refine SL.p ?_); first | refine ⟨_, rfl, ?_⟩ | refine ⟨_, _, _, rfl, ?_⟩ | (refine ⟨?_, rfl, ?_⟩; focus (simp; done))) | ((with_reducible first | apply i_ldn | apply i_ldnq); iterate 3 exact rfl) | ((try with_reducible refine d_reg ?_); simp only [go_sem]) | clear hK K)
        all_goals try (first | contradiction | (exfalso; omega))
        refine i_clq (f68 D h) ?_
        try simp only [h2]
        repeat' ((fail_if_success with_reducible refine nph ?_); first | (with_reducible first | (refine d_seq ?_; intro K hK) | (refine hK _ _ ?_; clear hK K) | (refine SG.p ?_; try intro b) | refine r_rq (by first | decide | omega) ?_) | ((with_reducible refine SC.p ?_); refine aI ?_ ?_) <;> intro hc <;> try simp only [push_cast, seval] at hc | ((with_reducible refine SL.p ?_); first | refine ⟨_, rfl, ?_⟩ | refine ⟨_, _, _, rfl, ?_⟩ | (refine ⟨?_, rfl, ?_⟩; focus (simp; done))) | ((with_reducible first | apply i_ldn | apply i_ldnq); iterate 3 exact rfl) | ((try with_reducible refine d_reg ?_); simp only [go_sem]) | clear hK K)
        all_goals try (first | contradiction | (exfalso; omega))
      · have hsb := Dk.act_sb D
        generalize D.act.2 = A at *
        rw [← hsb]
        repeat' (first | (with_reducible first | (refine d_seq ?_; intro K hK) | (refine hK _ _ ?_; clear hK K) | (refine SG.p ?_; try intro b) | refine r_rq (by first | decide | omega) ?_) | ((with_reducible refine SC.p ?_); refine aI ?_ ?_) <;> intro hc <;> try simp only [push_cast, seval] at hc | ((with_reducible refine SL.p ?_); first | refine ⟨_, rfl, ?_⟩ | refine ⟨_, _, _, rfl, ?_⟩ | (refine ⟨?_, rfl, ?_⟩; focus (simp; done))) | ((with_reducible first | apply i_ldn | apply i_ldnq); iterate 3 exact rfl) | ((try with_reducible refine d_reg ?_); simp only [go_sem]) | clear hK K)
        refine i_clp (f69 s (by omega)) ?_
        repeat' (first | (with_reducible first | (refine d_seq ?_; intro K hK) | (refine hK _ _ ?_; clear hK K) | (refine SG.p ?_; try intro b) | refine r_rq (by first | decide | omega) ?_) | ((with_reducible refine SC.p ?_); refine aI ?_ ?_) <;> intro hc <;> try simp only [push_cast, seval] at hc | ((with_reducible refine SL.p ?_); first | refine ⟨_, rfl, ?_⟩ | refine ⟨_, _, _, rfl, ?_⟩ | (refine ⟨?_, rfl, ?_⟩; focus (simp; done))) | ((with_reducible first | apply i_ldn | apply i_ldnq); iterate 3 exact rfl) | ((try with_reducible refine d_reg ?_); simp only [go_sem]) | clear hK K)
        refine i_mu (ε := eS) (v := wh s) [] rfl (by kernel_rfl) ?_
        repeat' (first | (with_reducible first | (refine d_seq ?_; intro K hK) | (refine hK _ _ ?_; clear hK K) | (refine SG.p ?_; try intro b) | refine r_rq (by first | decide | omega) ?_) | ((with_reducible refine SC.p ?_); refine aI ?_ ?_) <;> intro hc <;> try simp only [push_cast, seval] at hc | ((with_reducible refine SL.p ?_); first | refine ⟨_, rfl, ?_⟩ | refine ⟨_, _, _, rfl, ?_⟩ | (refine ⟨?_, rfl, ?_⟩; focus (simp; done))) | ((with_reducible first | apply i_ldn | apply i_ldnq); iterate 3 exact rfl) | ((try with_reducible refine d_reg ?_); simp only [go_sem]) | clear hK K)
        simp only [Dk.put]
        (with_reducible first | apply i_ret0 | apply i_ret2 | apply i_ret3 | apply i_ret); exact rfl
        rfl
      · (with_reducible first | apply i_ret0 | apply i_ret2 | apply i_ret3 | apply i_ret); exact rfl
        rfl
  · simp only [h0, if_false]
    intro L
    refine c24_fn rfl rfl ?_
    simp only [Dk.p]
    repeat' ((fail_if_success with_reducible refine nph ?_); first | (with_reducible first | (refine d_seq ?_; intro K hK) | (refine hK _ _ ?_; clear hK K) | (refine SG.p ?_; try intro b) | refine r_rq (by first | decide | omega) ?_) | ((with_reducible refine SC.p ?_); refine aI ?_ ?_) <;> intro hc <;> try simp only [push_cast, seval] at hc | ((with_reducible refine SL.p ?_); first | refine ⟨_, rfl, ?_⟩ | refine ⟨_, _, _, rfl, ?_⟩ | (refine ⟨?_, rfl, ?_⟩; focus (simp; done))) | ((with_reducible first | apply i_ldn | apply i_ldnq); iterate 3 exact rfl) | ((try with_reducible refine d_reg ?_); simp only [go_sem]) | clear hK K)
    refine i_clp (f67 D h i) ?_
    repeat' ((fail_if_success with_reducible refine nph ?_); first | (with_reducible first | (refine d_seq ?_; intro K hK) | (refine hK _ _ ?_; clear hK K) | (refine SG.p ?_; try intro b) | refine r_rq (by first | decide | omega) ?_) | ((with_reducible refine SC.p ?_); refine aI ?_ ?_) <;> intro hc <;> try simp only [push_cast, seval] at hc | ((with_reducible refine SL.p ?_); first | refine ⟨_, rfl, ?_⟩ | refine ⟨_, _, _, rfl, ?_⟩ | (refine ⟨?_, rfl, ?_⟩; focus (simp; done))) | ((with_reducible first | apply i_ldn | apply i_ldnq); iterate 3 exact rfl) | ((try with_reducible refine d_reg ?_); simp only [go_sem]) | clear hK K)
    all_goals first | contradiction | omega | ((with_reducible first | apply i_ret0 | apply i_ret2 | apply i_ret3 | apply i_ret); exact rfl; rfl)
theorem toN1 {a : Int} {j : Nat} (h : a = (j : Int)) : a.toNat = j := by omega
theorem toN2 {a : Int} {j : Nat} (h0 : 0 ≤ a) (h : ¬ a = (j : Int)) : a.toNat ≠ j := by omega
theorem toN3 {a : Int} {n : Nat} (h0 : 0 ≤ a ∧ a < (n : Int)) : a.toNat < n := by omega
theorem pk_keys (es : Ents eI eS) (k : Int) (v : List UInt8) (c : Nat) : (pk es k v c).map (·.1) = if gk es k = none then es.map (·.1) ++ [k] else es.map (·.1) := by
  induction es with
  | nil => simp [pk, gk]
  | cons x r ih =>
    by_cases h : x.1 = k
    · simp [pk, gk, h]
    · simp only [pk, gk, h, if_false, List.map_cons, ih]
      split <;> simp
theorem pk_born (es : Ents eI eS) (k : Int) (v : List UInt8) (c : Nat) : (pk es k v c).map (·.2.2) = if gk es k = none then es.map (·.2.2) ++ [c] else es.map (·.2.2) := by
  induction es with
  | nil => simp [pk, gk]
  | cons x r ih =>
    by_cases h : x.1 = k
    · simp [pk, gk, h]
    · simp only [pk, gk, h, if_false, List.map_cons, ih]
      split <;> simp
theorem pk_mem {es : Ents eI eS} {k : Int} {v : List UInt8} {c : Nat} {x : Int × List UInt8 × Nat} (h : x ∈ pk es k v c) : x ∈ es ∨ (x.1 = k ∧ x.2.1 = v) := by
  induction es with
  | nil => simp [pk] at h; right; simp [h]
  | cons y r ih =>
    unfold pk at h
    split at h
    · rcases List.mem_cons.1 h with rfl | h
      · right; simp
      · left; simp [h]
    · rcases List.mem_cons.1 h with rfl | h
      · left; simp
      · rcases ih h with h | h
        · left; simp [h]
        · right; exact h
theorem gk_some {es : Ents eI eS} {k : Int} (h : ¬ gk es k = none) : k ∈ es.map (·.1) := by
  cases hg : gk es k with
  | none => exact absurd hg h
  | some v => obtain ⟨x, hx, e, _⟩ := gk_mem hg; exact List.mem_map.2 ⟨x, hx, e⟩
theorem Dk.put_ok {D : Dk} (h : D.ok) {i : Int} (h0 : 0 ≤ i) (h1 : i < D.sure.length) {s : List UInt8} (hs : s.length = 64) : (D.put i s).ok := by
  obtain ⟨g1, g2, g3, g4, g5, g6, g7, g8, g9, g10⟩ := h
  have hb : ∀ b ∈ (pk D.es i s D.c).map (·.2.2), b < ck D.es i D.c := by
    intro b hb
    rw [pk_born] at hb
    unfold ck
    split at hb
    · rename_i hn
      rw [if_pos hn]
      rcases List.mem_append.1 hb with hb | hb
      · obtain ⟨x, hx, rfl⟩ := List.mem_map.1 hb
        have := g6 x hx; omega
      · simp at hb; omega
    · rename_i hn
      rw [if_neg hn]
      obtain ⟨x, hx, rfl⟩ := List.mem_map.1 hb
      exact g6 x hx
  refine ⟨g1, g2, g3, ?_, ?_, fun x hx => hb _ (List.mem_map.2 ⟨x, hx, rfl⟩), ?_, ?_, g9, g10⟩
  · intro x hx
    rcases pk_mem hx with hx | ⟨_, rfl⟩
    · exact g4 x hx
    · exact hs
  · intro x hx
    rcases pk_mem hx with hx | ⟨rfl, _⟩
    · exact g5 x hx
    · exact ⟨h0, h1⟩
  · refine (congrArg List.Nodup (pk_keys D.es i s D.c)).mpr ?_
    split
    · rename_i hn
      rw [List.nodup_append]
      refine ⟨g7, by simp, ?_⟩
      intro a ha b hb' e
      simp at hb'
      obtain ⟨x, hx, rfl⟩ := List.mem_map.1 ha
      exact gk_none hn x hx (e.trans hb')
    · exact g7
  · refine (congrArg List.Nodup (pk_born D.es i s D.c)).mpr ?_
    split
    · rw [List.nodup_append]
      refine ⟨g8, by simp, ?_⟩
      intro a ha b hb' e
      simp at hb'
      obtain ⟨x, hx, rfl⟩ := List.mem_map.1 ha
      have := g6 x hx
      omega
    · exact g8
theorem Dk.act_len (D : Dk) : D.act.2.sure.length = D.sure.length := by
  unfold Dk.act
  split
  · exact Dk.cutn_len D _ _
  · rfl
theorem Dk.write_ok {D : Dk} (h : D.ok) (i : Int) (s : List UInt8) : (D.write i s).2.ok := by
  unfold Dk.write
  split
  · rename_i h0
    have := Dk.chk_ok h0
    split
    · exact h
    · split
      · exact Dk.put_ok (Dk.act_ok h) this.2.1 (by rw [Dk.act_len]; exact this.2.2) (wh_len (by omega))
      · exact Dk.act_ok h
  · exact h
def sy (S : Ents eI eS) (l : List (List UInt8)) : List (List UInt8) := S.foldl (fun s x => s.set x.1.toNat x.2.1) l
theorem sy_snoc (S : Ents eI eS) (x : Int × List UInt8 × Nat) (l : List (List UInt8)) : sy (S ++ [x]) l = (sy S l).set x.1.toNat x.2.1 := by simp [sy]
theorem sy_len (S : Ents eI eS) (l : List (List UInt8)) : (sy S l).length = l.length := by
  induction S generalizing l with
  | nil => rfl
  | cons x r ih => show (sy r (l.set x.1.toNat x.2.1)).length = _; rw [ih]; simp
theorem sy_get (S : Ents eI eS) : ∀ (l : List (List UInt8)) (_ : (S.map (·.1)).Nodup) (_ : ∀ x ∈ S, 0 ≤ x.1 ∧ x.1 < (l.length : Int)) (j : Nat) (_ : j < l.length), (sy S l)[j]? = some ((gk S (j : Int)).getD (l.getD j [])) := by
  induction S with
  | nil => intro l _ _ j hj; simp [sy, gk, hj]
  | cons x r ih =>
    intro l hn hr j hj
    rw [List.map_cons, List.nodup_cons] at hn
    show (sy r (l.set x.1.toNat x.2.1))[j]? = _
    rw [ih _ hn.2 (fun y hy => by simpa using hr y (by simp [hy])) j (by simpa using hj)]
    have hx : (0 : Int) ≤ x.1 ∧ (x.1 : Int) < (l.length : Int) := hr x (by simp)
    by_cases h : x.1 = (j : Int)
    · have hg : gk r (j : Int) = none := by
        cases hg : gk r (j : Int) with
        | none => rfl
        | some v => exact absurd (h ▸ gk_some (by rw [hg]; simp)) hn.1
      have : x.1.toNat = j := toN1 h
      simp [gk, h, hg, hj]
    · have : x.1.toNat ≠ j := toN2 hx.1 h
      simp [gk, h, this]
theorem gk_perm {S es : Ents eI eS} (h : S.Perm es) (hn : (es.map (·.1)).Nodup) (k : Int) : gk S k = gk es k := by
  have hn' : (S.map (·.1)).Nodup := (h.map _).nodup_iff.2 hn
  have key : ∀ {A : Ents eI eS} {x : Int × List UInt8 × Nat}, (A.map (·.1)).Nodup → x ∈ A → gk A x.1 = some x.2.1 := by
    intro A x hA hx
    induction A with
    | nil => cases hx
    | cons y r ih =>
      rw [List.map_cons, List.nodup_cons] at hA
      by_cases e : y.1 = x.1
      · cases hx with
        | head => simp [gk]
        | tail _ hx => exact absurd (List.mem_map.2 ⟨x, hx, e.symm⟩) hA.1
      · cases hx with
        | head => exact absurd rfl e
        | tail _ hx => simp only [gk, e, if_false]; exact ih hA.2 hx
  cases hg : gk es k with
  | none =>
    cases hs : gk S k with
    | none => rfl
    | some v =>
      obtain ⟨x, hx, e, _⟩ := gk_mem hs
      exact absurd e (gk_none hg x (h.mem_iff.1 hx))
  | some v =>
    obtain ⟨x, hx, rfl, rfl⟩ := gk_mem hg
    exact key hn' (h.mem_iff.2 hx)
def Dk.flush (D : Dk) : Dk := { D with sure := sy D.es D.sure, es := [] }
theorem sy_perm {S es : Ents eI eS} {l : List (List UInt8)} (h : S.Perm es) (hn : (es.map (·.1)).Nodup) (hr : ∀ x ∈ es, 0 ≤ x.1 ∧ x.1 < (l.length : Int)) : sy S l = sy es l := by
  apply List.ext_getElem?
  intro j
  by_cases hj : j < l.length
  · rw [sy_get S l ((h.map _).nodup_iff.2 hn) (fun x hx => hr x (h.mem_iff.1 hx)) j hj, sy_get es l hn hr j hj, gk_perm h hn]
  · rw [List.getElem?_eq_none (by rw [sy_len]; omega), List.getElem?_eq_none (by rw [sy_len]; omega)]
def Dk.sync (D : Dk) : Int × Dk := if D.chk 0 = 0 then (if D.act.1 = 0 then (0, D.act.2.flush) else (D.act.1, D.act.2)) else (D.chk 0, D)
theorem f28 (D : Dk) (h : D.ok) : Fq eI Tryz.prog 79 #[D.p] (dkl D) (dkl D.sync.2) D.sync.1 := by
  unfold Dk.sync
  by_cases h0 : D.chk 0 = 0
  · simp only [h0, if_true]
    by_cases h2 : D.act.1 = 0 <;> simp only [h2, if_true, if_false]
    all_goals
      intro L
      refine c79_fn rfl rfl ?_
      simp only [Dk.p]
      repeat' ((fail_if_success with_reducible refine nph ?_); first | (with_reducible first | (refine d_seq ?_; intro K hK) | (refine hK _ _ ?_; clear hK K) | (refine SG.p ?_; try intro b) | refine r_rq (by first | decide | omega) ?_) | ((with_reducible refine SC.p ?_); refine aI ?_ ?_) <;> intro hc <;> try simp only [push_cast, seval] at hc | ((with_reducible refine SL.p ?_); first | refine ⟨_, rfl, ?_⟩ | refine ⟨_, _, _, rfl, ?_⟩ | (refine ⟨?_, rfl, ?_⟩; focus (simp; done))) | ((with_reducible first | apply i_ldn | apply i_ldnq); iterate 3 exact rfl) | ((try with_reducible refine d_reg ?_); simp only [go_sem]) | clear hK K)
      refine i_clp (f67 D h 0) ?_
      simp only [h0]
      repeat' ((fail_if_success with_reducible refine nph ?_); first | (with_reducible first | (refine d_seq ?_; intro K hK) | (refine hK _ _ ?_; clear hK K) | (refine SG.p ?_; try intro b) | refine r_rq (by first | decide | omega) ?_) | ((with_reducible refine SC.p ?_); refine aI ?_ ?_) <;> intro hc <;> try simp only [push_cast, seval] at hc | ((with_reducible refine SL.p ?_); first | refine ⟨_, rfl, ?_⟩ | refine ⟨_, _, _, rfl, ?_⟩ | (refine ⟨?_, rfl, ?_⟩; focus (simp; done))) | ((with_reducible first | apply i_ldn | apply i_ldnq); iterate 3 exact rfl) | ((try with_reducible refine d_reg ?_); simp only [go_sem]) | clear hK K)
      all_goals try (first | contradiction | (exfalso; omega))
      refine i_clq (f68 D h) ?_
      try simp only [h2]
      repeat' ((fail_if_success with_reducible refine nph ?_); first | (with_reducible first | (refine d_seq ?_; intro K hK) | (refine hK _ _ ?_; clear hK K) | (refine SG.p ?_; try intro b) | refine r_rq (by first | decide | omega) ?_) | ((with_reducible refine SC.p ?_); refine aI ?_ ?_) <;> intro hc <;> try simp only [push_cast, seval] at hc | ((with_reducible refine SL.p ?_); first | refine ⟨_, rfl, ?_⟩ | refine ⟨_, _, _, rfl, ?_⟩ | (refine ⟨?_, rfl, ?_⟩; focus (simp; done))) | ((with_reducible first | apply i_ldn | apply i_ldnq); iterate 3 exact rfl) | ((try with_reducible refine d_reg ?_); simp only [go_sem]) | clear hK K)
      all_goals try (first | contradiction | (exfalso; omega))
    · have hsb := Dk.act_sb D
      have hA := Dk.act_ok h
      generalize D.act.2 = A at *
      simp only [← hsb]
      repeat' (first | (with_reducible first | (refine d_seq ?_; intro K hK) | (refine hK _ _ ?_; clear hK K) | (refine SG.p ?_; try intro b) | refine r_rq (by first | decide | omega) ?_) | ((with_reducible refine SC.p ?_); refine aI ?_ ?_) <;> intro hc <;> try simp only [push_cast, seval] at hc | ((with_reducible refine SL.p ?_); first | refine ⟨_, rfl, ?_⟩ | refine ⟨_, _, _, rfl, ?_⟩ | (refine ⟨?_, rfl, ?_⟩; focus (simp; done))) | ((with_reducible first | apply i_ldn | apply i_ldnq); iterate 3 exact rfl) | ((try with_reducible refine d_reg ?_); simp only [go_sem]) | clear hK K)
      refine i_mrng (κ := eI) (ε := eS) (a := 3) (b := 9) (by kernel_rfl) fun it => ?_
      repeat' (first | (with_reducible first | (refine d_seq ?_; intro K hK) | (refine hK _ _ ?_; clear hK K) | (refine SG.p ?_; try intro b) | refine r_rq (by first | decide | omega) ?_) | ((with_reducible refine SC.p ?_); refine aI ?_ ?_) <;> intro hc <;> try simp only [push_cast, seval] at hc | ((with_reducible refine SL.p ?_); first | refine ⟨_, rfl, ?_⟩ | refine ⟨_, _, _, rfl, ?_⟩ | (refine ⟨?_, rfl, ?_⟩; focus (simp; done))) | ((with_reducible first | apply i_ldn | apply i_ldnq); iterate 3 exact rfl) | ((try with_reducible refine d_reg ?_); simp only [go_sem]) | clear hK K)
      refine d_lp [0, 21] (fun s : Ents eI eS × Ents eI eS => [(0, .pointer (some ⟨A.sb, 0, none⟩)), (21, .pointer (some ⟨it, 0, none⟩))])
        (fun s => blk it (.mapIter (some A.mb) A.c (sn s.1) A.c) :: ar A.sb 108 A.hd :: ar A.bb 9 ((sy s.1 A.sure).map fun s => str s) :: mp eI eS A.mb A.es A.c :: L) (fun s => Rg A.es s.1 s.2) (fun s => s.2.length) ([], A.es) rfl ?_ (Rg.start _) ?_
      · show Sub (blk it (.mapIter (some A.mb) A.c #[] A.c) :: (dkl A ++ L)) _
        exact SX.p
      rintro ⟨S, R⟩ hR
      dsimp only at hR ⊢
      repeat' (first | (with_reducible first | (refine d_seq ?_; intro K hK) | (refine hK _ _ ?_; clear hK K) | (refine SG.p ?_; try intro b) | refine r_rq (by first | decide | omega) ?_) | ((with_reducible refine SC.p ?_); refine aI ?_ ?_) <;> intro hc <;> try simp only [push_cast, seval] at hc | ((with_reducible refine SL.p ?_); first | refine ⟨_, rfl, ?_⟩ | refine ⟨_, _, _, rfl, ?_⟩ | (refine ⟨?_, rfl, ?_⟩; focus (simp; done))) | ((with_reducible first | apply i_ldn | apply i_ldnq); iterate 3 exact rfl) | ((try with_reducible refine d_reg ?_); simp only [go_sem]) | clear hK K)
      refine i_mnx (κ := eI) (ε := eS) hA.ec (Nat.le_refl _) (fun ha => ?_) fun x hx hn => ?_
      · repeat' (first | (with_reducible first | (refine d_seq ?_; intro K hK) | (refine hK _ _ ?_; clear hK K) | (refine SG.p ?_; try intro b) | refine r_rq (by first | decide | omega) ?_) | ((with_reducible refine SC.p ?_); refine aI ?_ ?_) <;> intro hc <;> try simp only [push_cast, seval] at hc | ((with_reducible refine SL.p ?_); first | refine ⟨_, rfl, ?_⟩ | refine ⟨_, _, _, rfl, ?_⟩ | (refine ⟨?_, rfl, ?_⟩; focus (simp; done))) | ((with_reducible first | apply i_ldn | apply i_ldnq); iterate 3 exact rfl) | ((try with_reducible refine d_reg ?_); simp only [go_sem]) | clear hK K)
        obtain rfl := hR.done hA.bn ha
        have hS : S.Perm A.es := by have := hR; unfold Rg at this; simpa using this
        have e := sy_perm hS hA.kn hA.ei
        refine i_mclr (κ := eI) (ε := eS) (a := 3) (b := 9) (by kernel_rfl) ?_
        repeat' (first | (with_reducible first | (refine d_seq ?_; intro K hK) | (refine hK _ _ ?_; clear hK K) | (refine SG.p ?_; try intro b) | refine r_rq (by first | decide | omega) ?_) | ((with_reducible refine SC.p ?_); refine aI ?_ ?_) <;> intro hc <;> try simp only [push_cast, seval] at hc | ((with_reducible refine SL.p ?_); first | refine ⟨_, rfl, ?_⟩ | refine ⟨_, _, _, rfl, ?_⟩ | (refine ⟨?_, rfl, ?_⟩; focus (simp; done))) | ((with_reducible first | apply i_ldn | apply i_ldnq); iterate 3 exact rfl) | ((try with_reducible refine d_reg ?_); simp only [go_sem]) | clear hK K)
        simp only [Dk.flush, dkl, Dk.hd, sy_len]
        rw [e]
        (with_reducible first | apply i_ret0 | apply i_ret2 | apply i_ret3 | apply i_ret); exact rfl
        rfl
      · repeat' (first | (with_reducible first | (refine d_seq ?_; intro K hK) | (refine hK _ _ ?_; clear hK K) | (refine SG.p ?_; try intro b) | refine r_rq (by first | decide | omega) ?_) | ((with_reducible refine SC.p ?_); refine aI ?_ ?_) <;> intro hc <;> try simp only [push_cast, seval] at hc | ((with_reducible refine SL.p ?_); first | refine ⟨_, rfl, ?_⟩ | refine ⟨_, _, _, rfl, ?_⟩ | (refine ⟨?_, rfl, ?_⟩; focus (simp; done))) | ((with_reducible first | apply i_ldn | apply i_ldnq); iterate 3 exact rfl) | ((try with_reducible refine d_reg ?_); simp only [go_sem]) | clear hK K)
        rw [sn_push]
        refine i_ment hx hA.bn ?_
        have hi : (0 : Int) ≤ x.1 ∧ (x.1 : Int) < (A.sure.length : Int) := hA.ei x hx
        have hl := sy_len S A.sure
        obtain ⟨R', hlt, hst⟩ := hR.step hx hn
        repeat' (first | (with_reducible first | (refine d_seq ?_; intro K hK) | (refine hK _ _ ?_; clear hK K) | (refine SG.p ?_; try intro b) | refine r_rq (by first | decide | omega) ?_) | ((with_reducible refine SC.p ?_); refine aI ?_ ?_) <;> intro hc <;> try simp only [push_cast, seval] at hc | ((with_reducible refine SL.p ?_); first | refine ⟨_, rfl, ?_⟩ | refine ⟨_, _, _, rfl, ?_⟩ | (refine ⟨?_, rfl, ?_⟩; focus (simp; done))) | ((with_reducible first | apply i_ldn | apply i_ldnq); iterate 3 exact rfl) | ((try with_reducible refine d_reg ?_); simp only [go_sem]) | clear hK K)
        refine i_st (by rw [List.length_map, hl]; exact toN3 hi) rfl ?_
        rw [← List.map_set, ← sy_snoc]
        repeat' (first | (with_reducible first | (refine d_seq ?_; intro K hK) | (refine hK _ _ ?_; clear hK K) | (refine SG.p ?_; try intro b) | refine r_rq (by first | decide | omega) ?_) | ((with_reducible refine SC.p ?_); refine aI ?_ ?_) <;> intro hc <;> try simp only [push_cast, seval] at hc | ((with_reducible refine SL.p ?_); first | refine ⟨_, rfl, ?_⟩ | refine ⟨_, _, _, rfl, ?_⟩ | (refine ⟨?_, rfl, ?_⟩; focus (simp; done))) | ((with_reducible first | apply i_ldn | apply i_ldnq); iterate 3 exact rfl) | ((try with_reducible refine d_reg ?_); simp only [go_sem]) | clear hK K)
        exact i_bk (S ++ [x], R') rfl hst hlt
    · (with_reducible first | apply i_ret0 | apply i_ret2 | apply i_ret3 | apply i_ret); exact rfl
      rfl
  · simp only [h0, if_false]
    intro L
    refine c79_fn rfl rfl ?_
    simp only [Dk.p]
    repeat' ((fail_if_success with_reducible refine nph ?_); first | (with_reducible first | (refine d_seq ?_; intro K hK) | (refine hK _ _ ?_; clear hK K) | (refine SG.p ?_; try intro b) | refine r_rq (by first | decide | omega) ?_) | ((with_reducible refine SC.p ?_); refine aI ?_ ?_) <;> intro hc <;> try simp only [push_cast, seval] at hc | ((with_reducible refine SL.p ?_); first | refine ⟨_, rfl, ?_⟩ | refine ⟨_, _, _, rfl, ?_⟩ | (refine ⟨?_, rfl, ?_⟩; focus (simp; done))) | ((with_reducible first | apply i_ldn | apply i_ldnq); iterate 3 exact rfl) | ((try with_reducible refine d_reg ?_); simp only [go_sem]) | clear hK K)
    refine i_clp (f67 D h 0) ?_
    repeat' ((fail_if_success with_reducible refine nph ?_); first | (with_reducible first | (refine d_seq ?_; intro K hK) | (refine hK _ _ ?_; clear hK K) | (refine SG.p ?_; try intro b) | refine r_rq (by first | decide | omega) ?_) | ((with_reducible refine SC.p ?_); refine aI ?_ ?_) <;> intro hc <;> try simp only [push_cast, seval] at hc | ((with_reducible refine SL.p ?_); first | refine ⟨_, rfl, ?_⟩ | refine ⟨_, _, _, rfl, ?_⟩ | (refine ⟨?_, rfl, ?_⟩; focus (simp; done))) | ((with_reducible first | apply i_ldn | apply i_ldnq); iterate 3 exact rfl) | ((try with_reducible refine d_reg ?_); simp only [go_sem]) | clear hK K)
    all_goals first | contradiction | omega | ((with_reducible first | apply i_ret0 | apply i_ret2 | apply i_ret3 | apply i_ret); exact rfl; rfl)
theorem Dk.flush_ok {D : Dk} (h : D.ok) : D.flush.ok := by
  obtain ⟨g1, g2, g3, g4, g5, g6, g7, g8, g9, g10⟩ := h
  have hl := sy_len D.es D.sure
  constructor <;> simp only [Dk.flush, hl] <;> first | assumption | skip
  · intro s hs
    obtain ⟨j, hj⟩ := List.getElem?_of_mem hs
    have hj' : j < D.sure.length := by
      rw [← hl]
      rcases Nat.lt_or_ge j (sy D.es D.sure).length with h | h
      · exact h
      · rw [List.getElem?_eq_none h] at hj; cases hj
    rw [sy_get _ _ g7 g5 j hj'] at hj
    cases hg : gk D.es (j : Int) with
    | none => rw [hg] at hj; simp only [Option.getD_none, Option.some.injEq] at hj; subst hj; exact g3 _ (by simp [hj'])
    | some v =>
      obtain ⟨x, hx, _, rfl⟩ := gk_mem hg
      rw [hg] at hj
      simp only [Option.getD_some, Option.some.injEq] at hj
      subst hj
      have := g4 x hx
      omega
  all_goals simp
theorem Dk.get_len {D : Dk} (h : D.ok) {i : Int} (hi : D.chk i = 0) : (D.get i).length = 64 := by
  have hk := Dk.chk_ok hi
  unfold Dk.get
  cases hg : gk D.es i with
  | some v => obtain ⟨x, hx, _, rfl⟩ := gk_mem hg; exact h.e64 x hx
  | none =>
    have : i.toNat < D.sure.length := by omega
    exact wh_len (h.l64 _ (by simp [this]))
theorem Dk.sync_ok {D : Dk} (h : D.ok) : D.sync.2.ok := by
  unfold Dk.sync
  split
  · split
    · exact Dk.flush_ok (Dk.act_ok h)
    · exact Dk.act_ok h
  · exact h
def dk (D : Dk) : HP := HS (dkl D)
theorem fo {e : Enc} {P : Program} {f : FuncId} {args : Array Value} {x : e.α} {D D' : Dk} (h : Fq e P f args (dkl D) (dkl D') x) : Fq e P f args [dk D] [dk D'] x :=
  Fq.fold (A := dkl D) (B := dkl D') (C := []) (by simpa using h)
theorem F26 (D : Dk) (h : D.ok) : Fp eI Tryz.prog 99 #[D.p] [dk D] (D.sure.length : Int) := fo (f26 D h)
theorem F31 (D : Dk) (h : D.ok) (i : Int) : Fp (eT2 eS eI) Tryz.prog 22 #[D.p, .int .i64 i] [dk D] (if D.chk i = 0 then D.get i else [], D.chk i) := fo (f31 D h i)
def Dk.on (D : Dk) : Dk := { D with up := true }
theorem Dk.on_ok {D : Dk} (h : D.ok) : D.on.ok := by
  obtain ⟨g1, g2, g3, g4, g5, g6, g7, g8, g9, g10⟩ := h
  exact ⟨g1, g2, g3, g4, g5, g6, g7, g8, g9, g10⟩
theorem F27 (D : Dk) (h : D.ok) (i : Int) (s : List UInt8) : Fq eI Tryz.prog 24 #[D.p, .int .i64 i, str s] [dk D] [dk (D.write i s).2] (D.write i s).1 := fo (f27 D h i s)
theorem F28 (D : Dk) (h : D.ok) : Fq eI Tryz.prog 79 #[D.p] [dk D] [dk D.sync.2] D.sync.1 := fo (f28 D h)
theorem F25 (n : Nat) (h0 : 0 < n) (h1 : n ≤ 8192) : Fn (eT2 eP eI) Tryz.prog 16 #[.int .i64 (n : Int)] [] fun y X => ∃ sb bb mb, y = (some ⟨sb, 0, none⟩, 0) ∧ X = [dk (Dk.new sb bb mb n)] := fun L w hw => by
  refine (f25 n h0 h1 L w hw).mono ?_
  rintro _ w' ⟨x, he, X, ⟨sb, bb, mb, rfl, rfl⟩, hX⟩
  exact ⟨_, he, _, ⟨sb, bb, mb, rfl, rfl⟩, Holds.close hX⟩
theorem Dk.write_go {D : Dk} {i : Int} {s : List UInt8} (h0 : D.chk i = 0) (hs : s.length ≤ 64) (hf : D.fuse < 0) : D.write i s = (0, Dk.put { D with acts := IntKind.wrap .i64 (D.acts + 1) } i (wh s)) := by
  have e : D.act = (0, { D with acts := IntKind.wrap .i64 (D.acts + 1) }) := by
    unfold Dk.act
    rw [if_neg (by omega), if_neg (by omega)]
  unfold Dk.write
  rw [if_pos h0, if_neg (by omega), e, if_pos rfl]
end Go.Sp
namespace Go.Sp
open Go Go.Proofs
set_option linter.unusedSimpArgs false
set_option linter.unusedVariables false
theorem gk_pk (es : Ents eI eS) (i j : Int) (v : List UInt8) (c : Nat) : gk (pk es i v c) j = if i = j then some v else gk es j := by
  induction es with
  | nil => simp [pk, gk]
  | cons x r ih =>
    by_cases h : x.1 = i
    · simp only [pk, h, if_true, gk]
      by_cases hj : i = j
      · simp [hj]
      · simp [hj]
    · simp only [pk, h, if_false, gk, ih]
      by_cases hx : x.1 = j
      · have : ¬ i = j := fun e => h (hx.trans e.symm)
        simp [hx, this]
      · simp [hx]
theorem Dk.sync_go {D : Dk} (h0 : D.chk 0 = 0) (hf : D.fuse < 0) : D.sync = (0, Dk.flush { D with acts := IntKind.wrap .i64 (D.acts + 1) }) := by
  have e : D.act = (0, { D with acts := IntKind.wrap .i64 (D.acts + 1) }) := by
    unfold Dk.act
    rw [if_neg (by omega), if_neg (by omega)]
  unfold Dk.sync
  rw [if_pos h0, e, if_pos rfl]
theorem Dk.flush_get {D : Dk} (h : D.ok) {j : Nat} (hj : j < D.sure.length) : D.flush.get (j : Int) = D.get (j : Int) := by
  have e : (sy D.es D.sure).getD j [] = (gk D.es (j : Int)).getD (D.sure.getD j []) := by
    rw [List.getD_eq_getElem?_getD, sy_get D.es D.sure h.kn h.ei j hj]
    rfl
  simp only [Dk.get, Dk.flush, gk, Option.getD_none, Int.toNat_natCast]
  rw [e]
  cases hg : gk D.es (j : Int) with
  | none => rfl
  | some v =>
    obtain ⟨x, hx, _, rfl⟩ := gk_mem hg
    exact wh_full (h.e64 x hx)
theorem Dk.cut_or {D : Dk} (h : D.ok) (keep : Int) : ∀ (n : Nat) (_ : n ≤ D.keys.length) (j : Nat), (D.cutn keep n).getD j [] = D.sure.getD j [] ∨ gk D.es (j : Int) = some ((D.cutn keep n).getD j [])
  | 0, _, _ => .inl rfl
  | n + 1, hn, j => by
    have ih := Dk.cut_or h keep n (by omega) j
    unfold Dk.cutn
    split
    · have hk := Dk.keys_in h (n := n) (by omega)
      have hm : D.keys.getD n 0 ∈ D.es.map (·.1) := by
        rw [List.getD_eq_getElem?_getD, List.getElem?_eq_getElem (by omega)]
        exact (List.mergeSort_perm _ _).mem_iff.1 (List.getElem_mem _)
      generalize D.keys.getD n 0 = k at *
      by_cases hkj : k.toNat = j
      · right
        have hkj' : k = (j : Int) := by omega
        have hlt : j < (D.cutn keep n).length := by rw [Dk.cutn_len]; omega
        cases hg : gk D.es k with
        | none =>
          obtain ⟨x, hx, e⟩ := List.mem_map.1 hm
          exact absurd e (gk_none hg x hx)
        | some v =>
          subst hkj
          rw [← hkj', hg]
          simp [hlt]
      · have e : ((D.cutn keep n).set k.toNat ((gk D.es k).getD [])).getD j [] = (D.cutn keep n).getD j [] := by
          simp [List.getD_eq_getElem?_getD, List.getElem?_set, hkj]
        rw [e]
        exact ih
    · exact ih
end Go.Sp
namespace Go.Sp
open Go Go.Proofs
set_option linter.unusedSimpArgs false
set_option linter.unusedVariables false
def Dk.wr (D : Dk) (l : List (List UInt8)) : Nat → Dk
  | 0 => D
  | i + 1 => if (l.getD i []).length ≤ 64 then ((D.wr l i).write (i : Int) (l.getD i [])).2 else D.wr l i
structure Dk.calm (D : Dk) (sb : Nat) (n : Nat) : Prop where
  ok : D.ok
  sb : D.sb = sb
  up : D.up = true
  fu : D.fuse < 0
  n : D.sure.length = n
theorem Dk.calm.chk {D : Dk} {sb n : Nat} (h : D.calm sb n) {i : Nat} (hi : i < n) : D.chk (i : Int) = 0 := by
  unfold Dk.chk
  rw [h.up, h.n, if_neg (by simp), if_neg (by omega)]
theorem Dk.calm.write {D : Dk} {sb n : Nat} (h : D.calm sb n) {i : Nat} (hi : i < n) {s : List UInt8} (hs : s.length ≤ 64) :
    (D.write (i : Int) s).1 = 0 ∧ (D.write (i : Int) s).2.calm sb n ∧ (D.write (i : Int) s).2.sure = D.sure ∧ (D.write (i : Int) s).2.downs = D.downs ∧ ∀ j : Int, gk (D.write (i : Int) s).2.es j = if (i : Int) = j then some (wh s) else gk D.es j := by
  have hok := Dk.write_ok h.ok (i : Int) s
  rw [Dk.write_go (h.chk hi) hs h.fu] at hok ⊢
  exact ⟨rfl, ⟨hok, h.sb, h.up, h.fu, h.n⟩, rfl, rfl, fun j => gk_pk _ _ _ _ _⟩
theorem Dk.calm.wr {D : Dk} {sb n : Nat} (h : D.calm sb n) (l : List (List UInt8)) : ∀ i, i ≤ n → (D.wr l i).calm sb n ∧ (D.wr l i).sure = D.sure ∧ ∀ j : Nat, gk (D.wr l i).es (j : Int) = if j < i ∧ (l.getD j []).length ≤ 64 then some (wh (l.getD j [])) else gk D.es (j : Int)
  | 0, _ => ⟨h, rfl, fun j => by simp [Dk.wr]⟩
  | i + 1, hi => by
    obtain ⟨h1, h2, h3⟩ := Dk.calm.wr h l i (by omega)
    unfold Dk.wr
    split
    · rename_i hs
      obtain ⟨_, w2, w3, _, w5⟩ := h1.write (by omega : i < n) hs
      refine ⟨w2, w3.trans h2, fun j => ?_⟩
      rw [w5, h3]
      by_cases hj : i = j
      · subst hj
        rw [if_pos rfl, if_pos ⟨by omega, hs⟩]
      · rw [if_neg (by omega)]
        by_cases hc : j < i ∧ (l.getD j []).length ≤ 64
        · rw [if_pos hc, if_pos ⟨by omega, hc.2⟩]
        · rw [if_neg hc, if_neg (fun hc' => hc ⟨by omega, hc'.2⟩)]
    · rename_i hs
      refine ⟨h1, h2, fun j => ?_⟩
      rw [h3]
      by_cases hj : i = j
      · subst hj
        rw [if_neg (by omega), if_neg (fun hc => hs hc.2)]
      · by_cases hc : j < i ∧ (l.getD j []).length ≤ 64
        · rw [if_pos hc, if_pos ⟨by omega, hc.2⟩]
        · rw [if_neg hc, if_neg (fun hc' => hc ⟨by omega, hc'.2⟩)]
theorem Dk.calm.sync {D : Dk} {sb n : Nat} (h : D.calm sb n) (hn : 0 < n) : D.sync.1 = 0 ∧ D.sync.2.calm sb n ∧ D.sync.2.es = [] ∧ D.sync.2.downs = D.downs ∧ ∀ j : Nat, j < n → D.sync.2.get (j : Int) = D.get (j : Int) := by
  have hok := Dk.sync_ok h.ok
  have hc := h.chk hn
  rw [Dk.sync_go hc h.fu] at hok ⊢
  have hA : ({ D with acts := IntKind.wrap .i64 (D.acts + 1) } : Dk).ok := by
    obtain ⟨g1, g2, g3, g4, g5, g6, g7, g8, g9, g10⟩ := h.ok
    exact ⟨g1, g2, g3, g4, g5, g6, g7, g8, g9, g10⟩
  refine ⟨rfl, ⟨hok, h.sb, h.up, h.fu, ?_⟩, rfl, rfl, fun j hj => ?_⟩
  · show (sy D.es D.sure).length = n
    rw [sy_len]; exact h.n
  · exact Dk.flush_get hA (by rw [← h.n] at hj; exact hj)
theorem Dk.calm.new {sb bb mb n : Nat} (h0 : 0 < n) (h1 : n ≤ 8192) : (Dk.new sb bb mb n).calm sb n := ⟨Dk.new_ok h0 h1, rfl, rfl, (by decide : (-1 : Int) < 0), by simp [Dk.new]⟩
theorem Dk.calm.off {D : Dk} {sb n : Nat} (h : D.calm sb n) (keep : Int) : (D.off keep).on.calm sb n ∧ (D.off keep).up = false ∧ (D.off keep).ok ∧ (D.off keep).sb = sb ∧
    ∀ j : Nat, (D.off keep).on.get (j : Int) = wh (D.sure.getD j []) ∨ ∃ v, gk D.es (j : Int) = some v ∧ v.length = 64 ∧ (D.off keep).on.get (j : Int) = v := by
  have hok := Dk.off_ok h.ok keep
  refine ⟨⟨Dk.on_ok hok, h.sb, rfl, (by decide : (-1 : Int) < 0), ?_⟩, rfl, hok, h.sb, fun j => ?_⟩
  · show (D.cutn keep D.keys.length).length = n
    rw [Dk.cutn_len]; exact h.n
  · have e : (D.off keep).on.get (j : Int) = wh ((D.cutn keep D.keys.length).getD j []) := rfl
    rw [e]
    rcases Dk.cut_or h.ok keep D.keys.length (Nat.le_refl _) j with h1 | h1
    · left; rw [h1]
    · right
      obtain ⟨x, hx, _, hv⟩ := gk_mem h1
      have h64 := h.ok.e64 x hx
      rw [hv] at h64
      exact ⟨_, h1, h64, wh_full h64⟩
def was (l : List (List UInt8)) (j : Nat) : List UInt8 := if j < l.length ∧ (l.getD j []).length ≤ 64 then wh (l.getD j []) else wh []
theorem lasts {D : Dk} {sb n : Nat} (h : D.calm sb n) (he : D.es = []) (hn : 0 < n) (m : List (List UInt8)) {k : Nat} (hk : k ≤ n) (hm : k ≤ m.length) (keep : Int) {j : Nat} (hj : j < n) :
    ((D.wr m k).off keep).on.get (j : Int) = D.get (j : Int) ∨ (j < m.length ∧ (m.getD j []).length ≤ 64 ∧ ((D.wr m k).off keep).on.get (j : Int) = wh (m.getD j [])) := by
  obtain ⟨h1, h2, h3⟩ := h.wr m k hk
  obtain ⟨_, _, _, _, h4⟩ := h1.off keep
  rcases h4 j with h5 | ⟨v, h5, h6, h7⟩
  · left
    rw [h5, h2]
    unfold Dk.get
    rw [he]
    simp [gk]
  · right
    rw [h3] at h5
    by_cases hc : j < k ∧ (m.getD j []).length ≤ 64
    · rw [if_pos hc] at h5
      exact ⟨by omega, hc.2, by rw [h7]; simpa using h5.symm⟩
    · rw [if_neg hc, he] at h5
      cases h5
theorem Dk.write_sb (D : Dk) (i : Int) (s : List UInt8) : (D.write i s).2.sb = D.sb := by
  have := Dk.act_sb D
  unfold Dk.write
  split
  · split
    · rfl
    · split
      · exact this
      · exact this
  · rfl
theorem Dk.sync_sb (D : Dk) : D.sync.2.sb = D.sb := by
  have := Dk.act_sb D
  unfold Dk.sync
  split
  · split
    · exact this
    · exact this
  · rfl
end Go.Sp
namespace Go.Sp
open Go Go.Proofs
set_option linter.unusedSimpArgs false
set_option linter.unusedVariables false
set_option maxRecDepth 10000
theorem Dk.calm.p {D : Dk} {sb n : Nat} (h : D.calm sb n) : D.p = .pointer (some ⟨sb, 0, none⟩) := by simp only [Dk.p, h.sb]
end Go.Sp
namespace Go.Sp
open Go
set_option maxRecDepth 100000
set_option linter.unusedVariables false
open Go.Proofs
variable (K : Env → W) (k : Value → W) {e : Enc} {args : Array Value} {G : e.α → W} {L : List HP} {ρ : Env}
attribute [local instance] cI cB cP cA
noncomputable def c67 := cf Tryz.f67 41 [(0, [0, 1, 2, 3]), (1, [0, 1, 2, 3]), (2, []), (3, [0, 1, 2]), (4, []), (5, [])] [(0, [0, 1, 2, 3]), (1, [0, 1, 2, 9]), (2, [8]), (3, [28]), (4, [8]), (5, [8]), (1000000, [8])] [] []
@[go_sem] theorem c67_i : c67.li 0 = [0, 1, 2, 3] ∧ c67.li 1 = [0, 1, 2, 3] ∧ c67.li 2 = [] ∧ c67.li 3 = [0, 1, 2] ∧ c67.li 4 = [] ∧ c67.li 5 = [] := ⟨rfl, rfl, rfl, rfl, rfl, rfl⟩
@[go_sem] theorem c67_r0 (v0 : Option Addr) (v1 v2 v3 : Int) : RP c67 0 [(0, v0), (1, v1), (2, v2), (3, v3)] K =
 (K [(0, v0), (1, v1), (2, v2), (3, v3)]) := by kernel_rfl
@[go_sem] theorem c67_r1 (v0 : Option Addr) (v1 v2 v3 : Int) : RP c67 1 [(0, v0), (1, v1), (2, v2), (3, v3)] K =
 (cnd (v0.isNone) (K [(0, v0), (1, v1), (2, v2), (9, true)]) (cnd (decide (v1 < 0)) (K [(0, v0), (1, v1), (2, v2), (9, true)]) (cnd (decide (v2 < 1)) (K [(0, v0), (1, v1), (2, v2), (9, true)]) (cnd (decide (v3 < 1)) (K [(0, v0), (1, v1), (2, v2), (9, true)]) (K [(0, v0), (1, v1), (2, v2), (9, decide (4294967296 ≤ v3))]))))) := by kernel_rfl
@[go_sem] theorem c67_r2 : RP c67 2 [] K =
 (K [(8, .int .i64 1)]) := by kernel_rfl
@[go_sem] theorem c67_r3 (v0 : Option Addr) (v1 v2 : Int) : RP c67 3 [(0, v0), (1, v1), (2, v2)] K =
 (cal eI Tryz.prog 99 #[v0] fun (y1_ : Int) => (cnd (decide (y1_ < v1)) (K [(28, true)]) (cal eI Tryz.prog 99 #[v0] fun (y2_ : Int) => (K [(28, decide ((IntKind.wrap .i64 (y2_ - v1)) < v2))])))) := by kernel_rfl
@[go_sem] theorem c67_r4 : RP c67 4 [] K =
 (K [(8, .int .i64 6)]) := by kernel_rfl
@[go_sem] theorem c67_r5 : RP c67 5 [] K =
 (K [(8, .int .i64 0)]) := by kernel_rfl
@[go_sem] theorem c67_o : c67.lo 1000000 = [8] := rfl
@[go_sem] theorem c67_e (v8 : Int) : RTp c67 [(8, v8)] k = (k (v8)) := by kernel_rfl
theorem c67_ok : (c67.P.follows .mixedOrders && okc c67 c67.body) = true := by kernel_rfl
theorem c67_fn (hρ : envA 0 args.toList = ρ) (hs : Nat.ble args.size 41 = true) (h : E L (D c67 (.seq (.reg 0) (.seq (.block 0 (.seq (.reg 1) (.cond (.tmp 9) (.seq (.reg 2) (.ret)) (.seq (.reg 3) (.cond (.tmp 28) (.seq (.reg 4) (.ret)) (.skip)))))) (.seq (.reg 5) (.ret)))) (fnQ c67 e G) ρ)) : E L (cal e Tryz.prog 67 args G) :=
  d_fn (c := c67) Tryz.func67 (by kernel_rfl) (by kernel_rfl) (by kernel_rfl) c67_ok (by kernel_rfl) (by kernel_rfl) hρ hs h
noncomputable def c68 := cf Tryz.f68 66 [(0, [0]), (1, [0]), (2, [0, 4]), (3, [0, 4, 5]), (4, [0, 4, 5, 15, 16]), (5, [0, 4, 5, 15, 16]), (6, [0, 4, 5, 6, 15, 16]), (7, [0, 4, 5, 7, 8, 15, 16]), (8, [8]), (9, [0, 4, 5, 7, 15, 16]), (10, [0, 4, 5, 9, 15, 16]), (11, [0, 4, 5, 9, 10, 11, 15, 16]), (12, [0, 4, 9, 10, 11, 15, 16]), (13, [0, 4, 5, 9, 11, 15, 16]), (14, [0, 4, 5, 11, 15, 16]), (15, [0, 4, 5, 15, 16]), (16, [4])] [(0, [0]), (1, [0, 4]), (2, [0, 4, 5]), (3, [0, 4, 5, 15, 16]), (4, [0, 4, 5, 15, 16, 17]), (5, [0, 4, 5, 6, 15, 16]), (6, [0, 4, 5, 7, 8, 15, 16]), (7, [0, 4, 5, 7, 8, 15, 16, 34]), (8, [2, 3]), (9, [0, 4, 5, 9, 15, 16]), (10, [0, 4, 5, 9, 10, 11, 15, 16]), (11, [0, 4, 9, 10, 11, 15, 16, 56]), (12, [0, 4, 5, 9, 11, 15, 16]), (13, [0, 4, 5, 11, 15, 16]), (14, [0, 4, 5, 15, 16, 63]), (15, [0, 4, 5, 15, 16]), (16, [2, 3]), (1000000, [2, 3])] [(6, (true, [(0, 1), (1, 1), (2, 1), (3, 0), (4, 1), (5, 1), (6, 1), (7, 0), (8, 1), (9, 1), (10, 4), (11, 1), (12, 1), (13, 1), (14, 1), (15, 1)]))] []
@[go_sem] theorem c68_i : c68.li 0 = [0] ∧ c68.li 1 = [0] ∧ c68.li 2 = [0, 4] ∧ c68.li 3 = [0, 4, 5] ∧ c68.li 4 = [0, 4, 5, 15, 16] ∧ c68.li 5 = [0, 4, 5, 15, 16] ∧ c68.li 6 = [0, 4, 5, 6, 15, 16] ∧ c68.li 7 = [0, 4, 5, 7, 8, 15, 16] ∧ c68.li 8 = [8] ∧ c68.li 9 = [0, 4, 5, 7, 15, 16] ∧ c68.li 10 = [0, 4, 5, 9, 15, 16] ∧ c68.li 11 = [0, 4, 5, 9, 10, 11, 15, 16] ∧ c68.li 12 = [0, 4, 9, 10, 11, 15, 16] ∧ c68.li 13 = [0, 4, 5, 9, 11, 15, 16] ∧ c68.li 14 = [0, 4, 5, 11, 15, 16] ∧ c68.li 15 = [0, 4, 5, 15, 16] ∧ c68.li 16 = [4] := ⟨rfl, rfl, rfl, rfl, rfl, rfl, rfl, rfl, rfl, rfl, rfl, rfl, rfl, rfl, rfl, rfl, rfl⟩
@[go_sem] theorem c68_r0 (v0 : Option Addr) : RP c68 0 [(0, v0)] K =
 (K [(0, v0)]) := by kernel_rfl
@[go_sem] theorem c68_r1 (v0 : Option Addr) : RP c68 1 [(0, v0)] K =
 (nwc #[.pointer none, .slice none 0 0] 144 fun y1_ => (K [(0, v0), (4, y1_)])) := by kernel_rfl
@[go_sem] theorem c68_r2 (v0 : Option Addr) (v4 : Addr) : RP c68 2 [(0, v0), (4, v4)] K =
 (K [(0, v0), (4, v4), (5, .int .i64 1)]) := by kernel_rfl
@[go_sem] theorem c68_r3 (v0 : Option Addr) (v4 : Addr) (v5 : Int) : RP c68 3 [(0, v0), (4, v4), (5, v5)] K =
 (nn v0 fun y1_ => (ld eI (y1_.add 2) fun (y2_ : Int) => (K [(0, v0), (4, v4), (5, v5), (15, y2_), (16, .int .i64 0)]))) := by kernel_rfl
@[go_sem] theorem c68_r4 (v0 : Option Addr) (v4 : Addr) (v5 v15 v16 : Int) : RP c68 4 [(0, v0), (4, v4), (5, v5), (15, v15), (16, v16)] K =
 (K [(0, v0), (4, v4), (5, v5), (15, v15), (16, v16), (17, decide (v16 < v15))]) := by kernel_rfl
@[go_sem] theorem c68_r5 (v0 : Option Addr) (v4 : Addr) (v5 v15 v16 : Int) : RP c68 5 [(0, v0), (4, v4), (5, v5), (15, v15), (16, v16)] K =
 (K [(0, v0), (4, v4), (5, v5), (6, v16), (15, v15), (16, v16)]) := by kernel_rfl
@[go_sem] theorem c68_r6 (v0 : Option Addr) (v4 : Addr) (v5 v6 v15 v16 : Int) : RP c68 6 [(0, v0), (4, v4), (5, v5), (6, v6), (15, v15), (16, v16)] K =
 (ph fun S0 => (nn v0 fun y1_ => (ldq S0 eP y1_ fun (y2_ : Option Addr) => (nn v0 fun y3_ => (ldq S0 eI (y3_.add 1) fun (y4_ : Int) => (cal (eT2 eS eI) Tryz.prog 22 #[y2_, IntKind.wrap .i64 (y4_ + v6)] fun (y5_ : ((List UInt8) × Int)) => (K [(0, v0), (4, v4), (5, v5), (7, str y5_.1), (8, y5_.2), (15, v15), (16, v16)]))))))) := by kernel_rfl
@[go_sem] theorem c68_r7 (v0 : Option Addr) (v4 : Addr) (v5 : Int) (v7 : List UInt8) (v8 v15 v16 : Int) : RP c68 7 [(0, v0), (4, v4), (5, v5), (7, str v7), (8, v8), (15, v15), (16, v16)] K =
 (K [(0, v0), (4, v4), (5, v5), (7, str v7), (8, v8), (15, v15), (16, v16), (34, .bool (v8 != 0))]) := by kernel_rfl
@[go_sem] theorem c68_r8 (v8 : Int) : RP c68 8 [(8, v8)] K =
 (K [(2, str ([] : List UInt8)), (3, v8)]) := by kernel_rfl
@[go_sem] theorem c68_r9 (v0 : Option Addr) (v4 : Addr) (v5 : Int) (v7 : List UInt8) (v15 v16 : Int) : RP c68 9 [(0, v0), (4, v4), (5, v5), (7, str v7), (15, v15), (16, v16)] K =
 (cal eP Tryz.prog 84 #[str v7] fun (y1_ : Option Addr) => (K [(0, v0), (4, v4), (5, v5), (9, y1_), (15, v15), (16, v16)])) := by kernel_rfl
@[go_sem] theorem c68_r10 (v0 : Option Addr) (v4 : Addr) (v5 : Int) (v9 : Option Addr) (v15 v16 : Int) : RP c68 10 [(0, v0), (4, v4), (5, v5), (9, v9), (15, v15), (16, v16)] K =
 (cal eI Tryz.prog 85 #[v9, .int .i64 4] fun (y1_ : Int) => (cal eI Tryz.prog 85 #[v9, .int .i64 2] fun (y2_ : Int) => (K [(0, v0), (4, v4), (5, v5), (9, v9), (10, y1_), (11, y2_), (15, v15), (16, v16)]))) := by kernel_rfl
@[go_sem] theorem c68_r11 (v0 : Option Addr) (v4 : Addr) (v5 : Int) (v9 : Option Addr) (v10 v11 v15 v16 : Int) : RP c68 11 [(0, v0), (4, v4), (5, v5), (9, v9), (10, v10), (11, v11), (15, v15), (16, v16)] K =
 (cnd (decide (v10 < v5)) (K [(0, v0), (4, v4), (9, v9), (10, v10), (11, v11), (15, v15), (16, v16), (56, true)]) (nn v0 fun y1_ => (ld eI (y1_.add 3) fun (y2_ : Int) => (cnd (decide (y2_ < v10)) (K [(0, v0), (4, v4), (9, v9), (10, v10), (11, v11), (15, v15), (16, v16), (56, true)]) (K [(0, v0), (4, v4), (9, v9), (10, v10), (11, v11), (15, v15), (16, v16), (56, decide (58 < v11))]))))) := by kernel_rfl
@[go_sem] theorem c68_r12 (v0 : Option Addr) (v4 : Addr) (v9 : Option Addr) (v10 v11 v15 v16 : Int) : RP c68 12 [(0, v0), (4, v4), (9, v9), (10, v10), (11, v11), (15, v15), (16, v16)] K =
 (K [(0, v0), (4, v4), (5, v10), (9, v9), (11, v11), (15, v15), (16, v16)]) := by kernel_rfl
@[go_sem] theorem c68_r13 (v0 : Option Addr) (v4 : Addr) (v5 : Int) (v9 : Option Addr) (v11 v15 v16 : Int) : RP c68 13 [(0, v0), (4, v4), (5, v5), (9, v9), (11, v11), (15, v15), (16, v16)] K =
 (cal eS Tryz.prog 101 #[v9, v11] fun (y1_ : List UInt8) => (cal (eT2 eI eV) Tryz.prog 100 #[v4, str y1_] fun (y2_ : (Int × Value)) => (K [(0, v0), (4, v4), (5, v5), (11, v11), (15, v15), (16, v16)]))) := by kernel_rfl
@[go_sem] theorem c68_r14 (v0 : Option Addr) (v4 : Addr) (v5 v11 v15 v16 : Int) : RP c68 14 [(0, v0), (4, v4), (5, v5), (11, v11), (15, v15), (16, v16)] K =
 (K [(0, v0), (4, v4), (5, v5), (15, v15), (16, v16), (63, decide (v11 < 58))]) := by kernel_rfl
@[go_sem] theorem c68_r15 (v0 : Option Addr) (v4 : Addr) (v5 v15 v16 : Int) : RP c68 15 [(0, v0), (4, v4), (5, v5), (15, v15), (16, v16)] K =
 (K [(0, v0), (4, v4), (5, v5), (15, v15), (16, IntKind.wrap .i64 (v16 + 1))]) := by kernel_rfl
@[go_sem] theorem c68_r16 (v4 : Addr) : RP c68 16 [(4, v4)] K =
 (cal eS Tryz.prog 102 #[v4] fun (y1_ : List UInt8) => (K [(2, str y1_), (3, .int .i64 0)])) := by kernel_rfl
@[go_sem] theorem c68_o : c68.lo 1000000 = [2, 3] := rfl
@[go_sem] theorem c68_e (v2 : List UInt8) (v3 : Int) : RTp c68 [(2, str v2), (3, v3)] k = (k (.tuple #[str v2, v3])) := by kernel_rfl
theorem c68_ok : (c68.P.follows .mixedOrders && okc c68 c68.body) = true := by kernel_rfl
theorem c68_fn (hρ : envA 0 args.toList = ρ) (hs : Nat.ble args.size 66 = true) (h : E L (D c68 (.seq (.reg 0) (.seq (.reg 1) (.seq (.reg 2) (.seq (.seq (.reg 3) (.block 0 (.loop (.seq (.reg 4) (.seq (.cond (.tmp 17) (.skip) (.exit 0)) (.seq (.block 1 (.seq (.reg 5) (.seq (.reg 6) (.seq (.seq (.reg 7) (.cond (.tmp 34) (.seq (.reg 8) (.ret)) (.skip))) (.seq (.reg 9) (.seq (.reg 10) (.seq (.seq (.reg 11) (.cond (.tmp 56) (.exit 0) (.skip))) (.seq (.reg 12) (.seq (.reg 13) (.seq (.reg 14) (.cond (.tmp 63) (.exit 0) (.skip)))))))))))) (.reg 15))))))) (.seq (.reg 16) (.ret)))))) (fnQ c68 e G) ρ)) : E L (cal e Tryz.prog 68 args G) :=
  d_fn (c := c68) Tryz.func68 (by kernel_rfl) (by kernel_rfl) (by kernel_rfl) c68_ok (by kernel_rfl) (by kernel_rfl) hρ hs h
noncomputable def c69 := cf Tryz.f69 20 [(0, [0]), (1, [0]), (2, [0, 3]), (3, [0, 3, 5, 6]), (4, [3]), (5, [0, 3, 5])] [(0, [0]), (1, [0, 3]), (2, [0, 3, 5, 6]), (3, [0, 3, 5, 15]), (4, [2]), (5, [0, 3]), (1000000, [2])] [] []
@[go_sem] theorem c69_i : c69.li 0 = [0] ∧ c69.li 1 = [0] ∧ c69.li 2 = [0, 3] ∧ c69.li 3 = [0, 3, 5, 6] ∧ c69.li 4 = [3] ∧ c69.li 5 = [0, 3, 5] := ⟨rfl, rfl, rfl, rfl, rfl, rfl⟩
@[go_sem] theorem c69_r0 (v0 : List UInt8) : RP c69 0 [(0, str v0)] K =
 (K [(0, str v0)]) := by kernel_rfl
@[go_sem] theorem c69_r1 (v0 : List UInt8) : RP c69 1 [(0, str v0)] K =
 (K [(0, str v0), (3, .int .i64 0)]) := by kernel_rfl
@[go_sem] theorem c69_r2 (v0 : List UInt8) (v3 : Int) : RP c69 2 [(0, str v0), (3, v3)] K =
 (cal (eT3 e_api_Rec eI eI) Tryz.prog 26 #[str v0, v3] fun (y1_ : (api_Rec × Int × Int)) => (nwc #[.int .i64 0, .int .i64 0, .int .i64 0, .int .i64 0, .int .i64 0, str ([] : List UInt8), str ([] : List UInt8), str ([] : List UInt8), .int .i64 0, .slice none 0 0, .slice none 0 0, .int .i64 0, .int .i64 0] 36 fun y2_ => (stl [.int .i64 y1_.1.Kind, .int .i64 y1_.1.Txn, .int .i64 y1_.1.Prev, .int .i64 y1_.1.Page, .int .i64 y1_.1.Act, str y1_.1.Key, str y1_.1.Old, str y1_.1.New, .int .i64 y1_.1.Next, .slice y1_.1.Images.1 y1_.1.Images.2.1 y1_.1.Images.2.2, .slice y1_.1.Table.1 y1_.1.Table.2.1 y1_.1.Table.2.2, .int .i64 y1_.1.Epoch, .int .i64 y1_.1.Node] y2_ 0 (K [(0, str v0), (3, v3), (5, .int .i64 y1_.2.1), (6, .int .i64 y1_.2.2)])))) := by kernel_rfl
@[go_sem] theorem c69_r3 (v0 : List UInt8) (v3 v5 v6 : Int) : RP c69 3 [(0, str v0), (3, v3), (5, v5), (6, v6)] K =
 (K [(0, str v0), (3, v3), (5, v5), (15, .bool (v6 != 0))]) := by kernel_rfl
@[go_sem] theorem c69_r4 (v3 : Int) : RP c69 4 [(3, v3)] K =
 (K [(2, v3)]) := by kernel_rfl
@[go_sem] theorem c69_r5 (v0 : List UInt8) (v3 v5 : Int) : RP c69 5 [(0, str v0), (3, v3), (5, v5)] K =
 (K [(0, str v0), (3, IntKind.wrap .i64 (v3 + v5))]) := by kernel_rfl
@[go_sem] theorem c69_o : c69.lo 1000000 = [2] := rfl
@[go_sem] theorem c69_e (v2 : Int) : RTp c69 [(2, v2)] k = (k (v2)) := by kernel_rfl
theorem c69_ok : (c69.P.follows .mixedOrders && okc c69 c69.body) = true := by kernel_rfl
theorem c69_fn (hρ : envA 0 args.toList = ρ) (hs : Nat.ble args.size 20 = true) (h : E L (D c69 (.seq (.reg 0) (.seq (.reg 1) (.block 0 (.loop (.block 1 (.seq (.reg 2) (.seq (.seq (.reg 3) (.cond (.tmp 15) (.seq (.reg 4) (.ret)) (.skip))) (.reg 5)))))))) (fnQ c69 e G) ρ)) : E L (cal e Tryz.prog 69 args G) :=
  d_fn (c := c69) Tryz.func69 (by kernel_rfl) (by kernel_rfl) (by kernel_rfl) c69_ok (by kernel_rfl) (by kernel_rfl) hρ hs h
noncomputable def c70 := cf Tryz.f70 23 [(0, [0]), (1, [0]), (2, [0, 3]), (3, [0, 3]), (4, [0])] [(0, [0]), (1, [0, 3]), (2, [0, 3, 12]), (3, [2]), (4, [2]), (1000000, [2])] [] []
@[go_sem] theorem c70_i : c70.li 0 = [0] ∧ c70.li 1 = [0] ∧ c70.li 2 = [0, 3] ∧ c70.li 3 = [0, 3] ∧ c70.li 4 = [0] := ⟨rfl, rfl, rfl, rfl, rfl⟩
@[go_sem] theorem c70_r0 (v0 : Option Addr) : RP c70 0 [(0, v0)] K =
 (K [(0, v0)]) := by kernel_rfl
@[go_sem] theorem c70_r1 (v0 : Option Addr) : RP c70 1 [(0, v0)] K =
 (nn v0 fun y1_ => (ld eI (y1_.add 5) fun (y2_ : Int) => (rq ((58 : Int) ≠ 0) (cal eI Tryz.prog 77 #[v0, IntKind.wrap .i64 (y2_.tdiv (58 : Int))] fun (y3_ : Int) => (K [(0, v0), (3, y3_)]))))) := by kernel_rfl
@[go_sem] theorem c70_r2 (v0 : Option Addr) (v3 : Int) : RP c70 2 [(0, v0), (3, v3)] K =
 (K [(0, v0), (3, v3), (12, .bool (v3 != 0))]) := by kernel_rfl
@[go_sem] theorem c70_r3 (v0 : Option Addr) (v3 : Int) : RP c70 3 [(0, v0), (3, v3)] K =
 (cal eI Tryz.prog 78 #[v0, v3] fun (y1_ : Int) => (K [(2, y1_)])) := by kernel_rfl
@[go_sem] theorem c70_r4 (v0 : Option Addr) : RP c70 4 [(0, v0)] K =
 (nn v0 fun y1_ => (ld eP y1_ fun (y2_ : Option Addr) => (cal eI Tryz.prog 79 #[y2_] fun (y3_ : Int) => (cal eI Tryz.prog 78 #[v0, y3_] fun (y4_ : Int) => (K [(2, y4_)]))))) := by kernel_rfl
@[go_sem] theorem c70_o : c70.lo 1000000 = [2] := rfl
@[go_sem] theorem c70_e (v2 : Int) : RTp c70 [(2, v2)] k = (k (v2)) := by kernel_rfl
theorem c70_ok : (c70.P.follows .mixedOrders && okc c70 c70.body) = true := by kernel_rfl
theorem c70_fn (hρ : envA 0 args.toList = ρ) (hs : Nat.ble args.size 23 = true) (h : E L (D c70 (.seq (.reg 0) (.seq (.seq (.reg 1) (.seq (.reg 2) (.cond (.tmp 12) (.seq (.reg 3) (.ret)) (.skip)))) (.seq (.reg 4) (.ret)))) (fnQ c70 e G) ρ)) : E L (cal e Tryz.prog 70 args G) :=
  d_fn (c := c70) Tryz.func70 (by kernel_rfl) (by kernel_rfl) (by kernel_rfl) c70_ok (by kernel_rfl) (by kernel_rfl) hρ hs h
noncomputable def c75 := cf Tryz.f75 11 [(0, [0]), (1, [0]), (2, []), (3, [0]), (4, []), (5, [])] [(0, [0]), (1, [0, 3]), (2, [2]), (3, [6]), (4, [2]), (5, [2]), (1000000, [2])] [] []
@[go_sem] theorem c75_i : c75.li 0 = [0] ∧ c75.li 1 = [0] ∧ c75.li 2 = [] ∧ c75.li 3 = [0] ∧ c75.li 4 = [] ∧ c75.li 5 = [] := ⟨rfl, rfl, rfl, rfl, rfl, rfl⟩
@[go_sem] theorem c75_r0 (v0 : Option Addr) : RP c75 0 [(0, v0)] K =
 (K [(0, v0)]) := by kernel_rfl
@[go_sem] theorem c75_r1 (v0 : Option Addr) : RP c75 1 [(0, v0)] K =
 (cal eB Tryz.prog 83 #[v0] fun (y1_ : Bool) => (K [(0, v0), (3, y1_)])) := by kernel_rfl
@[go_sem] theorem c75_r2 : RP c75 2 [] K =
 (K [(2, .int .i64 11)]) := by kernel_rfl
@[go_sem] theorem c75_r3 (v0 : Option Addr) : RP c75 3 [(0, v0)] K =
 (nn v0 fun y1_ => (ld eB (y1_.add 6) fun (y2_ : Bool) => (K [(6, y2_)]))) := by kernel_rfl
@[go_sem] theorem c75_r4 : RP c75 4 [] K =
 (K [(2, .int .i64 9)]) := by kernel_rfl
@[go_sem] theorem c75_r5 : RP c75 5 [] K =
 (K [(2, .int .i64 0)]) := by kernel_rfl
@[go_sem] theorem c75_o : c75.lo 1000000 = [2] := rfl
@[go_sem] theorem c75_e (v2 : Int) : RTp c75 [(2, v2)] k = (k (v2)) := by kernel_rfl
theorem c75_ok : (c75.P.follows .mixedOrders && okc c75 c75.body) = true := by kernel_rfl
theorem c75_fn (hρ : envA 0 args.toList = ρ) (hs : Nat.ble args.size 11 = true) (h : E L (D c75 (.seq (.reg 0) (.seq (.block 0 (.seq (.reg 1) (.cond (.tmp 3) (.seq (.reg 2) (.ret)) (.seq (.reg 3) (.cond (.tmp 6) (.seq (.reg 4) (.ret)) (.skip)))))) (.seq (.reg 5) (.ret)))) (fnQ c75 e G) ρ)) : E L (cal e Tryz.prog 75 args G) :=
  d_fn (c := c75) Tryz.func75 (by kernel_rfl) (by kernel_rfl) (by kernel_rfl) c75_ok (by kernel_rfl) (by kernel_rfl) hρ hs h
noncomputable def c76 := cf Tryz.f76 23 [(0, [0, 1]), (1, [0, 1]), (2, []), (3, [0, 1]), (4, [0, 1, 6]), (5, [6])] [(0, [0, 1]), (1, [0, 1, 11]), (2, [4, 5]), (3, [0, 1, 6]), (4, [6]), (5, [4, 5]), (1000000, [4, 5])] [] []
@[go_sem] theorem c76_i : c76.li 0 = [0, 1] ∧ c76.li 1 = [0, 1] ∧ c76.li 2 = [] ∧ c76.li 3 = [0, 1] ∧ c76.li 4 = [0, 1, 6] ∧ c76.li 5 = [6] := ⟨rfl, rfl, rfl, rfl, rfl, rfl⟩
@[go_sem] theorem c76_r0 (v0 : Option Addr) (v1 : List UInt8) : RP c76 0 [(0, v0), (1, str v1)] K =
 (K [(0, v0), (1, str v1)]) := by kernel_rfl
@[go_sem] theorem c76_r1 (v0 : Option Addr) (v1 : List UInt8) : RP c76 1 [(0, v0), (1, str v1)] K =
 (cal eI Tryz.prog 30 #[v0] fun (y1_ : Int) => (K [(0, v0), (1, str v1), (11, decide (y1_ < (v1.length : Int)))])) := by kernel_rfl
@[go_sem] theorem c76_r2 : RP c76 2 [] K =
 (K [(4, .int .i64 0), (5, .int .i64 7)]) := by kernel_rfl
@[go_sem] theorem c76_r3 (v0 : Option Addr) (v1 : List UInt8) : RP c76 3 [(0, v0), (1, str v1)] K =
 (cal eI Tryz.prog 28 #[v0] fun (y1_ : Int) => (K [(0, v0), (1, str v1), (6, y1_)])) := by kernel_rfl
@[go_sem] theorem c76_r4 (v0 : Option Addr) (v1 : List UInt8) (v6 : Int) : RP c76 4 [(0, v0), (1, str v1), (6, v6)] K =
 (nn v0 fun y1_ => (ld eS (y1_.add 4) fun (y2_ : List UInt8) => (rq ((y2_.length : Int) + (v1.length : Int) ≤ 9223372036854775807) (nn v0 fun y3_ => (st (y3_.add 4) (str (y2_ ++ v1)) (K [(6, v6)])))))) := by kernel_rfl
@[go_sem] theorem c76_r5 (v6 : Int) : RP c76 5 [(6, v6)] K =
 (K [(4, v6), (5, .int .i64 0)]) := by kernel_rfl
@[go_sem] theorem c76_o : c76.lo 1000000 = [4, 5] := rfl
@[go_sem] theorem c76_e (v4 v5 : Int) : RTp c76 [(4, v4), (5, v5)] k = (k (.tuple #[v4, v5])) := by kernel_rfl
theorem c76_ok : (c76.P.follows .mixedOrders && okc c76 c76.body) = true := by kernel_rfl
theorem c76_fn (hρ : envA 0 args.toList = ρ) (hs : Nat.ble args.size 23 = true) (h : E L (D c76 (.seq (.reg 0) (.seq (.seq (.reg 1) (.cond (.tmp 11) (.seq (.reg 2) (.ret)) (.skip))) (.seq (.reg 3) (.seq (.reg 4) (.seq (.reg 5) (.ret)))))) (fnQ c76 e G) ρ)) : E L (cal e Tryz.prog 76 args G) :=
  d_fn (c := c76) Tryz.func76 (by kernel_rfl) (by kernel_rfl) (by kernel_rfl) c76_ok (by kernel_rfl) (by kernel_rfl) hρ hs h
noncomputable def c77 := cf Tryz.f77 68 [(0, [0, 1]), (1, [0, 1]), (2, []), (3, [0, 1]), (4, [0, 1, 5]), (5, [0, 1, 5, 6]), (6, [0, 1, 5, 6]), (7, [0, 1, 5, 6]), (8, [0, 1, 5, 7])] [(0, [0, 1]), (1, [0, 1, 14]), (2, [4]), (3, [0, 1, 5]), (4, [0, 1, 5, 6]), (5, [0, 1, 5, 6]), (6, [0, 1, 5, 6]), (7, [0, 1, 5, 7]), (8, [4]), (1000000, [4])] [(3, (true, [(0, 1), (1, 1), (2, 1), (3, 0), (4, 1), (5, 1), (6, 1), (7, 1), (8, 1), (9, 0), (10, 1), (11, 1), (12, 1), (13, 1), (14, 1), (15, 1), (16, 1), (17, 1), (18, 0), (19, 1), (20, 1), (21, 1), (22, 1)])), (8, (true, [(0, 1), (1, 1), (2, 1), (3, 0), (4, 1), (5, 1), (6, 1), (7, 0), (8, 1), (9, 1), (10, 1), (11, 1), (12, 1), (13, 4), (14, 1)]))] []
@[go_sem] theorem c77_i : c77.li 0 = [0, 1] ∧ c77.li 1 = [0, 1] ∧ c77.li 2 = [] ∧ c77.li 3 = [0, 1] ∧ c77.li 4 = [0, 1, 5] ∧ c77.li 5 = [0, 1, 5, 6] ∧ c77.li 6 = [0, 1, 5, 6] ∧ c77.li 7 = [0, 1, 5, 6] ∧ c77.li 8 = [0, 1, 5, 7] := ⟨rfl, rfl, rfl, rfl, rfl, rfl, rfl, rfl, rfl⟩
@[go_sem] theorem c77_r0 (v0 : Option Addr) (v1 : Int) : RP c77 0 [(0, v0), (1, v1)] K =
 (K [(0, v0), (1, v1)]) := by kernel_rfl
@[go_sem] theorem c77_r1 (v0 : Option Addr) (v1 : Int) : RP c77 1 [(0, v0), (1, v1)] K =
 (nn v0 fun y1_ => (ld eI (y1_.add 2) fun (y2_ : Int) => (K [(0, v0), (1, v1), (14, decide (y2_ ≤ v1))]))) := by kernel_rfl
@[go_sem] theorem c77_r2 : RP c77 2 [] K =
 (K [(4, .int .i64 0)]) := by kernel_rfl
@[go_sem] theorem c77_r3 (v0 : Option Addr) (v1 : Int) : RP c77 3 [(0, v0), (1, v1)] K =
 (ph fun S0 => (nn v0 fun y1_ => (ldq S0 eS (y1_.add 4) fun (y2_ : List UInt8) => (nn v0 fun y3_ => (ldq S0 eS (y3_.add 4) fun (y4_ : List UInt8) => (nn v0 fun y5_ => (ldq S0 eS (y5_.add 4) fun (y6_ : List UInt8) => (rq (0 ≤ ((if (y4_.length : Int) < (IntKind.wrap .i64 (v1 * 58)) then (y4_.length : Int) else (IntKind.wrap .i64 (v1 * 58))) : Int) ∧ (if (y4_.length : Int) < (IntKind.wrap .i64 (v1 * 58)) then (y4_.length : Int) else (IntKind.wrap .i64 (v1 * 58))) ≤ (if (y6_.length : Int) < (IntKind.wrap .i64 ((IntKind.wrap .i64 (v1 + 1)) * 58)) then (y6_.length : Int) else (IntKind.wrap .i64 ((IntKind.wrap .i64 (v1 + 1)) * 58))) ∧ (if (y6_.length : Int) < (IntKind.wrap .i64 ((IntKind.wrap .i64 (v1 + 1)) * 58)) then (y6_.length : Int) else (IntKind.wrap .i64 ((IntKind.wrap .i64 (v1 + 1)) * 58))) ≤ (y2_.length : Int)) (K [(0, v0), (1, v1), (5, str (ss y2_ (if (y4_.length : Int) < (IntKind.wrap .i64 (v1 * 58)) then (y4_.length : Int) else (IntKind.wrap .i64 (v1 * 58))) (if (y6_.length : Int) < (IntKind.wrap .i64 ((IntKind.wrap .i64 (v1 + 1)) * 58)) then (y6_.length : Int) else (IntKind.wrap .i64 ((IntKind.wrap .i64 (v1 + 1)) * 58)))))]))))))))) := by kernel_rfl
@[go_sem] theorem c77_r4 (v0 : Option Addr) (v1 : Int) (v5 : List UInt8) : RP c77 4 [(0, v0), (1, v1), (5, str v5)] K =
 (nwc #[str ((⟨([] : List UInt8), (0 : Int)⟩ : pack_Writer).s), .int .i64 ((⟨([] : List UInt8), (0 : Int)⟩ : pack_Writer).e)] 153 fun y1_ => (K [(0, v0), (1, v1), (5, str v5), (6, y1_)])) := by kernel_rfl
@[go_sem] theorem c77_r5 (v0 : Option Addr) (v1 : Int) (v5 : List UInt8) (v6 : Addr) : RP c77 5 [(0, v0), (1, v1), (5, str v5), (6, v6)] K =
 (nn v0 fun y1_ => (ld eI (y1_.add 3) fun (y2_ : Int) => (cal eN Tryz.prog 103 #[v6, y2_, .int .i64 4] fun (y3_ : Unit) => (K [(0, v0), (1, v1), (5, str v5), (6, v6)])))) := by kernel_rfl
@[go_sem] theorem c77_r6 (v0 : Option Addr) (v1 : Int) (v5 : List UInt8) (v6 : Addr) : RP c77 6 [(0, v0), (1, v1), (5, str v5), (6, v6)] K =
 (cal eN Tryz.prog 103 #[v6, .int .i64 (v5.length : Int), .int .i64 2] fun (y1_ : Unit) => (K [(0, v0), (1, v1), (5, str v5), (6, v6)])) := by kernel_rfl
@[go_sem] theorem c77_r7 (v0 : Option Addr) (v1 : Int) (v5 : List UInt8) (v6 : Addr) : RP c77 7 [(0, v0), (1, v1), (5, str v5), (6, v6)] K =
 (cal (eT2 eS eI) Tryz.prog 108 #[v6] fun (y1_ : ((List UInt8) × Int)) => (K [(0, v0), (1, v1), (5, str v5), (7, str y1_.1)])) := by kernel_rfl
@[go_sem] theorem c77_r8 (v0 : Option Addr) (v1 : Int) (v5 v7 : List UInt8) : RP c77 8 [(0, v0), (1, v1), (5, str v5), (7, str v7)] K =
 (ph fun S0 => (nn v0 fun y1_ => (ldq S0 eP y1_ fun (y2_ : Option Addr) => (nn v0 fun y3_ => (ldq S0 eI (y3_.add 1) fun (y4_ : Int) => (rq ((v7.length : Int) + (v5.length : Int) ≤ 9223372036854775807) (cal eI Tryz.prog 24 #[y2_, IntKind.wrap .i64 (y4_ + v1), str (v7 ++ v5)] fun (y5_ : Int) => (K [(4, y5_)])))))))) := by kernel_rfl
@[go_sem] theorem c77_o : c77.lo 1000000 = [4] := rfl
@[go_sem] theorem c77_e (v4 : Int) : RTp c77 [(4, v4)] k = (k (v4)) := by kernel_rfl
theorem c77_ok : (c77.P.follows .mixedOrders && okc c77 c77.body) = true := by kernel_rfl
theorem c77_fn (hρ : envA 0 args.toList = ρ) (hs : Nat.ble args.size 68 = true) (h : E L (D c77 (.seq (.reg 0) (.seq (.seq (.reg 1) (.cond (.tmp 14) (.seq (.reg 2) (.ret)) (.skip))) (.seq (.reg 3) (.seq (.reg 4) (.seq (.reg 5) (.seq (.reg 6) (.seq (.reg 7) (.seq (.reg 8) (.ret))))))))) (fnQ c77 e G) ρ)) : E L (cal e Tryz.prog 77 args G) :=
  d_fn (c := c77) Tryz.func77 (by kernel_rfl) (by kernel_rfl) (by kernel_rfl) c77_ok (by kernel_rfl) (by kernel_rfl) hρ hs h
noncomputable def c78 := cf Tryz.f78 11 [(0, [0, 1]), (1, [0, 1]), (2, [0, 1]), (3, [1])] [(0, [0, 1]), (1, [0, 1, 6]), (2, [1]), (3, [4]), (1000000, [4])] [] []
@[go_sem] theorem c78_i : c78.li 0 = [0, 1] ∧ c78.li 1 = [0, 1] ∧ c78.li 2 = [0, 1] ∧ c78.li 3 = [1] := ⟨rfl, rfl, rfl, rfl⟩
@[go_sem] theorem c78_r0 (v0 : Option Addr) (v1 : Int) : RP c78 0 [(0, v0), (1, v1)] K =
 (K [(0, v0), (1, v1)]) := by kernel_rfl
@[go_sem] theorem c78_r1 (v0 : Option Addr) (v1 : Int) : RP c78 1 [(0, v0), (1, v1)] K =
 (K [(0, v0), (1, v1), (6, .bool (v1 != 0))]) := by kernel_rfl
@[go_sem] theorem c78_r2 (v0 : Option Addr) (v1 : Int) : RP c78 2 [(0, v0), (1, v1)] K =
 (nn v0 fun y1_ => (st (y1_.add 6) (true) (K [(1, v1)]))) := by kernel_rfl
@[go_sem] theorem c78_r3 (v1 : Int) : RP c78 3 [(1, v1)] K =
 (K [(4, v1)]) := by kernel_rfl
@[go_sem] theorem c78_o : c78.lo 1000000 = [4] := rfl
@[go_sem] theorem c78_e (v4 : Int) : RTp c78 [(4, v4)] k = (k (v4)) := by kernel_rfl
theorem c78_ok : (c78.P.follows .mixedOrders && okc c78 c78.body) = true := by kernel_rfl
theorem c78_fn (hρ : envA 0 args.toList = ρ) (hs : Nat.ble args.size 11 = true) (h : E L (D c78 (.seq (.reg 0) (.seq (.seq (.reg 1) (.cond (.tmp 6) (.reg 2) (.skip))) (.seq (.reg 3) (.ret)))) (fnQ c78 e G) ρ)) : E L (cal e Tryz.prog 78 args G) :=
  d_fn (c := c78) Tryz.func78 (by kernel_rfl) (by kernel_rfl) (by kernel_rfl) c78_ok (by kernel_rfl) (by kernel_rfl) hρ hs h
noncomputable def c83 := cf Tryz.f83 12 [(0, [0]), (1, [0])] [(0, [0]), (1, [2]), (1000000, [2])] [] []
@[go_sem] theorem c83_i : c83.li 0 = [0] ∧ c83.li 1 = [0] := ⟨rfl, rfl⟩
@[go_sem] theorem c83_r0 (v0 : Option Addr) : RP c83 0 [(0, v0)] K =
 (K [(0, v0)]) := by kernel_rfl
@[go_sem] theorem c83_r1 (v0 : Option Addr) : RP c83 1 [(0, v0)] K =
 (cnd (v0.isNone) (K [(2, true)]) (nn v0 fun y1_ => (ld eP y1_ fun (y2_ : Option Addr) => (K [(2, .bool (y2_.isNone))])))) := by kernel_rfl
@[go_sem] theorem c83_o : c83.lo 1000000 = [2] := rfl
@[go_sem] theorem c83_e (v2 : Bool) : RTp c83 [(2, v2)] k = (k (v2)) := by kernel_rfl
theorem c83_ok : (c83.P.follows .mixedOrders && okc c83 c83.body) = true := by kernel_rfl
theorem c83_fn (hρ : envA 0 args.toList = ρ) (hs : Nat.ble args.size 12 = true) (h : E L (D c83 (.seq (.reg 0) (.seq (.reg 1) (.ret))) (fnQ c83 e G) ρ)) : E L (cal e Tryz.prog 83 args G) :=
  d_fn (c := c83) Tryz.func83 (by kernel_rfl) (by kernel_rfl) (by kernel_rfl) c83_ok (by kernel_rfl) (by kernel_rfl) hρ hs h
end Go.Sp
