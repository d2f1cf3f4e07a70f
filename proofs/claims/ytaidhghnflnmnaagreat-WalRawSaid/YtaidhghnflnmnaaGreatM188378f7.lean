/- Texts of a proof, one behind the other: M2 K23 K24 M3 M4 M5 Grr0 M6 M7. No condition. -/
import Derived.Test.YtaidhghnflnmnaaGreatMef586ca4
import Derived.Test.YtaidhghnflnmnaaGreatM5b477d79
import Derived.OpenShut
/- Records: what is laid. -/
namespace Go.Sp
open Go Go.Proofs
set_option linter.unusedSimpArgs false
set_option linter.unusedVariables false
set_option maxRecDepth 10000
abbrev cImg (x : api_Image) : List Value := [.int .i64 x.Page, str x.Text]
theorem cImg_len (x : api_Image) : (cImg x).length = 2 := rfl
abbrev cAct (x : api_Active) : List Value := [.int .i64 x.Txn, .int .i64 x.Last]
theorem cAct_len (x : api_Active) : (cAct x).length = 2 := rfl
/-- A record with its pages and its transactions. -/
structure Rc where
  kind : Int
  txn : Int
  prev : Int
  page : Int
  act : Int
  key : List UInt8
  old : List UInt8
  nw : List UInt8
  next : Int
  imgs : List api_Image
  tbl : List api_Active
  epoch : Int
  node : Int
def Rc.of (r : api_Rec) (is : List api_Image) (tb : List api_Active) : Rc := ⟨r.Kind, r.Txn, r.Prev, r.Page, r.Act, r.Key, r.Old, r.New, r.Next, is, tb, r.Epoch, r.Node⟩
/-- What lies in memory is the record. -/
structure RcAt (A : HP) (r : api_Rec) (c : Rc) : Prop where
  e : c = Rc.of r c.imgs c.tbl
  i : Rs A r.Images 2 (c.imgs.flatMap cImg)
  t : Rs A r.Table 2 (c.tbl.flatMap cAct)
  li : c.imgs.length ≤ 255
  lt : c.tbl.length ≤ 255
def layN (x : Wt) (n : Int) (w : Nat) : Wt := lay1 x (putN x.1 n w)
def layT (x : Wt) (t : List UInt8) : Wt := lay1 x (putT x.1 t)
theorem layN_len (x : Wt) (n : Int) (w : Nat) : (layN x n w).1.length ≤ x.1.length + w := by
  unfold layN lay1 putN
  split
  · omega
  · split
    · simp
    · split
      · simp
      · simp [lowb_len]
theorem layT_len (x : Wt) (t : List UInt8) : (layT x t).1.length ≤ x.1.length + 65540 := by
  unfold layT lay1 putT
  split
  · omega
  · split
    · simp
    · split
      · simp
      · simp [lowb_len]; omega
theorem gN (q : Nat) (x : Wt) (n : Int) (w : Nat) (h1 : 1 ≤ w) (h6 : w ≤ 6) (hs : x.1.length ≤ 2305843009213693952) :
    Fq eN Tryz.prog 103 #[.pointer (some ⟨q, 0, none⟩), .int .i64 n, .int .i64 (w : Int)] [wr q x] [wr q (layN x n w)] () := f95 q x n w h1 h6 hs
theorem gT (q : Nat) (x : Wt) (t : List UInt8) (hs : x.1.length ≤ 2305843009213693952) :
    Fq eN Tryz.prog 127 #[.pointer (some ⟨q, 0, none⟩), str t] [wr q x] [wr q (layT x t)] () := f94 q x t hs
def cutP (key o n : List UInt8) : Int := if 16 < key.length then 17 else if 32 < o.length then 18 else if 32 < n.length then 18 else 0
theorem g105 (key o n : List UInt8) (b : Nat) : Fp eI Tryz.prog 105 #[str key, .slice (some ⟨b, 0, none⟩) 2 2] [ar b 9 [str o, str n]] (cutP key o n) := fun L => by
  refine c105_fn rfl rfl ?_
  unfold cutP
  repeat' ((fail_if_success with_reducible refine nph ?_); first | (with_reducible first | (refine d_seq ?_; intro K hK) | (refine hK _ _ ?_; clear hK K) | (refine SG.p ?_; try intro b)) | ((with_reducible refine SC.p ?_); refine And.intro ?_ ?_) <;> intro hc <;> try simp only [push_cast, Int.reduceEq, Int.reduceLT, Int.reduceLE, Int.reduceNe] at hc | with_reducible refine r_rq (by first | decide | omega) ?_ | ((with_reducible refine SL.p ?_); first | refine ⟨_, rfl, ?_⟩ | refine ⟨_, _, _, rfl, ?_⟩ | (refine ⟨?_, rfl, ?_⟩; focus (simp; done))) | ((with_reducible first | apply i_ldn | apply i_ldnq); exact rfl; exact rfl; exact rfl) | ((try with_reducible refine d_reg ?_); simp only [go_sem, Nat.reduceAdd, Nat.reduceEqDiff, Int.reduceToNat, Nat.reduceMul, Nat.reduceSub]) | clear hK K)
  · (with_reducible first | apply i_ret0 | apply i_ret2 | apply i_ret3 | apply i_ret); exact rfl
    rw [if_pos (by omega)]
  · rw [if_neg (by omega)]
    refine d_lp [10, 11, 12] (fun i : Nat => [(10, .slice (some ⟨b, 0, none⟩) 2 2), (11, .int .i64 2), (12, .int .i64 (i : Int))])
      (fun _ => ar b 9 [str o, str n] :: L) (fun i => i ≤ 2 ∧ (1 ≤ i → o.length ≤ 32) ∧ (2 ≤ i → n.length ≤ 32)) (fun i => 2 - i) 0 rfl SX.p ⟨by omega, by omega, by omega⟩ ?_
    rintro i ⟨hi, h1, h2⟩
    by_cases i0 : i = 0
    · subst i0
      repeat' (first | (with_reducible first | (refine d_seq ?_; intro K hK) | (refine hK _ _ ?_; clear hK K) | (refine SG.p ?_; try intro b)) | ((with_reducible refine SC.p ?_); refine And.intro ?_ ?_) <;> intro hc <;> try simp only [push_cast, Int.reduceEq, Int.reduceLT, Int.reduceLE, Int.reduceNe] at hc | with_reducible refine r_rq (by first | decide | omega) ?_ | ((with_reducible refine SL.p ?_); first | refine ⟨_, rfl, ?_⟩ | refine ⟨_, _, _, rfl, ?_⟩ | (refine ⟨?_, rfl, ?_⟩; focus (simp; done))) | ((with_reducible first | apply i_ldn | apply i_ldnq); exact rfl; exact rfl; exact rfl) | ((try with_reducible refine d_reg ?_); simp only [go_sem, Nat.reduceAdd, Nat.reduceEqDiff, Int.reduceToNat, Nat.reduceMul, Nat.reduceSub]) | clear hK K)
      all_goals try (exfalso; omega)
      · (with_reducible first | apply i_ret0 | apply i_ret2 | apply i_ret3 | apply i_ret); exact rfl
        rw [if_pos (by omega)]
      · exact i_bk 1 rfl ⟨by omega, by omega, by omega⟩ (by omega)
    · by_cases i1 : i = 1
      · subst i1
        have h1 := h1 (by omega)
        repeat' (first | (with_reducible first | (refine d_seq ?_; intro K hK) | (refine hK _ _ ?_; clear hK K) | (refine SG.p ?_; try intro b)) | ((with_reducible refine SC.p ?_); refine And.intro ?_ ?_) <;> intro hc <;> try simp only [push_cast, Int.reduceEq, Int.reduceLT, Int.reduceLE, Int.reduceNe] at hc | with_reducible refine r_rq (by first | decide | omega) ?_ | ((with_reducible refine SL.p ?_); first | refine ⟨_, rfl, ?_⟩ | refine ⟨_, _, _, rfl, ?_⟩ | (refine ⟨?_, rfl, ?_⟩; focus (simp; done))) | ((with_reducible first | apply i_ldn | apply i_ldnq); exact rfl; exact rfl; exact rfl) | ((try with_reducible refine d_reg ?_); simp only [go_sem, Nat.reduceAdd, Nat.reduceEqDiff, Int.reduceToNat, Nat.reduceMul, Nat.reduceSub]) | clear hK K)
        all_goals try (exfalso; omega)
        · (with_reducible first | apply i_ret0 | apply i_ret2 | apply i_ret3 | apply i_ret); exact rfl
          rw [if_neg (by omega), if_pos (by omega)]
        · exact i_bk 2 rfl ⟨by omega, by omega, by omega⟩ (by omega)
      · obtain rfl : i = 2 := by omega
        have h1 := h1 (by omega)
        have h2 := h2 (by omega)
        repeat' (first | (with_reducible first | (refine d_seq ?_; intro K hK) | (refine hK _ _ ?_; clear hK K) | (refine SG.p ?_; try intro b)) | ((with_reducible refine SC.p ?_); refine And.intro ?_ ?_) <;> intro hc <;> try simp only [push_cast, Int.reduceEq, Int.reduceLT, Int.reduceLE, Int.reduceNe] at hc | with_reducible refine r_rq (by first | decide | omega) ?_ | ((with_reducible refine SL.p ?_); first | refine ⟨_, rfl, ?_⟩ | refine ⟨_, _, _, rfl, ?_⟩ | (refine ⟨?_, rfl, ?_⟩; focus (simp; done))) | ((with_reducible first | apply i_ldn | apply i_ldnq); exact rfl; exact rfl; exact rfl) | ((try with_reducible refine d_reg ?_); simp only [go_sem, Nat.reduceAdd, Nat.reduceEqDiff, Int.reduceToNat, Nat.reduceMul, Nat.reduceSub]) | clear hK K)
        all_goals try (exfalso; omega)
        (with_reducible first | apply i_ret0 | apply i_ret2 | apply i_ret3 | apply i_ret); exact rfl
        simp only [show ¬ 16 < key.length by omega, show ¬ 32 < o.length by omega, show ¬ 32 < n.length by omega, if_false]
def lnk (x : Wt) (r : api_Rec) : Wt := layN (layN x r.Txn 6) r.Prev 6
theorem g106 (q : Nat) (x : Wt) (r : api_Rec) (hs : x.1.length ≤ 1000000000) : Fq eN Tryz.prog 106 #[.pointer (some ⟨q, 0, none⟩), v_api_Rec r] [wr q x] [wr q (lnk x r)] () := fun L => by
  have h1 := layN_len x r.Txn 6
  unfold lnk
  refine c106_fn rfl rfl ?_
  repeat' ((fail_if_success with_reducible refine nph ?_); first | (with_reducible first | (refine d_seq ?_; intro K hK) | (refine hK _ _ ?_; clear hK K) | (refine SG.p ?_; try intro b)) | ((with_reducible refine SC.p ?_); refine And.intro ?_ ?_) <;> intro hc <;> try simp only [push_cast, Int.reduceEq, Int.reduceLT, Int.reduceLE, Int.reduceNe] at hc | with_reducible refine r_rq (by first | decide | omega) ?_ | ((with_reducible refine SL.p ?_); first | refine ⟨_, rfl, ?_⟩ | refine ⟨_, _, _, rfl, ?_⟩ | (refine ⟨?_, rfl, ?_⟩; focus (simp; done))) | ((with_reducible first | apply i_ldn | apply i_ldnq); exact rfl; exact rfl; exact rfl) | ((try with_reducible refine d_reg ?_); simp only [go_sem, Nat.reduceAdd, Nat.reduceEqDiff, Int.reduceToNat, Nat.reduceMul, Nat.reduceSub]) | clear hK K)
  refine i_clq (gN q x r.Txn 6 (by decide) (by decide) (by omega)) ?_
  repeat' ((fail_if_success with_reducible refine nph ?_); first | (with_reducible first | (refine d_seq ?_; intro K hK) | (refine hK _ _ ?_; clear hK K) | (refine SG.p ?_; try intro b)) | ((with_reducible refine SC.p ?_); refine And.intro ?_ ?_) <;> intro hc <;> try simp only [push_cast, Int.reduceEq, Int.reduceLT, Int.reduceLE, Int.reduceNe] at hc | with_reducible refine r_rq (by first | decide | omega) ?_ | ((with_reducible refine SL.p ?_); first | refine ⟨_, rfl, ?_⟩ | refine ⟨_, _, _, rfl, ?_⟩ | (refine ⟨?_, rfl, ?_⟩; focus (simp; done))) | ((with_reducible first | apply i_ldn | apply i_ldnq); exact rfl; exact rfl; exact rfl) | ((try with_reducible refine d_reg ?_); simp only [go_sem, Nat.reduceAdd, Nat.reduceEqDiff, Int.reduceToNat, Nat.reduceMul, Nat.reduceSub]) | clear hK K)
  refine i_clq (gN q (layN x r.Txn 6) r.Prev 6 (by decide) (by decide) (by omega)) ?_
  repeat' ((fail_if_success with_reducible refine nph ?_); first | (with_reducible first | (refine d_seq ?_; intro K hK) | (refine hK _ _ ?_; clear hK K) | (refine SG.p ?_; try intro b)) | ((with_reducible refine SC.p ?_); refine And.intro ?_ ?_) <;> intro hc <;> try simp only [push_cast, Int.reduceEq, Int.reduceLT, Int.reduceLE, Int.reduceNe] at hc | with_reducible refine r_rq (by first | decide | omega) ?_ | ((with_reducible refine SL.p ?_); first | refine ⟨_, rfl, ?_⟩ | refine ⟨_, _, _, rfl, ?_⟩ | (refine ⟨?_, rfl, ?_⟩; focus (simp; done))) | ((with_reducible first | apply i_ldn | apply i_ldnq); exact rfl; exact rfl; exact rfl) | ((try with_reducible refine d_reg ?_); simp only [go_sem, Nat.reduceAdd, Nat.reduceEqDiff, Int.reduceToNat, Nat.reduceMul, Nat.reduceSub]) | clear hK K)
  (with_reducible first | apply i_ret0 | apply i_ret2 | apply i_ret3 | apply i_ret); exact rfl
def chgO (x : Wt) (r : api_Rec) (act : Int) : Wt := if act = 3 then layT (layN x r.Page 2) r.Key else layT (layT (layN x r.Page 2) r.Key) r.Old
def chg (x : Wt) (r : api_Rec) (act : Int) : Wt := if act = 4 then chgO x r act else layT (chgO x r act) r.New
theorem g107 (q : Nat) (x : Wt) (r : api_Rec) (act : Int) (hs : x.1.length ≤ 1000000000) : Fq eN Tryz.prog 107 #[.pointer (some ⟨q, 0, none⟩), v_api_Rec r, .int .i64 act] [wr q x] [wr q (chg x r act)] () := fun L => by
  have h1 := layN_len x r.Page 2
  have h2 := layT_len (layN x r.Page 2) r.Key
  have h3 := layT_len (layT (layN x r.Page 2) r.Key) r.Old
  unfold chg chgO
  refine c107_fn rfl rfl ?_
  by_cases a3 : act = 3
  · rw [if_pos a3, if_neg (by omega)]
    repeat' ((fail_if_success with_reducible refine nph ?_); first | (with_reducible first | (refine d_seq ?_; intro K hK) | (refine hK _ _ ?_; clear hK K) | (refine SG.p ?_; try intro b)) | ((with_reducible refine SC.p ?_); refine And.intro ?_ ?_) <;> intro hc <;> try simp only [push_cast, Int.reduceEq, Int.reduceLT, Int.reduceLE, Int.reduceNe] at hc | with_reducible refine r_rq (by first | decide | omega) ?_ | ((with_reducible refine SL.p ?_); first | refine ⟨_, rfl, ?_⟩ | refine ⟨_, _, _, rfl, ?_⟩ | (refine ⟨?_, rfl, ?_⟩; focus (simp; done))) | ((with_reducible first | apply i_ldn | apply i_ldnq); exact rfl; exact rfl; exact rfl) | ((try with_reducible refine d_reg ?_); simp only [go_sem, Nat.reduceAdd, Nat.reduceEqDiff, Int.reduceToNat, Nat.reduceMul, Nat.reduceSub]) | clear hK K)
    refine i_clq (gN q x r.Page 2 (by decide) (by decide) (by omega)) ?_
    repeat' ((fail_if_success with_reducible refine nph ?_); first | (with_reducible first | (refine d_seq ?_; intro K hK) | (refine hK _ _ ?_; clear hK K) | (refine SG.p ?_; try intro b)) | ((with_reducible refine SC.p ?_); refine And.intro ?_ ?_) <;> intro hc <;> try simp only [push_cast, Int.reduceEq, Int.reduceLT, Int.reduceLE, Int.reduceNe] at hc | with_reducible refine r_rq (by first | decide | omega) ?_ | ((with_reducible refine SL.p ?_); first | refine ⟨_, rfl, ?_⟩ | refine ⟨_, _, _, rfl, ?_⟩ | (refine ⟨?_, rfl, ?_⟩; focus (simp; done))) | ((with_reducible first | apply i_ldn | apply i_ldnq); exact rfl; exact rfl; exact rfl) | ((try with_reducible refine d_reg ?_); simp only [go_sem, Nat.reduceAdd, Nat.reduceEqDiff, Int.reduceToNat, Nat.reduceMul, Nat.reduceSub]) | clear hK K)
    refine i_clq (gT q (layN x r.Page 2) r.Key (by omega)) ?_
    repeat' ((fail_if_success with_reducible refine nph ?_); first | (with_reducible first | (refine d_seq ?_; intro K hK) | (refine hK _ _ ?_; clear hK K) | (refine SG.p ?_; try intro b)) | ((with_reducible refine SC.p ?_); refine And.intro ?_ ?_) <;> intro hc <;> try simp only [push_cast, Int.reduceEq, Int.reduceLT, Int.reduceLE, Int.reduceNe] at hc | with_reducible refine r_rq (by first | decide | omega) ?_ | ((with_reducible refine SL.p ?_); first | refine ⟨_, rfl, ?_⟩ | refine ⟨_, _, _, rfl, ?_⟩ | (refine ⟨?_, rfl, ?_⟩; focus (simp; done))) | ((with_reducible first | apply i_ldn | apply i_ldnq); exact rfl; exact rfl; exact rfl) | ((try with_reducible refine d_reg ?_); simp only [go_sem, Nat.reduceAdd, Nat.reduceEqDiff, Int.reduceToNat, Nat.reduceMul, Nat.reduceSub]) | clear hK K)
    all_goals try (first | contradiction | (simp only [ reduceCtorEq] at *; done) | (exfalso; omega))
    refine i_clq (gT q (layT (layN x r.Page 2) r.Key) r.New (by omega)) ?_
    repeat' ((fail_if_success with_reducible refine nph ?_); first | (with_reducible first | (refine d_seq ?_; intro K hK) | (refine hK _ _ ?_; clear hK K) | (refine SG.p ?_; try intro b)) | ((with_reducible refine SC.p ?_); refine And.intro ?_ ?_) <;> intro hc <;> try simp only [push_cast, Int.reduceEq, Int.reduceLT, Int.reduceLE, Int.reduceNe] at hc | with_reducible refine r_rq (by first | decide | omega) ?_ | ((with_reducible refine SL.p ?_); first | refine ⟨_, rfl, ?_⟩ | refine ⟨_, _, _, rfl, ?_⟩ | (refine ⟨?_, rfl, ?_⟩; focus (simp; done))) | ((with_reducible first | apply i_ldn | apply i_ldnq); exact rfl; exact rfl; exact rfl) | ((try with_reducible refine d_reg ?_); simp only [go_sem, Nat.reduceAdd, Nat.reduceEqDiff, Int.reduceToNat, Nat.reduceMul, Nat.reduceSub]) | clear hK K)
    (with_reducible first | apply i_ret0 | apply i_ret2 | apply i_ret3 | apply i_ret); exact rfl
  · rw [if_neg a3]
    by_cases a4 : act = 4
    · rw [if_pos a4]
      repeat' ((fail_if_success with_reducible refine nph ?_); first | (with_reducible first | (refine d_seq ?_; intro K hK) | (refine hK _ _ ?_; clear hK K) | (refine SG.p ?_; try intro b)) | ((with_reducible refine SC.p ?_); refine And.intro ?_ ?_) <;> intro hc <;> try simp only [push_cast, Int.reduceEq, Int.reduceLT, Int.reduceLE, Int.reduceNe] at hc | with_reducible refine r_rq (by first | decide | omega) ?_ | ((with_reducible refine SL.p ?_); first | refine ⟨_, rfl, ?_⟩ | refine ⟨_, _, _, rfl, ?_⟩ | (refine ⟨?_, rfl, ?_⟩; focus (simp; done))) | ((with_reducible first | apply i_ldn | apply i_ldnq); exact rfl; exact rfl; exact rfl) | ((try with_reducible refine d_reg ?_); simp only [go_sem, Nat.reduceAdd, Nat.reduceEqDiff, Int.reduceToNat, Nat.reduceMul, Nat.reduceSub]) | clear hK K)
      refine i_clq (gN q x r.Page 2 (by decide) (by decide) (by omega)) ?_
      repeat' ((fail_if_success with_reducible refine nph ?_); first | (with_reducible first | (refine d_seq ?_; intro K hK) | (refine hK _ _ ?_; clear hK K) | (refine SG.p ?_; try intro b)) | ((with_reducible refine SC.p ?_); refine And.intro ?_ ?_) <;> intro hc <;> try simp only [push_cast, Int.reduceEq, Int.reduceLT, Int.reduceLE, Int.reduceNe] at hc | with_reducible refine r_rq (by first | decide | omega) ?_ | ((with_reducible refine SL.p ?_); first | refine ⟨_, rfl, ?_⟩ | refine ⟨_, _, _, rfl, ?_⟩ | (refine ⟨?_, rfl, ?_⟩; focus (simp; done))) | ((with_reducible first | apply i_ldn | apply i_ldnq); exact rfl; exact rfl; exact rfl) | ((try with_reducible refine d_reg ?_); simp only [go_sem, Nat.reduceAdd, Nat.reduceEqDiff, Int.reduceToNat, Nat.reduceMul, Nat.reduceSub]) | clear hK K)
      refine i_clq (gT q (layN x r.Page 2) r.Key (by omega)) ?_
      repeat' ((fail_if_success with_reducible refine nph ?_); first | (with_reducible first | (refine d_seq ?_; intro K hK) | (refine hK _ _ ?_; clear hK K) | (refine SG.p ?_; try intro b)) | ((with_reducible refine SC.p ?_); refine And.intro ?_ ?_) <;> intro hc <;> try simp only [push_cast, Int.reduceEq, Int.reduceLT, Int.reduceLE, Int.reduceNe] at hc | with_reducible refine r_rq (by first | decide | omega) ?_ | ((with_reducible refine SL.p ?_); first | refine ⟨_, rfl, ?_⟩ | refine ⟨_, _, _, rfl, ?_⟩ | (refine ⟨?_, rfl, ?_⟩; focus (simp; done))) | ((with_reducible first | apply i_ldn | apply i_ldnq); exact rfl; exact rfl; exact rfl) | ((try with_reducible refine d_reg ?_); simp only [go_sem, Nat.reduceAdd, Nat.reduceEqDiff, Int.reduceToNat, Nat.reduceMul, Nat.reduceSub]) | clear hK K)
      all_goals try (first | contradiction | (simp only [ reduceCtorEq] at *; done) | (exfalso; omega))
      refine i_clq (gT q (layT (layN x r.Page 2) r.Key) r.Old (by omega)) ?_
      repeat' ((fail_if_success with_reducible refine nph ?_); first | (with_reducible first | (refine d_seq ?_; intro K hK) | (refine hK _ _ ?_; clear hK K) | (refine SG.p ?_; try intro b)) | ((with_reducible refine SC.p ?_); refine And.intro ?_ ?_) <;> intro hc <;> try simp only [push_cast, Int.reduceEq, Int.reduceLT, Int.reduceLE, Int.reduceNe] at hc | with_reducible refine r_rq (by first | decide | omega) ?_ | ((with_reducible refine SL.p ?_); first | refine ⟨_, rfl, ?_⟩ | refine ⟨_, _, _, rfl, ?_⟩ | (refine ⟨?_, rfl, ?_⟩; focus (simp; done))) | ((with_reducible first | apply i_ldn | apply i_ldnq); exact rfl; exact rfl; exact rfl) | ((try with_reducible refine d_reg ?_); simp only [go_sem, Nat.reduceAdd, Nat.reduceEqDiff, Int.reduceToNat, Nat.reduceMul, Nat.reduceSub]) | clear hK K)
      all_goals try (first | contradiction | (simp only [ reduceCtorEq] at *; done) | (exfalso; omega))
      (with_reducible first | apply i_ret0 | apply i_ret2 | apply i_ret3 | apply i_ret); exact rfl
    · rw [if_neg a4]
      repeat' ((fail_if_success with_reducible refine nph ?_); first | (with_reducible first | (refine d_seq ?_; intro K hK) | (refine hK _ _ ?_; clear hK K) | (refine SG.p ?_; try intro b)) | ((with_reducible refine SC.p ?_); refine And.intro ?_ ?_) <;> intro hc <;> try simp only [push_cast, Int.reduceEq, Int.reduceLT, Int.reduceLE, Int.reduceNe] at hc | with_reducible refine r_rq (by first | decide | omega) ?_ | ((with_reducible refine SL.p ?_); first | refine ⟨_, rfl, ?_⟩ | refine ⟨_, _, _, rfl, ?_⟩ | (refine ⟨?_, rfl, ?_⟩; focus (simp; done))) | ((with_reducible first | apply i_ldn | apply i_ldnq); exact rfl; exact rfl; exact rfl) | ((try with_reducible refine d_reg ?_); simp only [go_sem, Nat.reduceAdd, Nat.reduceEqDiff, Int.reduceToNat, Nat.reduceMul, Nat.reduceSub]) | clear hK K)
      refine i_clq (gN q x r.Page 2 (by decide) (by decide) (by omega)) ?_
      repeat' ((fail_if_success with_reducible refine nph ?_); first | (with_reducible first | (refine d_seq ?_; intro K hK) | (refine hK _ _ ?_; clear hK K) | (refine SG.p ?_; try intro b)) | ((with_reducible refine SC.p ?_); refine And.intro ?_ ?_) <;> intro hc <;> try simp only [push_cast, Int.reduceEq, Int.reduceLT, Int.reduceLE, Int.reduceNe] at hc | with_reducible refine r_rq (by first | decide | omega) ?_ | ((with_reducible refine SL.p ?_); first | refine ⟨_, rfl, ?_⟩ | refine ⟨_, _, _, rfl, ?_⟩ | (refine ⟨?_, rfl, ?_⟩; focus (simp; done))) | ((with_reducible first | apply i_ldn | apply i_ldnq); exact rfl; exact rfl; exact rfl) | ((try with_reducible refine d_reg ?_); simp only [go_sem, Nat.reduceAdd, Nat.reduceEqDiff, Int.reduceToNat, Nat.reduceMul, Nat.reduceSub]) | clear hK K)
      refine i_clq (gT q (layN x r.Page 2) r.Key (by omega)) ?_
      repeat' ((fail_if_success with_reducible refine nph ?_); first | (with_reducible first | (refine d_seq ?_; intro K hK) | (refine hK _ _ ?_; clear hK K) | (refine SG.p ?_; try intro b)) | ((with_reducible refine SC.p ?_); refine And.intro ?_ ?_) <;> intro hc <;> try simp only [push_cast, Int.reduceEq, Int.reduceLT, Int.reduceLE, Int.reduceNe] at hc | with_reducible refine r_rq (by first | decide | omega) ?_ | ((with_reducible refine SL.p ?_); first | refine ⟨_, rfl, ?_⟩ | refine ⟨_, _, _, rfl, ?_⟩ | (refine ⟨?_, rfl, ?_⟩; focus (simp; done))) | ((with_reducible first | apply i_ldn | apply i_ldnq); exact rfl; exact rfl; exact rfl) | ((try with_reducible refine d_reg ?_); simp only [go_sem, Nat.reduceAdd, Nat.reduceEqDiff, Int.reduceToNat, Nat.reduceMul, Nat.reduceSub]) | clear hK K)
      all_goals try (first | contradiction | (simp only [ reduceCtorEq] at *; done) | (exfalso; omega))
      refine i_clq (gT q (layT (layN x r.Page 2) r.Key) r.Old (by omega)) ?_
      repeat' ((fail_if_success with_reducible refine nph ?_); first | (with_reducible first | (refine d_seq ?_; intro K hK) | (refine hK _ _ ?_; clear hK K) | (refine SG.p ?_; try intro b)) | ((with_reducible refine SC.p ?_); refine And.intro ?_ ?_) <;> intro hc <;> try simp only [push_cast, Int.reduceEq, Int.reduceLT, Int.reduceLE, Int.reduceNe] at hc | with_reducible refine r_rq (by first | decide | omega) ?_ | ((with_reducible refine SL.p ?_); first | refine ⟨_, rfl, ?_⟩ | refine ⟨_, _, _, rfl, ?_⟩ | (refine ⟨?_, rfl, ?_⟩; focus (simp; done))) | ((with_reducible first | apply i_ldn | apply i_ldnq); exact rfl; exact rfl; exact rfl) | ((try with_reducible refine d_reg ?_); simp only [go_sem, Nat.reduceAdd, Nat.reduceEqDiff, Int.reduceToNat, Nat.reduceMul, Nat.reduceSub]) | clear hK K)
      all_goals try (first | contradiction | (simp only [ reduceCtorEq] at *; done) | (exfalso; omega))
      refine i_clq (gT q (layT (layT (layN x r.Page 2) r.Key) r.Old) r.New (by omega)) ?_
      repeat' ((fail_if_success with_reducible refine nph ?_); first | (with_reducible first | (refine d_seq ?_; intro K hK) | (refine hK _ _ ?_; clear hK K) | (refine SG.p ?_; try intro b)) | ((with_reducible refine SC.p ?_); refine And.intro ?_ ?_) <;> intro hc <;> try simp only [push_cast, Int.reduceEq, Int.reduceLT, Int.reduceLE, Int.reduceNe] at hc | with_reducible refine r_rq (by first | decide | omega) ?_ | ((with_reducible refine SL.p ?_); first | refine ⟨_, rfl, ?_⟩ | refine ⟨_, _, _, rfl, ?_⟩ | (refine ⟨?_, rfl, ?_⟩; focus (simp; done))) | ((with_reducible first | apply i_ldn | apply i_ldnq); exact rfl; exact rfl; exact rfl) | ((try with_reducible refine d_reg ?_); simp only [go_sem, Nat.reduceAdd, Nat.reduceEqDiff, Int.reduceToNat, Nat.reduceMul, Nat.reduceSub]) | clear hK K)
      (with_reducible first | apply i_ret0 | apply i_ret2 | apply i_ret3 | apply i_ret); exact rfl
end Go.Sp
/- An owned slice opened as a block of cells, and closed again. -/
namespace Go.Sp
open Go
section
variable {L L' R : List HP} {G : W} {t : TypeId} {sz n c : Nat} {xs cs : List Value}
theorem i_snq {α : Type} {cel : α → List Value} {A : HP} {a : Addr} {n c sz i : Nat} {xs : List α} {x : α} {e : Enc} {R : List HP} {k : e.α → W} {y : e.α} (hR : Rs A (some a, n, c) sz (xs.flatMap cel)) (hc : ∀ x, (cel x).length = sz) (hx : xs[i]? = some x) [ha : AX R A L'] (he : e.enc y = .agg (cel x).toArray) (h : E L (k y)) : E L (ldnq (HW R) e sz (a.add (i * sz)) k) :=
  r_snq hR hc hx ha.p he h
theorem i_sn {α : Type} {cel : α → List Value} {A : HP} {a : Addr} {n c sz i : Nat} {xs : List α} {x : α} {e : Enc} {k : e.α → W} {y : e.α} (hR : Rs A (some a, n, c) sz (xs.flatMap cel)) (hc : ∀ x, (cel x).length = sz) (hx : xs[i]? = some x) [ha : AX L A L'] (he : e.enc y = .agg (cel x).toArray) (h : E L (k y)) : E L (ldn e sz (a.add (i * sz)) k) :=
  r_sn hR hc hx ha.p he h
end
/-! Texts as arguments. -/
abbrev cS (s : List UInt8) : List Value := [str s]
theorem cS_len (s : List UInt8) : (cS s).length = 1 := rfl
theorem i_s1 {L L' : List HP} {A : HP} {a : Addr} {n c i : Nat} {xs : List (List UInt8)} {k : List UInt8 → W} (hR : Rs A (some a, n, c) 1 (xs.flatMap cS)) (hi : i < xs.length) [ha : AX L A L'] (h : E L (k (xs.getD i []))) : E L (ld eS (a.add i) k) := by
  have := r_s0 (e := eS) (y := xs.getD i []) hR cS_len (x := xs.getD i []) (i := i) (by simp [hi]) ha.p rfl h
  rwa [Nat.mul_one] at this
abbrev cN (n : Int) : List Value := [.int .i64 n]
theorem cN_len (n : Int) : (cN n).length = 1 := rfl
theorem i_n1 {L L' : List HP} {A : HP} {a : Addr} {n c i : Nat} {xs : List Int} {k : Int → W} (hR : Rs A (some a, n, c) 1 (xs.flatMap cN)) (hi : i < xs.length) [ha : AX L A L'] (h : E L (k (xs.getD i 0))) : E L (ld eI (a.add i) k) := by
  have := r_s0 (e := eI) (y := xs.getD i 0) hR cN_len (x := xs.getD i 0) (i := i) (by simp [hi]) ha.p rfl h
  rwa [Nat.mul_one] at this
theorem num_of {cs : List Value} (h : lfs [.i .i64] cs) : ∃ x : Int, cs = cN x ∧ wf64 x := by
  rcases cs with _ | ⟨v0, _ | ⟨v1, r⟩⟩ <;> try (simp [lfs] at h; done)
  obtain ⟨⟨k, rfl, hk⟩, _⟩ := h
  exact ⟨k, rfl, by simpa [Lit.wf, IntKind.min, IntKind.max, IntKind.signed, IntKind.bits, wf64] using hk⟩
theorem txt_of {cs : List Value} (h : lfs [.s] cs) : ∃ x : List UInt8, cs = cS x ∧ True := by
  rcases cs with _ | ⟨v0, _ | ⟨v1, r⟩⟩ <;> try (simp [lfs] at h; done)
  obtain ⟨⟨k, rfl, _⟩, _⟩ := h
  exact ⟨k, rfl, trivial⟩
end Go.Sp
/- An array of texts as an argument; texts of several kinds. -/
namespace Go.Sp
open Go
section
variable {H : Type} {enc : TypeId × Value → H} {P : Program} {w : World} {base : Nat} {spare : Nat → Bool} {held : Bool}
end
end Go.Sp
/- Records: pages are laid; a record with just what its kind has. -/
namespace Go.Sp
open Go Go.Proofs
set_option linter.unusedSimpArgs false
set_option linter.unusedVariables false
set_option maxRecDepth 10000
def imgo (x : Wt) : List api_Image → Wt × Int
  | [] => (x, 0)
  | m :: l => if m.Text.length = 224 then imgo (layT (layN x m.Page 2) m.Text) l else (x, 4)
def ims (x : Wt) (l : List api_Image) : Wt × Int := imgo (layN x (l.length : Int) 1) l
theorem Rs.len2 {A : HP} {s : SlV} {α : Type} {f : α → List Value} {l : List α} (h : Rs A s 2 (l.flatMap f)) (hf : ∀ x, (f x).length = 2) : s.2.1 = l.length := by
  have h1 := h.1
  have h2 : (l.flatMap f).length = 2 * l.length := by
    clear h h1
    induction l with
    | nil => rfl
    | cons a l ih => rw [List.flatMap_cons, List.length_append, ih, hf, List.length_cons]; omega
  omega
theorem g104 (A : HP) (q : Nat) (x : Wt) (s : SlV) (is : List api_Image) (hR : Rs A s 2 (is.flatMap cImg)) (hl : is.length ≤ 255) (hs : x.1.length ≤ 1000) :
    Fq eI Tryz.prog 104 #[.pointer (some ⟨q, 0, none⟩), .slice s.1 s.2.1 s.2.2] [wr q x, A] [wr q (ims x is).1, A] (ims x is).2 := fun L => by
  have hn := hR.len2 cImg_len
  obtain ⟨p, n, c⟩ := s
  dsimp only at hn
  subst hn
  have h1 := layN_len x (is.length : Int) 1
  unfold ims
  refine c104_fn rfl rfl ?_
  repeat' ((fail_if_success with_reducible refine nph ?_); first | (with_reducible first | (refine d_seq ?_; intro K hK) | (refine hK _ _ ?_; clear hK K) | (refine SG.p ?_; try intro b)) | ((with_reducible refine SC.p ?_); refine And.intro ?_ ?_) <;> intro hc <;> try simp only [push_cast, Int.reduceEq, Int.reduceLT, Int.reduceLE, Int.reduceNe] at hc | with_reducible refine r_rq (by first | decide | omega) ?_ | ((with_reducible refine SL.p ?_); first | refine ⟨_, rfl, ?_⟩ | refine ⟨_, _, _, rfl, ?_⟩ | (refine ⟨?_, rfl, ?_⟩; focus (simp; done))) | ((with_reducible first | apply i_ldn | apply i_ldnq); exact rfl; exact rfl; exact rfl) | ((try with_reducible refine d_reg ?_); simp only [go_sem, Nat.reduceAdd, Nat.reduceEqDiff, Int.reduceToNat, Nat.reduceMul, Nat.reduceSub]) | clear hK K)
  refine i_clq (gN q x (is.length : Int) 1 (by decide) (by decide) (by omega)) ?_
  generalize layN x (is.length : Int) 1 = x1 at *
  repeat' ((fail_if_success with_reducible refine nph ?_); first | (with_reducible first | (refine d_seq ?_; intro K hK) | (refine hK _ _ ?_; clear hK K) | (refine SG.p ?_; try intro b)) | ((with_reducible refine SC.p ?_); refine And.intro ?_ ?_) <;> intro hc <;> try simp only [push_cast, Int.reduceEq, Int.reduceLT, Int.reduceLE, Int.reduceNe] at hc | with_reducible refine r_rq (by first | decide | omega) ?_ | ((with_reducible refine SL.p ?_); first | refine ⟨_, rfl, ?_⟩ | refine ⟨_, _, _, rfl, ?_⟩ | (refine ⟨?_, rfl, ?_⟩; focus (simp; done))) | ((with_reducible first | apply i_ldn | apply i_ldnq); exact rfl; exact rfl; exact rfl) | ((try with_reducible refine d_reg ?_); simp only [go_sem, Nat.reduceAdd, Nat.reduceEqDiff, Int.reduceToNat, Nat.reduceMul, Nat.reduceSub]) | clear hK K)
  refine d_lp [0, 11, 12, 13] (fun t : Nat × Wt => [(0, .pointer (some ⟨q, 0, none⟩)), (11, .slice p is.length c), (12, .int .i64 (is.length : Int)), (13, .int .i64 (t.1 : Int))])
    (fun t => wr q t.2 :: A :: L) (fun t => t.1 ≤ is.length ∧ imgo t.2 (is.drop t.1) = imgo x1 is ∧ t.2.1.length ≤ 2000 + t.1 * 65600) (fun t => is.length - t.1) (0, x1) rfl SX.p ⟨by dsimp only; omega, rfl, by dsimp only; omega⟩ ?_
  rintro ⟨i, y⟩ ⟨hi, hy, hb⟩
  dsimp only at hi hy hb ⊢
  repeat' ((fail_if_success with_reducible refine nph ?_); first | (with_reducible first | (refine d_seq ?_; intro K hK) | (refine hK _ _ ?_; clear hK K) | (refine SG.p ?_; try intro b)) | ((with_reducible refine SC.p ?_); refine And.intro ?_ ?_) <;> intro hc <;> try simp only [push_cast, Int.reduceEq, Int.reduceLT, Int.reduceLE, Int.reduceNe] at hc | with_reducible refine r_rq (by first | decide | omega) ?_ | ((with_reducible refine SL.p ?_); first | refine ⟨_, rfl, ?_⟩ | refine ⟨_, _, _, rfl, ?_⟩ | (refine ⟨?_, rfl, ?_⟩; focus (simp; done))) | ((with_reducible first | apply i_ldn | apply i_ldnq); exact rfl; exact rfl; exact rfl) | ((try with_reducible refine d_reg ?_); simp only [go_sem, Nat.reduceAdd, Nat.reduceEqDiff, Int.reduceToNat, Nat.reduceMul, Nat.reduceSub]) | clear hK K)
  · have hlt : i < is.length := by omega
    obtain ⟨m, hm⟩ : ∃ m, is[i]? = some m := ⟨is[i], by simp [hlt]⟩
    have hd : is.drop i = m :: is.drop (i + 1) := by
      rw [List.drop_eq_getElem_cons hlt]
      rw [List.getElem?_eq_getElem hlt] at hm
      simp only [Option.some.injEq] at hm
      rw [hm]
    rw [hd, show imgo y (m :: is.drop (i + 1)) = if m.Text.length = 224 then imgo (layT (layN y m.Page 2) m.Text) (is.drop (i + 1)) else (y, 4) from rfl] at hy
    have l1 := layN_len y m.Page 2
    have l2 := layT_len (layN y m.Page 2) m.Text
    rcases p with _ | a
    · exact absurd rfl (hR.2.1 (by dsimp only; omega))
    · refine r_nn rfl ?_
      refine i_sn (x := m) (y := m) hR cImg_len hm rfl ?_
      repeat' ((fail_if_success with_reducible refine nph ?_); first | (with_reducible first | (refine d_seq ?_; intro K hK) | (refine hK _ _ ?_; clear hK K) | (refine SG.p ?_; try intro b)) | ((with_reducible refine SC.p ?_); refine And.intro ?_ ?_) <;> intro hc <;> try simp only [push_cast, Int.reduceEq, Int.reduceLT, Int.reduceLE, Int.reduceNe] at hc | with_reducible refine r_rq (by first | decide | omega) ?_ | ((with_reducible refine SL.p ?_); first | refine ⟨_, rfl, ?_⟩ | refine ⟨_, _, _, rfl, ?_⟩ | (refine ⟨?_, rfl, ?_⟩; focus (simp; done))) | ((with_reducible first | apply i_ldn | apply i_ldnq); exact rfl; exact rfl; exact rfl) | ((try with_reducible refine d_reg ?_); simp only [go_sem, Nat.reduceAdd, Nat.reduceEqDiff, Int.reduceToNat, Nat.reduceMul, Nat.reduceSub]) | clear hK K)
      · have h2 : ¬ m.Text.length = 224 := by omega
        rw [if_neg h2] at hy
        rw [← hy]
        (with_reducible first | apply i_ret0 | apply i_ret2 | apply i_ret3 | apply i_ret); exact rfl
        rfl
      · have h2 : m.Text.length = 224 := by omega
        rw [if_pos h2] at hy
        refine i_clq (gN q y m.Page 2 (by decide) (by decide) (by omega)) ?_
        repeat' ((fail_if_success with_reducible refine nph ?_); first | (with_reducible first | (refine d_seq ?_; intro K hK) | (refine hK _ _ ?_; clear hK K) | (refine SG.p ?_; try intro b)) | ((with_reducible refine SC.p ?_); refine And.intro ?_ ?_) <;> intro hc <;> try simp only [push_cast, Int.reduceEq, Int.reduceLT, Int.reduceLE, Int.reduceNe] at hc | with_reducible refine r_rq (by first | decide | omega) ?_ | ((with_reducible refine SL.p ?_); first | refine ⟨_, rfl, ?_⟩ | refine ⟨_, _, _, rfl, ?_⟩ | (refine ⟨?_, rfl, ?_⟩; focus (simp; done))) | ((with_reducible first | apply i_ldn | apply i_ldnq); exact rfl; exact rfl; exact rfl) | ((try with_reducible refine d_reg ?_); simp only [go_sem, Nat.reduceAdd, Nat.reduceEqDiff, Int.reduceToNat, Nat.reduceMul, Nat.reduceSub]) | clear hK K)
        refine i_clq (gT q (layN y m.Page 2) m.Text (by omega)) ?_
        repeat' ((fail_if_success with_reducible refine nph ?_); first | (with_reducible first | (refine d_seq ?_; intro K hK) | (refine hK _ _ ?_; clear hK K) | (refine SG.p ?_; try intro b)) | ((with_reducible refine SC.p ?_); refine And.intro ?_ ?_) <;> intro hc <;> try simp only [push_cast, Int.reduceEq, Int.reduceLT, Int.reduceLE, Int.reduceNe] at hc | with_reducible refine r_rq (by first | decide | omega) ?_ | ((with_reducible refine SL.p ?_); first | refine ⟨_, rfl, ?_⟩ | refine ⟨_, _, _, rfl, ?_⟩ | (refine ⟨?_, rfl, ?_⟩; focus (simp; done))) | ((with_reducible first | apply i_ldn | apply i_ldnq); exact rfl; exact rfl; exact rfl) | ((try with_reducible refine d_reg ?_); simp only [go_sem, Nat.reduceAdd, Nat.reduceEqDiff, Int.reduceToNat, Nat.reduceMul, Nat.reduceSub]) | clear hK K)
        rw [w64 (by omega) (by omega)]
        exact i_bk (i + 1, layT (layN y m.Page 2) m.Text) rfl ⟨by dsimp only; omega, hy, by dsimp only; omega⟩ (by dsimp only; omega)
  · obtain rfl : i = is.length := by omega
    rw [List.drop_length, show imgo y [] = (y, 0) from rfl] at hy
    rw [← hy]
    (with_reducible first | apply i_ret0 | apply i_ret2 | apply i_ret3 | apply i_ret); exact rfl
    rfl
/-- What an act has not is dropped. -/
def tdy (c : Rc) (act : Int) : Rc := if act = 3 then { c with old := [] } else if act = 4 then { c with nw := [] } else c
def Rc.z (k : Int) : Rc := ⟨k, 0, 0, 0, 0, [], [], [], 0, [], [], 0, 0⟩
def Rc.clean (c : Rc) : Rc :=
  if c.kind = 1 ∨ c.kind = 2 then { Rc.z c.kind with imgs := c.imgs }
  else if c.kind = 3 ∨ c.kind = 4 ∨ c.kind = 5 then tdy { Rc.z c.kind with txn := c.txn, prev := c.prev, page := c.page, key := c.key, old := c.old, nw := c.nw } c.kind
  else if c.kind = 6 then tdy { Rc.z c.kind with txn := c.txn, prev := c.prev, next := c.next, act := c.act, page := c.page, key := c.key, old := c.old, nw := c.nw } c.act
  else if c.kind = 7 ∨ c.kind = 8 then { Rc.z c.kind with txn := c.txn, prev := c.prev }
  else if c.kind = 9 then { Rc.z c.kind with tbl := c.tbl }
  else if c.kind = 10 then { Rc.z c.kind with epoch := c.epoch, node := c.node }
  else Rc.z c.kind
abbrev rcl (r : api_Rec) : List Value := [.int .i64 r.Kind, .int .i64 r.Txn, .int .i64 r.Prev, .int .i64 r.Page, .int .i64 r.Act, str r.Key, str r.Old, str r.New, .int .i64 r.Next, .slice r.Images.1 r.Images.2.1 r.Images.2.2, .slice r.Table.1 r.Table.2.1 r.Table.2.2, .int .i64 r.Epoch, .int .i64 r.Node]
def tdr (r : api_Rec) (act : Int) : api_Rec := if act = 3 then { r with Old := [] } else if act = 4 then { r with New := [] } else r
theorem g109 (b : Nat) (r : api_Rec) (act : Int) : Fq eN Tryz.prog 109 #[.pointer (some ⟨b, 0, none⟩), .int .i64 act] [ar b 36 (rcl r)] [ar b 36 (rcl (tdr r act))] () := fun L => by
  unfold tdr
  refine c109_fn rfl rfl ?_
  by_cases a3 : act = 3
  · rw [if_pos a3]
    repeat' (first | (with_reducible first | (refine d_seq ?_; intro K hK) | (refine hK _ _ ?_; clear hK K) | (refine SG.p ?_; try intro b)) | ((with_reducible refine SC.p ?_); refine And.intro ?_ ?_) <;> intro hc <;> try simp only [push_cast, Int.reduceEq, Int.reduceLT, Int.reduceLE, Int.reduceNe] at hc | with_reducible refine r_rq (by first | decide | omega) ?_ | ((with_reducible refine SL.p ?_); first | refine ⟨_, rfl, ?_⟩ | refine ⟨_, _, _, rfl, ?_⟩ | (refine ⟨?_, rfl, ?_⟩; focus (simp; done))) | ((with_reducible first | apply i_ldn | apply i_ldnq); exact rfl; exact rfl; exact rfl) | ((try with_reducible refine d_reg ?_); simp only [go_sem, Nat.reduceAdd, Nat.reduceEqDiff, Int.reduceToNat, Nat.reduceMul, Nat.reduceSub]) | clear hK K)
    all_goals try (first | contradiction | (simp only [ reduceCtorEq] at *; done) | (exfalso; omega))
    (with_reducible first | apply i_ret0 | apply i_ret2 | apply i_ret3 | apply i_ret); exact rfl
  · rw [if_neg a3]
    by_cases a4 : act = 4
    · rw [if_pos a4]
      repeat' (first | (with_reducible first | (refine d_seq ?_; intro K hK) | (refine hK _ _ ?_; clear hK K) | (refine SG.p ?_; try intro b)) | ((with_reducible refine SC.p ?_); refine And.intro ?_ ?_) <;> intro hc <;> try simp only [push_cast, Int.reduceEq, Int.reduceLT, Int.reduceLE, Int.reduceNe] at hc | with_reducible refine r_rq (by first | decide | omega) ?_ | ((with_reducible refine SL.p ?_); first | refine ⟨_, rfl, ?_⟩ | refine ⟨_, _, _, rfl, ?_⟩ | (refine ⟨?_, rfl, ?_⟩; focus (simp; done))) | ((with_reducible first | apply i_ldn | apply i_ldnq); exact rfl; exact rfl; exact rfl) | ((try with_reducible refine d_reg ?_); simp only [go_sem, Nat.reduceAdd, Nat.reduceEqDiff, Int.reduceToNat, Nat.reduceMul, Nat.reduceSub]) | clear hK K)
      all_goals try (first | contradiction | (simp only [ reduceCtorEq] at *; done) | (exfalso; omega))
      (with_reducible first | apply i_ret0 | apply i_ret2 | apply i_ret3 | apply i_ret); exact rfl
    · rw [if_neg a4]
      repeat' (first | (with_reducible first | (refine d_seq ?_; intro K hK) | (refine hK _ _ ?_; clear hK K) | (refine SG.p ?_; try intro b)) | ((with_reducible refine SC.p ?_); refine And.intro ?_ ?_) <;> intro hc <;> try simp only [push_cast, Int.reduceEq, Int.reduceLT, Int.reduceLE, Int.reduceNe] at hc | with_reducible refine r_rq (by first | decide | omega) ?_ | ((with_reducible refine SL.p ?_); first | refine ⟨_, rfl, ?_⟩ | refine ⟨_, _, _, rfl, ?_⟩ | (refine ⟨?_, rfl, ?_⟩; focus (simp; done))) | ((with_reducible first | apply i_ldn | apply i_ldnq); exact rfl; exact rfl; exact rfl) | ((try with_reducible refine d_reg ?_); simp only [go_sem, Nat.reduceAdd, Nat.reduceEqDiff, Int.reduceToNat, Nat.reduceMul, Nat.reduceSub]) | clear hK K)
      all_goals try (first | contradiction | (simp only [ reduceCtorEq] at *; done) | (exfalso; omega))
      (with_reducible first | apply i_ret0 | apply i_ret2 | apply i_ret3 | apply i_ret); exact rfl
def rz (k : Int) : api_Rec := ⟨k, 0, 0, 0, 0, [], [], [], 0, (none, 0, 0), (none, 0, 0), 0, 0⟩
def clr (r : api_Rec) : api_Rec :=
  if r.Kind = 1 ∨ r.Kind = 2 then { rz r.Kind with Images := r.Images }
  else if r.Kind = 3 ∨ r.Kind = 4 ∨ r.Kind = 5 then tdr { rz r.Kind with Txn := r.Txn, Prev := r.Prev, Page := r.Page, Key := r.Key, Old := r.Old, New := r.New } r.Kind
  else if r.Kind = 6 then tdr { rz r.Kind with Txn := r.Txn, Prev := r.Prev, Next := r.Next, Act := r.Act, Page := r.Page, Key := r.Key, Old := r.Old, New := r.New } r.Act
  else if r.Kind = 7 ∨ r.Kind = 8 then { rz r.Kind with Txn := r.Txn, Prev := r.Prev }
  else if r.Kind = 9 then { rz r.Kind with Table := r.Table }
  else if r.Kind = 10 then { rz r.Kind with Epoch := r.Epoch, Node := r.Node }
  else rz r.Kind
theorem Rs_nil {A : HP} {sz : Nat} : Rs A (none, 0, 0) sz [] := ⟨by simp, by simp, fun a h => by cases h⟩
theorem RcAt.tdr {A : HP} {r : api_Rec} {c : Rc} (h : RcAt A r c) (act : Int) : RcAt A (tdr r act) (tdy c act) := by
  obtain ⟨e, i, t, li, lt⟩ := h
  unfold Sp.tdr tdy
  split
  · exact ⟨by rw [e]; rfl, i, t, li, lt⟩
  · split
    · exact ⟨by rw [e]; rfl, i, t, li, lt⟩
    · exact ⟨e, i, t, li, lt⟩
theorem RcAt.clr {A : HP} {r : api_Rec} {c : Rc} (h : RcAt A r c) : RcAt A (clr r) c.clean := by
  obtain ⟨e, i, t, li, lt⟩ := h
  obtain ⟨kind, txn, prev, page, act, key, old, nw, next, imgs, tbl, epoch, node⟩ := c
  simp only [Rc.of, Rc.mk.injEq] at e
  obtain ⟨rfl, rfl, rfl, rfl, rfl, rfl, rfl, rfl, rfl, _, _, rfl, rfl⟩ := e
  dsimp only at i t li lt
  unfold Sp.clr Rc.clean
  dsimp only
  repeat' split
  · exact ⟨rfl, i, Rs_nil, li, by simp [Rc.z]⟩
  · exact RcAt.tdr ⟨rfl, Rs_nil, Rs_nil, by simp [Rc.z], by simp [Rc.z]⟩ _
  · exact RcAt.tdr ⟨rfl, Rs_nil, Rs_nil, by simp [Rc.z], by simp [Rc.z]⟩ _
  · exact ⟨rfl, Rs_nil, Rs_nil, by simp [Rc.z], by simp [Rc.z]⟩
  · exact ⟨rfl, Rs_nil, t, by simp [Rc.z], lt⟩
  · exact ⟨rfl, Rs_nil, Rs_nil, by simp [Rc.z], by simp [Rc.z]⟩
  · exact ⟨rfl, Rs_nil, Rs_nil, by simp [Rc.z], by simp [Rc.z]⟩
end Go.Sp
/- Records: Clean. -/
namespace Go.Sp
open Go Go.Proofs
set_option linter.unusedSimpArgs false
set_option linter.unusedVariables false
set_option maxRecDepth 10000
set_option maxHeartbeats 2000000 in
theorem g72 (r : api_Rec) : Fp e_api_Rec Tryz.prog 72 #[v_api_Rec r] [] (clr r) := fun L => by
  obtain ⟨kind, txn, prev, page, act, key, old, nw, next, im, tb, epoch, node⟩ := r
  unfold clr
  dsimp only
  refine c72_fn rfl rfl ?_
  refine d_seq ?_
  intro K0 hK0
  refine d_reg ?_
  simp only [go_sem, Nat.reduceAdd, Nat.reduceEqDiff, Int.reduceToNat, Nat.reduceMul, Nat.reduceSub]
  refine r_nwc ?_
  intro b1
  refine r_nwc ?_
  intro b2
  refine hK0 _ _ ?_
  clear hK0 K0
  by_cases h1 : kind = 1
  · subst h1
    rw [if_pos (.inl rfl)]
    repeat' ((fail_if_success with_reducible refine nph ?_); first | (with_reducible first | (refine d_seq ?_; intro K hK) | (refine hK _ _ ?_; clear hK K) | (refine SG.p ?_; try intro b)) | ((with_reducible refine SC.p ?_); refine And.intro ?_ ?_) <;> intro hc <;> try simp only [push_cast, Int.reduceEq, Int.reduceLT, Int.reduceLE, Int.reduceNe] at hc | with_reducible refine r_rq (by first | decide | omega) ?_ | ((with_reducible refine SL.p ?_); first | refine ⟨_, rfl, ?_⟩ | refine ⟨_, _, _, rfl, ?_⟩ | (refine ⟨?_, rfl, ?_⟩; focus (simp; done))) | ((with_reducible first | apply i_ldn | apply i_ldnq); exact rfl; exact rfl; exact rfl) | ((try with_reducible refine d_reg ?_); simp only [go_sem, Nat.reduceAdd, Nat.reduceEqDiff, Int.reduceToNat, Nat.reduceMul, Nat.reduceSub]) | clear hK K)
    (refine i_ldn (e := e_api_Rec) (x := ⟨1, 0, 0, 0, 0, [], [], [], 0, im, (none, 0, 0), 0, 0⟩) rfl rfl rfl ?_); repeat' ((fail_if_success with_reducible refine nph ?_); first | (with_reducible first | (refine d_seq ?_; intro K hK) | (refine hK _ _ ?_; clear hK K) | (refine SG.p ?_; try intro b)) | ((with_reducible refine SC.p ?_); refine And.intro ?_ ?_) <;> intro hc <;> try simp only [push_cast, Int.reduceEq, Int.reduceLT, Int.reduceLE, Int.reduceNe] at hc | with_reducible refine r_rq (by first | decide | omega) ?_ | ((with_reducible refine SL.p ?_); first | refine ⟨_, rfl, ?_⟩ | refine ⟨_, _, _, rfl, ?_⟩ | (refine ⟨?_, rfl, ?_⟩; focus (simp; done))) | ((with_reducible first | apply i_ldn | apply i_ldnq); exact rfl; exact rfl; exact rfl) | ((try with_reducible refine d_reg ?_); simp only [go_sem, Nat.reduceAdd, Nat.reduceEqDiff, Int.reduceToNat, Nat.reduceMul, Nat.reduceSub]) | clear hK K)
    (refine i_ldn (e := e_api_Rec) (x := ⟨1, 0, 0, 0, 0, [], [], [], 0, im, (none, 0, 0), 0, 0⟩) rfl rfl rfl ?_); ((with_reducible first | apply i_ret0 | apply i_ret2 | apply i_ret3 | apply i_ret); exact rfl); rfl
  by_cases h2 : kind = 2
  · subst h2
    rw [if_pos (.inr rfl)]
    repeat' ((fail_if_success with_reducible refine nph ?_); first | (with_reducible first | (refine d_seq ?_; intro K hK) | (refine hK _ _ ?_; clear hK K) | (refine SG.p ?_; try intro b)) | ((with_reducible refine SC.p ?_); refine And.intro ?_ ?_) <;> intro hc <;> try simp only [push_cast, Int.reduceEq, Int.reduceLT, Int.reduceLE, Int.reduceNe] at hc | with_reducible refine r_rq (by first | decide | omega) ?_ | ((with_reducible refine SL.p ?_); first | refine ⟨_, rfl, ?_⟩ | refine ⟨_, _, _, rfl, ?_⟩ | (refine ⟨?_, rfl, ?_⟩; focus (simp; done))) | ((with_reducible first | apply i_ldn | apply i_ldnq); exact rfl; exact rfl; exact rfl) | ((try with_reducible refine d_reg ?_); simp only [go_sem, Nat.reduceAdd, Nat.reduceEqDiff, Int.reduceToNat, Nat.reduceMul, Nat.reduceSub]) | clear hK K)
    (refine i_ldn (e := e_api_Rec) (x := ⟨2, 0, 0, 0, 0, [], [], [], 0, im, (none, 0, 0), 0, 0⟩) rfl rfl rfl ?_); repeat' ((fail_if_success with_reducible refine nph ?_); first | (with_reducible first | (refine d_seq ?_; intro K hK) | (refine hK _ _ ?_; clear hK K) | (refine SG.p ?_; try intro b)) | ((with_reducible refine SC.p ?_); refine And.intro ?_ ?_) <;> intro hc <;> try simp only [push_cast, Int.reduceEq, Int.reduceLT, Int.reduceLE, Int.reduceNe] at hc | with_reducible refine r_rq (by first | decide | omega) ?_ | ((with_reducible refine SL.p ?_); first | refine ⟨_, rfl, ?_⟩ | refine ⟨_, _, _, rfl, ?_⟩ | (refine ⟨?_, rfl, ?_⟩; focus (simp; done))) | ((with_reducible first | apply i_ldn | apply i_ldnq); exact rfl; exact rfl; exact rfl) | ((try with_reducible refine d_reg ?_); simp only [go_sem, Nat.reduceAdd, Nat.reduceEqDiff, Int.reduceToNat, Nat.reduceMul, Nat.reduceSub]) | clear hK K)
    (refine i_ldn (e := e_api_Rec) (x := ⟨2, 0, 0, 0, 0, [], [], [], 0, im, (none, 0, 0), 0, 0⟩) rfl rfl rfl ?_); ((with_reducible first | apply i_ret0 | apply i_ret2 | apply i_ret3 | apply i_ret); exact rfl); rfl
  rw [if_neg (by omega)]
  by_cases h3 : kind = 3
  · subst h3
    rw [if_pos (.inl rfl)]
    repeat' ((fail_if_success with_reducible refine nph ?_); first | (with_reducible first | (refine d_seq ?_; intro K hK) | (refine hK _ _ ?_; clear hK K) | (refine SG.p ?_; try intro b)) | ((with_reducible refine SC.p ?_); refine And.intro ?_ ?_) <;> intro hc <;> try simp only [push_cast, Int.reduceEq, Int.reduceLT, Int.reduceLE, Int.reduceNe] at hc | with_reducible refine r_rq (by first | decide | omega) ?_ | ((with_reducible refine SL.p ?_); first | refine ⟨_, rfl, ?_⟩ | refine ⟨_, _, _, rfl, ?_⟩ | (refine ⟨?_, rfl, ?_⟩; focus (simp; done))) | ((with_reducible first | apply i_ldn | apply i_ldnq); exact rfl; exact rfl; exact rfl) | ((try with_reducible refine d_reg ?_); simp only [go_sem, Nat.reduceAdd, Nat.reduceEqDiff, Int.reduceToNat, Nat.reduceMul, Nat.reduceSub]) | clear hK K)
    (refine r_ph [ar b1 36 (rcl ⟨3, txn, prev, page, act, key, old, nw, next, im, tb, epoch, node⟩)] SX.p ?_); repeat' ((fail_if_success with_reducible refine nph ?_); first | (with_reducible first | (refine d_seq ?_; intro K hK) | (refine hK _ _ ?_; clear hK K) | (refine SG.p ?_; try intro b)) | ((with_reducible refine SC.p ?_); refine And.intro ?_ ?_) <;> intro hc <;> try simp only [push_cast, Int.reduceEq, Int.reduceLT, Int.reduceLE, Int.reduceNe] at hc | with_reducible refine r_rq (by first | decide | omega) ?_ | ((with_reducible refine SL.p ?_); first | refine ⟨_, rfl, ?_⟩ | refine ⟨_, _, _, rfl, ?_⟩ | (refine ⟨?_, rfl, ?_⟩; focus (simp; done))) | ((with_reducible first | apply i_ldn | apply i_ldnq); exact rfl; exact rfl; exact rfl) | ((try with_reducible refine d_reg ?_); simp only [go_sem, Nat.reduceAdd, Nat.reduceEqDiff, Int.reduceToNat, Nat.reduceMul, Nat.reduceSub]) | clear hK K)
    have T : Fq eN Tryz.prog 109 #[.pointer (some ⟨b, 0, none⟩), .int .i64 3] [ar b 36 [.int .i64 3, .int .i64 txn, .int .i64 prev, .int .i64 page, .int .i64 0, str key, str old, str nw, .int .i64 0, .slice none 0 0, .slice none 0 0, .int .i64 0, .int .i64 0]] [ar b 36 [.int .i64 3, .int .i64 txn, .int .i64 prev, .int .i64 page, .int .i64 0, str key, str [], str nw, .int .i64 0, .slice none 0 0, .slice none 0 0, .int .i64 0, .int .i64 0]] () := g109 b ⟨3, txn, prev, page, 0, key, old, nw, 0, (none, 0, 0), (none, 0, 0), 0, 0⟩ 3
    refine i_clq T ?_
    repeat' ((fail_if_success with_reducible refine nph ?_); first | (with_reducible first | (refine d_seq ?_; intro K hK) | (refine hK _ _ ?_; clear hK K) | (refine SG.p ?_; try intro b)) | ((with_reducible refine SC.p ?_); refine And.intro ?_ ?_) <;> intro hc <;> try simp only [push_cast, Int.reduceEq, Int.reduceLT, Int.reduceLE, Int.reduceNe] at hc | with_reducible refine r_rq (by first | decide | omega) ?_ | ((with_reducible refine SL.p ?_); first | refine ⟨_, rfl, ?_⟩ | refine ⟨_, _, _, rfl, ?_⟩ | (refine ⟨?_, rfl, ?_⟩; focus (simp; done))) | ((with_reducible first | apply i_ldn | apply i_ldnq); exact rfl; exact rfl; exact rfl) | ((try with_reducible refine d_reg ?_); simp only [go_sem, Nat.reduceAdd, Nat.reduceEqDiff, Int.reduceToNat, Nat.reduceMul, Nat.reduceSub]) | clear hK K)
    (refine i_ldn (e := e_api_Rec) (x := ⟨3, txn, prev, page, 0, key, [], nw, 0, (none, 0, 0), (none, 0, 0), 0, 0⟩) rfl rfl rfl ?_); repeat' ((fail_if_success with_reducible refine nph ?_); first | (with_reducible first | (refine d_seq ?_; intro K hK) | (refine hK _ _ ?_; clear hK K) | (refine SG.p ?_; try intro b)) | ((with_reducible refine SC.p ?_); refine And.intro ?_ ?_) <;> intro hc <;> try simp only [push_cast, Int.reduceEq, Int.reduceLT, Int.reduceLE, Int.reduceNe] at hc | with_reducible refine r_rq (by first | decide | omega) ?_ | ((with_reducible refine SL.p ?_); first | refine ⟨_, rfl, ?_⟩ | refine ⟨_, _, _, rfl, ?_⟩ | (refine ⟨?_, rfl, ?_⟩; focus (simp; done))) | ((with_reducible first | apply i_ldn | apply i_ldnq); exact rfl; exact rfl; exact rfl) | ((try with_reducible refine d_reg ?_); simp only [go_sem, Nat.reduceAdd, Nat.reduceEqDiff, Int.reduceToNat, Nat.reduceMul, Nat.reduceSub]) | clear hK K)
    (refine i_ldn (e := e_api_Rec) (x := ⟨3, txn, prev, page, 0, key, [], nw, 0, (none, 0, 0), (none, 0, 0), 0, 0⟩) rfl rfl rfl ?_); ((with_reducible first | apply i_ret0 | apply i_ret2 | apply i_ret3 | apply i_ret); exact rfl); rfl
  by_cases h4 : kind = 4
  · subst h4
    rw [if_pos (.inr (.inl rfl))]
    repeat' ((fail_if_success with_reducible refine nph ?_); first | (with_reducible first | (refine d_seq ?_; intro K hK) | (refine hK _ _ ?_; clear hK K) | (refine SG.p ?_; try intro b)) | ((with_reducible refine SC.p ?_); refine And.intro ?_ ?_) <;> intro hc <;> try simp only [push_cast, Int.reduceEq, Int.reduceLT, Int.reduceLE, Int.reduceNe] at hc | with_reducible refine r_rq (by first | decide | omega) ?_ | ((with_reducible refine SL.p ?_); first | refine ⟨_, rfl, ?_⟩ | refine ⟨_, _, _, rfl, ?_⟩ | (refine ⟨?_, rfl, ?_⟩; focus (simp; done))) | ((with_reducible first | apply i_ldn | apply i_ldnq); exact rfl; exact rfl; exact rfl) | ((try with_reducible refine d_reg ?_); simp only [go_sem, Nat.reduceAdd, Nat.reduceEqDiff, Int.reduceToNat, Nat.reduceMul, Nat.reduceSub]) | clear hK K)
    (refine r_ph [ar b1 36 (rcl ⟨4, txn, prev, page, act, key, old, nw, next, im, tb, epoch, node⟩)] SX.p ?_); repeat' ((fail_if_success with_reducible refine nph ?_); first | (with_reducible first | (refine d_seq ?_; intro K hK) | (refine hK _ _ ?_; clear hK K) | (refine SG.p ?_; try intro b)) | ((with_reducible refine SC.p ?_); refine And.intro ?_ ?_) <;> intro hc <;> try simp only [push_cast, Int.reduceEq, Int.reduceLT, Int.reduceLE, Int.reduceNe] at hc | with_reducible refine r_rq (by first | decide | omega) ?_ | ((with_reducible refine SL.p ?_); first | refine ⟨_, rfl, ?_⟩ | refine ⟨_, _, _, rfl, ?_⟩ | (refine ⟨?_, rfl, ?_⟩; focus (simp; done))) | ((with_reducible first | apply i_ldn | apply i_ldnq); exact rfl; exact rfl; exact rfl) | ((try with_reducible refine d_reg ?_); simp only [go_sem, Nat.reduceAdd, Nat.reduceEqDiff, Int.reduceToNat, Nat.reduceMul, Nat.reduceSub]) | clear hK K)
    have T : Fq eN Tryz.prog 109 #[.pointer (some ⟨b, 0, none⟩), .int .i64 4] [ar b 36 [.int .i64 4, .int .i64 txn, .int .i64 prev, .int .i64 page, .int .i64 0, str key, str old, str nw, .int .i64 0, .slice none 0 0, .slice none 0 0, .int .i64 0, .int .i64 0]] [ar b 36 [.int .i64 4, .int .i64 txn, .int .i64 prev, .int .i64 page, .int .i64 0, str key, str old, str [], .int .i64 0, .slice none 0 0, .slice none 0 0, .int .i64 0, .int .i64 0]] () := g109 b ⟨4, txn, prev, page, 0, key, old, nw, 0, (none, 0, 0), (none, 0, 0), 0, 0⟩ 4
    refine i_clq T ?_
    repeat' ((fail_if_success with_reducible refine nph ?_); first | (with_reducible first | (refine d_seq ?_; intro K hK) | (refine hK _ _ ?_; clear hK K) | (refine SG.p ?_; try intro b)) | ((with_reducible refine SC.p ?_); refine And.intro ?_ ?_) <;> intro hc <;> try simp only [push_cast, Int.reduceEq, Int.reduceLT, Int.reduceLE, Int.reduceNe] at hc | with_reducible refine r_rq (by first | decide | omega) ?_ | ((with_reducible refine SL.p ?_); first | refine ⟨_, rfl, ?_⟩ | refine ⟨_, _, _, rfl, ?_⟩ | (refine ⟨?_, rfl, ?_⟩; focus (simp; done))) | ((with_reducible first | apply i_ldn | apply i_ldnq); exact rfl; exact rfl; exact rfl) | ((try with_reducible refine d_reg ?_); simp only [go_sem, Nat.reduceAdd, Nat.reduceEqDiff, Int.reduceToNat, Nat.reduceMul, Nat.reduceSub]) | clear hK K)
    (refine i_ldn (e := e_api_Rec) (x := ⟨4, txn, prev, page, 0, key, old, [], 0, (none, 0, 0), (none, 0, 0), 0, 0⟩) rfl rfl rfl ?_); repeat' ((fail_if_success with_reducible refine nph ?_); first | (with_reducible first | (refine d_seq ?_; intro K hK) | (refine hK _ _ ?_; clear hK K) | (refine SG.p ?_; try intro b)) | ((with_reducible refine SC.p ?_); refine And.intro ?_ ?_) <;> intro hc <;> try simp only [push_cast, Int.reduceEq, Int.reduceLT, Int.reduceLE, Int.reduceNe] at hc | with_reducible refine r_rq (by first | decide | omega) ?_ | ((with_reducible refine SL.p ?_); first | refine ⟨_, rfl, ?_⟩ | refine ⟨_, _, _, rfl, ?_⟩ | (refine ⟨?_, rfl, ?_⟩; focus (simp; done))) | ((with_reducible first | apply i_ldn | apply i_ldnq); exact rfl; exact rfl; exact rfl) | ((try with_reducible refine d_reg ?_); simp only [go_sem, Nat.reduceAdd, Nat.reduceEqDiff, Int.reduceToNat, Nat.reduceMul, Nat.reduceSub]) | clear hK K)
    (refine i_ldn (e := e_api_Rec) (x := ⟨4, txn, prev, page, 0, key, old, [], 0, (none, 0, 0), (none, 0, 0), 0, 0⟩) rfl rfl rfl ?_); ((with_reducible first | apply i_ret0 | apply i_ret2 | apply i_ret3 | apply i_ret); exact rfl); rfl
  by_cases h5 : kind = 5
  · subst h5
    rw [if_pos (.inr (.inr rfl))]
    repeat' ((fail_if_success with_reducible refine nph ?_); first | (with_reducible first | (refine d_seq ?_; intro K hK) | (refine hK _ _ ?_; clear hK K) | (refine SG.p ?_; try intro b)) | ((with_reducible refine SC.p ?_); refine And.intro ?_ ?_) <;> intro hc <;> try simp only [push_cast, Int.reduceEq, Int.reduceLT, Int.reduceLE, Int.reduceNe] at hc | with_reducible refine r_rq (by first | decide | omega) ?_ | ((with_reducible refine SL.p ?_); first | refine ⟨_, rfl, ?_⟩ | refine ⟨_, _, _, rfl, ?_⟩ | (refine ⟨?_, rfl, ?_⟩; focus (simp; done))) | ((with_reducible first | apply i_ldn | apply i_ldnq); exact rfl; exact rfl; exact rfl) | ((try with_reducible refine d_reg ?_); simp only [go_sem, Nat.reduceAdd, Nat.reduceEqDiff, Int.reduceToNat, Nat.reduceMul, Nat.reduceSub]) | clear hK K)
    (refine r_ph [ar b1 36 (rcl ⟨5, txn, prev, page, act, key, old, nw, next, im, tb, epoch, node⟩)] SX.p ?_); repeat' ((fail_if_success with_reducible refine nph ?_); first | (with_reducible first | (refine d_seq ?_; intro K hK) | (refine hK _ _ ?_; clear hK K) | (refine SG.p ?_; try intro b)) | ((with_reducible refine SC.p ?_); refine And.intro ?_ ?_) <;> intro hc <;> try simp only [push_cast, Int.reduceEq, Int.reduceLT, Int.reduceLE, Int.reduceNe] at hc | with_reducible refine r_rq (by first | decide | omega) ?_ | ((with_reducible refine SL.p ?_); first | refine ⟨_, rfl, ?_⟩ | refine ⟨_, _, _, rfl, ?_⟩ | (refine ⟨?_, rfl, ?_⟩; focus (simp; done))) | ((with_reducible first | apply i_ldn | apply i_ldnq); exact rfl; exact rfl; exact rfl) | ((try with_reducible refine d_reg ?_); simp only [go_sem, Nat.reduceAdd, Nat.reduceEqDiff, Int.reduceToNat, Nat.reduceMul, Nat.reduceSub]) | clear hK K)
    have T : Fq eN Tryz.prog 109 #[.pointer (some ⟨b, 0, none⟩), .int .i64 5] [ar b 36 [.int .i64 5, .int .i64 txn, .int .i64 prev, .int .i64 page, .int .i64 0, str key, str old, str nw, .int .i64 0, .slice none 0 0, .slice none 0 0, .int .i64 0, .int .i64 0]] [ar b 36 [.int .i64 5, .int .i64 txn, .int .i64 prev, .int .i64 page, .int .i64 0, str key, str old, str nw, .int .i64 0, .slice none 0 0, .slice none 0 0, .int .i64 0, .int .i64 0]] () := g109 b ⟨5, txn, prev, page, 0, key, old, nw, 0, (none, 0, 0), (none, 0, 0), 0, 0⟩ 5
    refine i_clq T ?_
    repeat' ((fail_if_success with_reducible refine nph ?_); first | (with_reducible first | (refine d_seq ?_; intro K hK) | (refine hK _ _ ?_; clear hK K) | (refine SG.p ?_; try intro b)) | ((with_reducible refine SC.p ?_); refine And.intro ?_ ?_) <;> intro hc <;> try simp only [push_cast, Int.reduceEq, Int.reduceLT, Int.reduceLE, Int.reduceNe] at hc | with_reducible refine r_rq (by first | decide | omega) ?_ | ((with_reducible refine SL.p ?_); first | refine ⟨_, rfl, ?_⟩ | refine ⟨_, _, _, rfl, ?_⟩ | (refine ⟨?_, rfl, ?_⟩; focus (simp; done))) | ((with_reducible first | apply i_ldn | apply i_ldnq); exact rfl; exact rfl; exact rfl) | ((try with_reducible refine d_reg ?_); simp only [go_sem, Nat.reduceAdd, Nat.reduceEqDiff, Int.reduceToNat, Nat.reduceMul, Nat.reduceSub]) | clear hK K)
    (refine i_ldn (e := e_api_Rec) (x := ⟨5, txn, prev, page, 0, key, old, nw, 0, (none, 0, 0), (none, 0, 0), 0, 0⟩) rfl rfl rfl ?_); repeat' ((fail_if_success with_reducible refine nph ?_); first | (with_reducible first | (refine d_seq ?_; intro K hK) | (refine hK _ _ ?_; clear hK K) | (refine SG.p ?_; try intro b)) | ((with_reducible refine SC.p ?_); refine And.intro ?_ ?_) <;> intro hc <;> try simp only [push_cast, Int.reduceEq, Int.reduceLT, Int.reduceLE, Int.reduceNe] at hc | with_reducible refine r_rq (by first | decide | omega) ?_ | ((with_reducible refine SL.p ?_); first | refine ⟨_, rfl, ?_⟩ | refine ⟨_, _, _, rfl, ?_⟩ | (refine ⟨?_, rfl, ?_⟩; focus (simp; done))) | ((with_reducible first | apply i_ldn | apply i_ldnq); exact rfl; exact rfl; exact rfl) | ((try with_reducible refine d_reg ?_); simp only [go_sem, Nat.reduceAdd, Nat.reduceEqDiff, Int.reduceToNat, Nat.reduceMul, Nat.reduceSub]) | clear hK K)
    (refine i_ldn (e := e_api_Rec) (x := ⟨5, txn, prev, page, 0, key, old, nw, 0, (none, 0, 0), (none, 0, 0), 0, 0⟩) rfl rfl rfl ?_); ((with_reducible first | apply i_ret0 | apply i_ret2 | apply i_ret3 | apply i_ret); exact rfl); rfl
  rw [if_neg (by omega)]
  by_cases h6 : kind = 6
  · subst h6
    rw [if_pos rfl]
    repeat' ((fail_if_success with_reducible refine nph ?_); first | (with_reducible first | (refine d_seq ?_; intro K hK) | (refine hK _ _ ?_; clear hK K) | (refine SG.p ?_; try intro b)) | ((with_reducible refine SC.p ?_); refine And.intro ?_ ?_) <;> intro hc <;> try simp only [push_cast, Int.reduceEq, Int.reduceLT, Int.reduceLE, Int.reduceNe] at hc | with_reducible refine r_rq (by first | decide | omega) ?_ | ((with_reducible refine SL.p ?_); first | refine ⟨_, rfl, ?_⟩ | refine ⟨_, _, _, rfl, ?_⟩ | (refine ⟨?_, rfl, ?_⟩; focus (simp; done))) | ((with_reducible first | apply i_ldn | apply i_ldnq); exact rfl; exact rfl; exact rfl) | ((try with_reducible refine d_reg ?_); simp only [go_sem, Nat.reduceAdd, Nat.reduceEqDiff, Int.reduceToNat, Nat.reduceMul, Nat.reduceSub]) | clear hK K)
    (refine r_ph [ar b1 36 (rcl ⟨6, txn, prev, page, act, key, old, nw, next, im, tb, epoch, node⟩)] SX.p ?_); repeat' ((fail_if_success with_reducible refine nph ?_); first | (with_reducible first | (refine d_seq ?_; intro K hK) | (refine hK _ _ ?_; clear hK K) | (refine SG.p ?_; try intro b)) | ((with_reducible refine SC.p ?_); refine And.intro ?_ ?_) <;> intro hc <;> try simp only [push_cast, Int.reduceEq, Int.reduceLT, Int.reduceLE, Int.reduceNe] at hc | with_reducible refine r_rq (by first | decide | omega) ?_ | ((with_reducible refine SL.p ?_); first | refine ⟨_, rfl, ?_⟩ | refine ⟨_, _, _, rfl, ?_⟩ | (refine ⟨?_, rfl, ?_⟩; focus (simp; done))) | ((with_reducible first | apply i_ldn | apply i_ldnq); exact rfl; exact rfl; exact rfl) | ((try with_reducible refine d_reg ?_); simp only [go_sem, Nat.reduceAdd, Nat.reduceEqDiff, Int.reduceToNat, Nat.reduceMul, Nat.reduceSub]) | clear hK K)
    have T := g109 b ⟨6, txn, prev, page, act, key, old, nw, next, (none, 0, 0), (none, 0, 0), 0, 0⟩ act
    rw [show (⟨(rz 6).Kind, txn, prev, page, act, key, old, nw, next, (rz 6).Images, (rz 6).Table, (rz 6).Epoch, (rz 6).Node⟩ : api_Rec) = ⟨6, txn, prev, page, act, key, old, nw, next, (none, 0, 0), (none, 0, 0), 0, 0⟩ from rfl] at *
    generalize tdr ⟨6, txn, prev, page, act, key, old, nw, next, (none, 0, 0), (none, 0, 0), 0, 0⟩ act = y at *
    obtain ⟨y1, y2, y3, y4, y5, y6, y7, y8, y9, y10, y11, y12, y13⟩ := y
    refine i_clq T ?_
    repeat' ((fail_if_success with_reducible refine nph ?_); first | (with_reducible first | (refine d_seq ?_; intro K hK) | (refine hK _ _ ?_; clear hK K) | (refine SG.p ?_; try intro b)) | ((with_reducible refine SC.p ?_); refine And.intro ?_ ?_) <;> intro hc <;> try simp only [push_cast, Int.reduceEq, Int.reduceLT, Int.reduceLE, Int.reduceNe] at hc | with_reducible refine r_rq (by first | decide | omega) ?_ | ((with_reducible refine SL.p ?_); first | refine ⟨_, rfl, ?_⟩ | refine ⟨_, _, _, rfl, ?_⟩ | (refine ⟨?_, rfl, ?_⟩; focus (simp; done))) | ((with_reducible first | apply i_ldn | apply i_ldnq); exact rfl; exact rfl; exact rfl) | ((try with_reducible refine d_reg ?_); simp only [go_sem, Nat.reduceAdd, Nat.reduceEqDiff, Int.reduceToNat, Nat.reduceMul, Nat.reduceSub]) | clear hK K)
    with_reducible apply i_ldn (e := e_api_Rec) (n := 13) (x := ⟨y1, y2, y3, y4, y5, y6, y7, y8, y9, y10, y11, y12, y13⟩)
    · exact rfl
    · exact rfl
    · exact rfl
    (with_reducible first | apply i_ret0 | apply i_ret2 | apply i_ret3 | apply i_ret); exact rfl
    rfl
  rw [if_neg h6]
  by_cases h7 : kind = 7
  · subst h7
    rw [if_pos (.inl rfl)]
    repeat' ((fail_if_success with_reducible refine nph ?_); first | (with_reducible first | (refine d_seq ?_; intro K hK) | (refine hK _ _ ?_; clear hK K) | (refine SG.p ?_; try intro b)) | ((with_reducible refine SC.p ?_); refine And.intro ?_ ?_) <;> intro hc <;> try simp only [push_cast, Int.reduceEq, Int.reduceLT, Int.reduceLE, Int.reduceNe] at hc | with_reducible refine r_rq (by first | decide | omega) ?_ | ((with_reducible refine SL.p ?_); first | refine ⟨_, rfl, ?_⟩ | refine ⟨_, _, _, rfl, ?_⟩ | (refine ⟨?_, rfl, ?_⟩; focus (simp; done))) | ((with_reducible first | apply i_ldn | apply i_ldnq); exact rfl; exact rfl; exact rfl) | ((try with_reducible refine d_reg ?_); simp only [go_sem, Nat.reduceAdd, Nat.reduceEqDiff, Int.reduceToNat, Nat.reduceMul, Nat.reduceSub]) | clear hK K)
    (refine r_ph [ar b1 36 (rcl ⟨7, txn, prev, page, act, key, old, nw, next, im, tb, epoch, node⟩)] SX.p ?_); repeat' ((fail_if_success with_reducible refine nph ?_); first | (with_reducible first | (refine d_seq ?_; intro K hK) | (refine hK _ _ ?_; clear hK K) | (refine SG.p ?_; try intro b)) | ((with_reducible refine SC.p ?_); refine And.intro ?_ ?_) <;> intro hc <;> try simp only [push_cast, Int.reduceEq, Int.reduceLT, Int.reduceLE, Int.reduceNe] at hc | with_reducible refine r_rq (by first | decide | omega) ?_ | ((with_reducible refine SL.p ?_); first | refine ⟨_, rfl, ?_⟩ | refine ⟨_, _, _, rfl, ?_⟩ | (refine ⟨?_, rfl, ?_⟩; focus (simp; done))) | ((with_reducible first | apply i_ldn | apply i_ldnq); exact rfl; exact rfl; exact rfl) | ((try with_reducible refine d_reg ?_); simp only [go_sem, Nat.reduceAdd, Nat.reduceEqDiff, Int.reduceToNat, Nat.reduceMul, Nat.reduceSub]) | clear hK K)
    (refine i_ldn (e := e_api_Rec) (x := ⟨7, txn, prev, 0, 0, [], [], [], 0, (none, 0, 0), (none, 0, 0), 0, 0⟩) rfl rfl rfl ?_); repeat' ((fail_if_success with_reducible refine nph ?_); first | (with_reducible first | (refine d_seq ?_; intro K hK) | (refine hK _ _ ?_; clear hK K) | (refine SG.p ?_; try intro b)) | ((with_reducible refine SC.p ?_); refine And.intro ?_ ?_) <;> intro hc <;> try simp only [push_cast, Int.reduceEq, Int.reduceLT, Int.reduceLE, Int.reduceNe] at hc | with_reducible refine r_rq (by first | decide | omega) ?_ | ((with_reducible refine SL.p ?_); first | refine ⟨_, rfl, ?_⟩ | refine ⟨_, _, _, rfl, ?_⟩ | (refine ⟨?_, rfl, ?_⟩; focus (simp; done))) | ((with_reducible first | apply i_ldn | apply i_ldnq); exact rfl; exact rfl; exact rfl) | ((try with_reducible refine d_reg ?_); simp only [go_sem, Nat.reduceAdd, Nat.reduceEqDiff, Int.reduceToNat, Nat.reduceMul, Nat.reduceSub]) | clear hK K)
    (refine i_ldn (e := e_api_Rec) (x := ⟨7, txn, prev, 0, 0, [], [], [], 0, (none, 0, 0), (none, 0, 0), 0, 0⟩) rfl rfl rfl ?_); ((with_reducible first | apply i_ret0 | apply i_ret2 | apply i_ret3 | apply i_ret); exact rfl); rfl
  by_cases h8 : kind = 8
  · subst h8
    rw [if_pos (.inr rfl)]
    repeat' ((fail_if_success with_reducible refine nph ?_); first | (with_reducible first | (refine d_seq ?_; intro K hK) | (refine hK _ _ ?_; clear hK K) | (refine SG.p ?_; try intro b)) | ((with_reducible refine SC.p ?_); refine And.intro ?_ ?_) <;> intro hc <;> try simp only [push_cast, Int.reduceEq, Int.reduceLT, Int.reduceLE, Int.reduceNe] at hc | with_reducible refine r_rq (by first | decide | omega) ?_ | ((with_reducible refine SL.p ?_); first | refine ⟨_, rfl, ?_⟩ | refine ⟨_, _, _, rfl, ?_⟩ | (refine ⟨?_, rfl, ?_⟩; focus (simp; done))) | ((with_reducible first | apply i_ldn | apply i_ldnq); exact rfl; exact rfl; exact rfl) | ((try with_reducible refine d_reg ?_); simp only [go_sem, Nat.reduceAdd, Nat.reduceEqDiff, Int.reduceToNat, Nat.reduceMul, Nat.reduceSub]) | clear hK K)
    (refine r_ph [ar b1 36 (rcl ⟨8, txn, prev, page, act, key, old, nw, next, im, tb, epoch, node⟩)] SX.p ?_); repeat' ((fail_if_success with_reducible refine nph ?_); first | (with_reducible first | (refine d_seq ?_; intro K hK) | (refine hK _ _ ?_; clear hK K) | (refine SG.p ?_; try intro b)) | ((with_reducible refine SC.p ?_); refine And.intro ?_ ?_) <;> intro hc <;> try simp only [push_cast, Int.reduceEq, Int.reduceLT, Int.reduceLE, Int.reduceNe] at hc | with_reducible refine r_rq (by first | decide | omega) ?_ | ((with_reducible refine SL.p ?_); first | refine ⟨_, rfl, ?_⟩ | refine ⟨_, _, _, rfl, ?_⟩ | (refine ⟨?_, rfl, ?_⟩; focus (simp; done))) | ((with_reducible first | apply i_ldn | apply i_ldnq); exact rfl; exact rfl; exact rfl) | ((try with_reducible refine d_reg ?_); simp only [go_sem, Nat.reduceAdd, Nat.reduceEqDiff, Int.reduceToNat, Nat.reduceMul, Nat.reduceSub]) | clear hK K)
    (refine i_ldn (e := e_api_Rec) (x := ⟨8, txn, prev, 0, 0, [], [], [], 0, (none, 0, 0), (none, 0, 0), 0, 0⟩) rfl rfl rfl ?_); repeat' ((fail_if_success with_reducible refine nph ?_); first | (with_reducible first | (refine d_seq ?_; intro K hK) | (refine hK _ _ ?_; clear hK K) | (refine SG.p ?_; try intro b)) | ((with_reducible refine SC.p ?_); refine And.intro ?_ ?_) <;> intro hc <;> try simp only [push_cast, Int.reduceEq, Int.reduceLT, Int.reduceLE, Int.reduceNe] at hc | with_reducible refine r_rq (by first | decide | omega) ?_ | ((with_reducible refine SL.p ?_); first | refine ⟨_, rfl, ?_⟩ | refine ⟨_, _, _, rfl, ?_⟩ | (refine ⟨?_, rfl, ?_⟩; focus (simp; done))) | ((with_reducible first | apply i_ldn | apply i_ldnq); exact rfl; exact rfl; exact rfl) | ((try with_reducible refine d_reg ?_); simp only [go_sem, Nat.reduceAdd, Nat.reduceEqDiff, Int.reduceToNat, Nat.reduceMul, Nat.reduceSub]) | clear hK K)
    (refine i_ldn (e := e_api_Rec) (x := ⟨8, txn, prev, 0, 0, [], [], [], 0, (none, 0, 0), (none, 0, 0), 0, 0⟩) rfl rfl rfl ?_); ((with_reducible first | apply i_ret0 | apply i_ret2 | apply i_ret3 | apply i_ret); exact rfl); rfl
  rw [if_neg (by omega)]
  by_cases h9 : kind = 9
  · subst h9
    rw [if_pos rfl]
    repeat' ((fail_if_success with_reducible refine nph ?_); first | (with_reducible first | (refine d_seq ?_; intro K hK) | (refine hK _ _ ?_; clear hK K) | (refine SG.p ?_; try intro b)) | ((with_reducible refine SC.p ?_); refine And.intro ?_ ?_) <;> intro hc <;> try simp only [push_cast, Int.reduceEq, Int.reduceLT, Int.reduceLE, Int.reduceNe] at hc | with_reducible refine r_rq (by first | decide | omega) ?_ | ((with_reducible refine SL.p ?_); first | refine ⟨_, rfl, ?_⟩ | refine ⟨_, _, _, rfl, ?_⟩ | (refine ⟨?_, rfl, ?_⟩; focus (simp; done))) | ((with_reducible first | apply i_ldn | apply i_ldnq); exact rfl; exact rfl; exact rfl) | ((try with_reducible refine d_reg ?_); simp only [go_sem, Nat.reduceAdd, Nat.reduceEqDiff, Int.reduceToNat, Nat.reduceMul, Nat.reduceSub]) | clear hK K)
    (refine i_ldn (e := e_api_Rec) (x := ⟨9, 0, 0, 0, 0, [], [], [], 0, (none, 0, 0), tb, 0, 0⟩) rfl rfl rfl ?_); repeat' ((fail_if_success with_reducible refine nph ?_); first | (with_reducible first | (refine d_seq ?_; intro K hK) | (refine hK _ _ ?_; clear hK K) | (refine SG.p ?_; try intro b)) | ((with_reducible refine SC.p ?_); refine And.intro ?_ ?_) <;> intro hc <;> try simp only [push_cast, Int.reduceEq, Int.reduceLT, Int.reduceLE, Int.reduceNe] at hc | with_reducible refine r_rq (by first | decide | omega) ?_ | ((with_reducible refine SL.p ?_); first | refine ⟨_, rfl, ?_⟩ | refine ⟨_, _, _, rfl, ?_⟩ | (refine ⟨?_, rfl, ?_⟩; focus (simp; done))) | ((with_reducible first | apply i_ldn | apply i_ldnq); exact rfl; exact rfl; exact rfl) | ((try with_reducible refine d_reg ?_); simp only [go_sem, Nat.reduceAdd, Nat.reduceEqDiff, Int.reduceToNat, Nat.reduceMul, Nat.reduceSub]) | clear hK K)
    (refine i_ldn (e := e_api_Rec) (x := ⟨9, 0, 0, 0, 0, [], [], [], 0, (none, 0, 0), tb, 0, 0⟩) rfl rfl rfl ?_); ((with_reducible first | apply i_ret0 | apply i_ret2 | apply i_ret3 | apply i_ret); exact rfl); rfl
  rw [if_neg h9]
  by_cases h10 : kind = 10
  · subst h10
    rw [if_pos rfl]
    repeat' ((fail_if_success with_reducible refine nph ?_); first | (with_reducible first | (refine d_seq ?_; intro K hK) | (refine hK _ _ ?_; clear hK K) | (refine SG.p ?_; try intro b)) | ((with_reducible refine SC.p ?_); refine And.intro ?_ ?_) <;> intro hc <;> try simp only [push_cast, Int.reduceEq, Int.reduceLT, Int.reduceLE, Int.reduceNe] at hc | with_reducible refine r_rq (by first | decide | omega) ?_ | ((with_reducible refine SL.p ?_); first | refine ⟨_, rfl, ?_⟩ | refine ⟨_, _, _, rfl, ?_⟩ | (refine ⟨?_, rfl, ?_⟩; focus (simp; done))) | ((with_reducible first | apply i_ldn | apply i_ldnq); exact rfl; exact rfl; exact rfl) | ((try with_reducible refine d_reg ?_); simp only [go_sem, Nat.reduceAdd, Nat.reduceEqDiff, Int.reduceToNat, Nat.reduceMul, Nat.reduceSub]) | clear hK K)
    (refine r_ph [ar b1 36 (rcl ⟨10, txn, prev, page, act, key, old, nw, next, im, tb, epoch, node⟩)] SX.p ?_); repeat' ((fail_if_success with_reducible refine nph ?_); first | (with_reducible first | (refine d_seq ?_; intro K hK) | (refine hK _ _ ?_; clear hK K) | (refine SG.p ?_; try intro b)) | ((with_reducible refine SC.p ?_); refine And.intro ?_ ?_) <;> intro hc <;> try simp only [push_cast, Int.reduceEq, Int.reduceLT, Int.reduceLE, Int.reduceNe] at hc | with_reducible refine r_rq (by first | decide | omega) ?_ | ((with_reducible refine SL.p ?_); first | refine ⟨_, rfl, ?_⟩ | refine ⟨_, _, _, rfl, ?_⟩ | (refine ⟨?_, rfl, ?_⟩; focus (simp; done))) | ((with_reducible first | apply i_ldn | apply i_ldnq); exact rfl; exact rfl; exact rfl) | ((try with_reducible refine d_reg ?_); simp only [go_sem, Nat.reduceAdd, Nat.reduceEqDiff, Int.reduceToNat, Nat.reduceMul, Nat.reduceSub]) | clear hK K)
    (refine i_ldn (e := e_api_Rec) (x := ⟨10, 0, 0, 0, 0, [], [], [], 0, (none, 0, 0), (none, 0, 0), epoch, node⟩) rfl rfl rfl ?_); repeat' ((fail_if_success with_reducible refine nph ?_); first | (with_reducible first | (refine d_seq ?_; intro K hK) | (refine hK _ _ ?_; clear hK K) | (refine SG.p ?_; try intro b)) | ((with_reducible refine SC.p ?_); refine And.intro ?_ ?_) <;> intro hc <;> try simp only [push_cast, Int.reduceEq, Int.reduceLT, Int.reduceLE, Int.reduceNe] at hc | with_reducible refine r_rq (by first | decide | omega) ?_ | ((with_reducible refine SL.p ?_); first | refine ⟨_, rfl, ?_⟩ | refine ⟨_, _, _, rfl, ?_⟩ | (refine ⟨?_, rfl, ?_⟩; focus (simp; done))) | ((with_reducible first | apply i_ldn | apply i_ldnq); exact rfl; exact rfl; exact rfl) | ((try with_reducible refine d_reg ?_); simp only [go_sem, Nat.reduceAdd, Nat.reduceEqDiff, Int.reduceToNat, Nat.reduceMul, Nat.reduceSub]) | clear hK K)
    (refine i_ldn (e := e_api_Rec) (x := ⟨10, 0, 0, 0, 0, [], [], [], 0, (none, 0, 0), (none, 0, 0), epoch, node⟩) rfl rfl rfl ?_); ((with_reducible first | apply i_ret0 | apply i_ret2 | apply i_ret3 | apply i_ret); exact rfl); rfl
  rw [if_neg h10]
  repeat' ((fail_if_success with_reducible refine nph ?_); first | (with_reducible first | (refine d_seq ?_; intro K hK) | (refine hK _ _ ?_; clear hK K) | (refine SG.p ?_; try intro b)) | ((with_reducible refine SC.p ?_); refine And.intro ?_ ?_) <;> intro hc <;> try simp only [push_cast, Int.reduceEq, Int.reduceLT, Int.reduceLE, Int.reduceNe] at hc | with_reducible refine r_rq (by first | decide | omega) ?_ | ((with_reducible refine SL.p ?_); first | refine ⟨_, rfl, ?_⟩ | refine ⟨_, _, _, rfl, ?_⟩ | (refine ⟨?_, rfl, ?_⟩; focus (simp; done))) | ((with_reducible first | apply i_ldn | apply i_ldnq); exact rfl; exact rfl; exact rfl) | ((try with_reducible refine d_reg ?_); simp only [go_sem, Nat.reduceAdd, Nat.reduceEqDiff, Int.reduceToNat, Nat.reduceMul, Nat.reduceSub]) | clear hK K)
  all_goals try (first | contradiction | (simp only [ reduceCtorEq] at *; done) | (exfalso; omega))
  (refine i_ldn (e := e_api_Rec) (x := ⟨kind, 0, 0, 0, 0, [], [], [], 0, (none, 0, 0), (none, 0, 0), 0, 0⟩) rfl rfl rfl ?_); repeat' ((fail_if_success with_reducible refine nph ?_); first | (with_reducible first | (refine d_seq ?_; intro K hK) | (refine hK _ _ ?_; clear hK K) | (refine SG.p ?_; try intro b)) | ((with_reducible refine SC.p ?_); refine And.intro ?_ ?_) <;> intro hc <;> try simp only [push_cast, Int.reduceEq, Int.reduceLT, Int.reduceLE, Int.reduceNe] at hc | with_reducible refine r_rq (by first | decide | omega) ?_ | ((with_reducible refine SL.p ?_); first | refine ⟨_, rfl, ?_⟩ | refine ⟨_, _, _, rfl, ?_⟩ | (refine ⟨?_, rfl, ?_⟩; focus (simp; done))) | ((with_reducible first | apply i_ldn | apply i_ldnq); exact rfl; exact rfl; exact rfl) | ((try with_reducible refine d_reg ?_); simp only [go_sem, Nat.reduceAdd, Nat.reduceEqDiff, Int.reduceToNat, Nat.reduceMul, Nat.reduceSub]) | clear hK K)
  (refine i_ldn (e := e_api_Rec) (x := ⟨kind, 0, 0, 0, 0, [], [], [], 0, (none, 0, 0), (none, 0, 0), 0, 0⟩) rfl rfl rfl ?_); ((with_reducible first | apply i_ret0 | apply i_ret2 | apply i_ret3 | apply i_ret); exact rfl); rfl
end Go.Sp
/- Records: a record's bytes, a frame. -/
namespace Go.Sp
open Go Go.Proofs
set_option linter.unusedSimpArgs false
set_option linter.unusedVariables false
set_option maxRecDepth 10000
def lnkc (x : Wt) (c : Rc) : Wt := layN (layN x c.txn 6) c.prev 6
def chgc0 (x : Wt) (c : Rc) (act : Int) : Wt := if act = 3 then layT (layN x c.page 2) c.key else layT (layT (layN x c.page 2) c.key) c.old
def chgc (x : Wt) (c : Rc) (act : Int) : Wt := if act = 4 then chgc0 x c act else layT (chgc0 x c act) c.nw
def tbg (x : Wt) (l : List api_Active) : Wt := l.foldl (fun x a => layN (layN x a.Txn 6) a.Last 6) x
def bfin (x : Wt) (e : Int) : Wt := if (if e = 0 then x.2 else e) = 0 then (if 4096 < x.1.length then ([], 3) else (x.1, 0)) else ([], if e = 0 then x.2 else e)
def Rc.body (c : Rc) : Wt :=
  if c.kind = 1 then (if c.imgs.length = 1 then bfin (ims (layN ([], 0) c.kind 1) c.imgs).1 (ims (layN ([], 0) c.kind 1) c.imgs).2 else ([], 4))
  else if c.kind = 2 then bfin (ims (layN ([], 0) c.kind 1) c.imgs).1 (ims (layN ([], 0) c.kind 1) c.imgs).2
  else if c.kind = 6 then (if c.act < 3 ∨ 5 < c.act then ([], 4) else bfin (chgc (layN (layN (lnkc (layN ([], 0) c.kind 1) c) c.next 6) c.act 1) c c.act) (cutP c.key c.old c.nw))
  else if c.kind = 3 ∨ c.kind = 4 ∨ c.kind = 5 then bfin (chgc (lnkc (layN ([], 0) c.kind 1) c) c c.kind) (cutP c.key c.old c.nw)
  else if c.kind = 7 ∨ c.kind = 8 then bfin (lnkc (layN ([], 0) c.kind 1) c) 0
  else if c.kind = 9 then bfin (tbg (layN (layN ([], 0) c.kind 1) (c.tbl.length : Int) 1) c.tbl) 0
  else if c.kind = 10 then bfin (layN (layN (layN ([], 0) c.kind 1) c.epoch 4) c.node 1) 0
  else ([], 1)
set_option maxHeartbeats 4000000 in
theorem g71 (A : HP) (r : api_Rec) (c : Rc) (h : RcAt A r c) : Fp (eT2 eS eI) Tryz.prog 71 #[v_api_Rec r] [A] c.body := fun L => by
  obtain ⟨e, hi, ht, li, lt⟩ := h
  obtain ⟨kind, txn, prev, page, act, key, old, nw, next, imgs, tbl, epoch, node⟩ := c
  obtain ⟨kind', txn', prev', page', act', key', old', nw', next', im, tb, epoch', node'⟩ := r
  simp only [Rc.of, Rc.mk.injEq] at e
  obtain ⟨rfl, rfl, rfl, rfl, rfl, rfl, rfl, rfl, rfl, _, _, rfl, rfl⟩ := e
  dsimp only at hi ht li lt
  have hin := hi.len2 cImg_len
  have htn := ht.len2 cAct_len
  obtain ⟨ip, iN, ic⟩ := im
  obtain ⟨tp, tN, tc⟩ := tb
  dsimp only at hin htn
  subst hin htn
  generalize hB : Rc.body _ = B
  unfold Rc.body at hB
  dsimp only at hB
  obtain ⟨rr, hrr⟩ : ∃ rr : api_Rec, rr = ⟨kind, txn, prev, page, act, key, old, nw, next, (ip, imgs.length, ic), (tp, tbl.length, tc), epoch, node⟩ := ⟨_, rfl⟩
  refine c71_fn rfl rfl ?_
  have K1 := layN_len ([], 0) kind 1
  dsimp only [List.length_nil] at K1
  refine d_seq ?_
  intro K0 hK0
  refine d_reg ?_
  simp only [go_sem, Nat.reduceAdd, Nat.reduceEqDiff, Int.reduceToNat, Nat.reduceMul, Nat.reduceSub]
  refine r_nwc ?_
  intro b1
  refine hK0 _ _ ?_
  clear hK0 K0
  refine d_seq ?_
  intro K0 hK0
  refine d_reg ?_
  simp only [go_sem, Nat.reduceAdd, Nat.reduceEqDiff, Int.reduceToNat, Nat.reduceMul, Nat.reduceSub]
  refine r_nwc ?_
  intro wb
  refine hK0 _ _ ?_
  clear hK0 K0
  refine d_seq ?_
  intro K0 hK0
  refine d_reg ?_
  simp only [go_sem, Nat.reduceAdd, Nat.reduceEqDiff, Int.reduceToNat, Nat.reduceMul, Nat.reduceSub]
  refine i_ld (e := eI) rfl ?_
  refine i_clq (gN _ ([], 0) kind 1 (by decide) (by decide) (by decide)) ?_
  refine hK0 _ _ ?_
  clear hK0 K0
  generalize layN ([], 0) kind 1 = x0 at *
  refine d_seq ?_
  intro K0 hK0
  refine d_reg ?_
  simp only [go_sem, Nat.reduceAdd, Nat.reduceEqDiff, Int.reduceToNat, Nat.reduceMul, Nat.reduceSub]
  refine hK0 _ _ ?_
  clear hK0 K0
  refine d_seq ?_
  intro K0 hK0
  have fin : ∀ (x : Wt) (e : Int) (tl : Env), bfin x e = B → E (wr wb x :: ar b1 36 [.int .i64 kind, .int .i64 txn, .int .i64 prev, .int .i64 page, .int .i64 act, str key, str old, str nw, .int .i64 next, .slice ip imgs.length ic, .slice tp tbl.length tc, .int .i64 epoch, .int .i64 node] :: A :: L) (K0 ((4, .pointer (some ⟨wb, 0, none⟩)) :: (5, .int .i64 e) :: tl)) := by
    intro x e tl hx
    subst hx
    refine hK0 _ _ ?_
    clear hK0 K0
    unfold bfin
    obtain ⟨t, f⟩ := x
    dsimp only
    by_cases he : e = 0
    · subst he
      rw [if_pos rfl]
      by_cases hf : f = 0
      · subst hf
        rw [if_pos rfl]
        by_cases hl : 4096 < t.length
        · rw [if_pos hl]
          repeat' ((fail_if_success with_reducible refine nph ?_); first | (with_reducible first | (refine d_seq ?_; intro K hK) | (refine hK _ _ ?_; clear hK K) | (refine SG.p ?_; try intro b)) | ((with_reducible refine SC.p ?_); refine And.intro ?_ ?_) <;> intro hc <;> try simp only [push_cast, Int.reduceEq, Int.reduceLT, Int.reduceLE, Int.reduceNe] at hc | with_reducible refine r_rq (by first | decide | omega) ?_ | ((with_reducible refine SL.p ?_); first | refine ⟨_, rfl, ?_⟩ | refine ⟨_, _, _, rfl, ?_⟩ | (refine ⟨?_, rfl, ?_⟩; focus (simp; done))) | ((with_reducible first | apply i_ldn | apply i_ldnq); exact rfl; exact rfl; exact rfl) | ((try with_reducible refine d_reg ?_); simp only [go_sem, Nat.reduceAdd, Nat.reduceEqDiff, Int.reduceToNat, Nat.reduceMul, Nat.reduceSub]) | clear hK K)
          refine i_clp (f96 wb (t, 0)) ?_
          repeat' ((fail_if_success with_reducible refine nph ?_); first | (with_reducible first | (refine d_seq ?_; intro K hK) | (refine hK _ _ ?_; clear hK K) | (refine SG.p ?_; try intro b)) | ((with_reducible refine SC.p ?_); refine And.intro ?_ ?_) <;> intro hc <;> try simp only [push_cast, Int.reduceEq, Int.reduceLT, Int.reduceLE, Int.reduceNe] at hc | with_reducible refine r_rq (by first | decide | omega) ?_ | ((with_reducible refine SL.p ?_); first | refine ⟨_, rfl, ?_⟩ | refine ⟨_, _, _, rfl, ?_⟩ | (refine ⟨?_, rfl, ?_⟩; focus (simp; done))) | ((with_reducible first | apply i_ldn | apply i_ldnq); exact rfl; exact rfl; exact rfl) | ((try with_reducible refine d_reg ?_); simp only [go_sem, Nat.reduceAdd, Nat.reduceEqDiff, Int.reduceToNat, Nat.reduceMul, Nat.reduceSub]) | clear hK K)
          all_goals try (first | contradiction | (simp only [ reduceCtorEq] at *; done) | (exfalso; omega))
          (with_reducible first | apply i_ret0 | apply i_ret2 | apply i_ret3 | apply i_ret); exact rfl
          rfl
        · rw [if_neg hl]
          repeat' ((fail_if_success with_reducible refine nph ?_); first | (with_reducible first | (refine d_seq ?_; intro K hK) | (refine hK _ _ ?_; clear hK K) | (refine SG.p ?_; try intro b)) | ((with_reducible refine SC.p ?_); refine And.intro ?_ ?_) <;> intro hc <;> try simp only [push_cast, Int.reduceEq, Int.reduceLT, Int.reduceLE, Int.reduceNe] at hc | with_reducible refine r_rq (by first | decide | omega) ?_ | ((with_reducible refine SL.p ?_); first | refine ⟨_, rfl, ?_⟩ | refine ⟨_, _, _, rfl, ?_⟩ | (refine ⟨?_, rfl, ?_⟩; focus (simp; done))) | ((with_reducible first | apply i_ldn | apply i_ldnq); exact rfl; exact rfl; exact rfl) | ((try with_reducible refine d_reg ?_); simp only [go_sem, Nat.reduceAdd, Nat.reduceEqDiff, Int.reduceToNat, Nat.reduceMul, Nat.reduceSub]) | clear hK K)
          refine i_clp (f96 wb (t, 0)) ?_
          repeat' ((fail_if_success with_reducible refine nph ?_); first | (with_reducible first | (refine d_seq ?_; intro K hK) | (refine hK _ _ ?_; clear hK K) | (refine SG.p ?_; try intro b)) | ((with_reducible refine SC.p ?_); refine And.intro ?_ ?_) <;> intro hc <;> try simp only [push_cast, Int.reduceEq, Int.reduceLT, Int.reduceLE, Int.reduceNe] at hc | with_reducible refine r_rq (by first | decide | omega) ?_ | ((with_reducible refine SL.p ?_); first | refine ⟨_, rfl, ?_⟩ | refine ⟨_, _, _, rfl, ?_⟩ | (refine ⟨?_, rfl, ?_⟩; focus (simp; done))) | ((with_reducible first | apply i_ldn | apply i_ldnq); exact rfl; exact rfl; exact rfl) | ((try with_reducible refine d_reg ?_); simp only [go_sem, Nat.reduceAdd, Nat.reduceEqDiff, Int.reduceToNat, Nat.reduceMul, Nat.reduceSub]) | clear hK K)
          all_goals try (first | contradiction | (simp only [ reduceCtorEq] at *; done) | (exfalso; omega))
          (with_reducible first | apply i_ret0 | apply i_ret2 | apply i_ret3 | apply i_ret); exact rfl
          rfl
      · rw [if_neg hf]
        repeat' ((fail_if_success with_reducible refine nph ?_); first | (with_reducible first | (refine d_seq ?_; intro K hK) | (refine hK _ _ ?_; clear hK K) | (refine SG.p ?_; try intro b)) | ((with_reducible refine SC.p ?_); refine And.intro ?_ ?_) <;> intro hc <;> try simp only [push_cast, Int.reduceEq, Int.reduceLT, Int.reduceLE, Int.reduceNe] at hc | with_reducible refine r_rq (by first | decide | omega) ?_ | ((with_reducible refine SL.p ?_); first | refine ⟨_, rfl, ?_⟩ | refine ⟨_, _, _, rfl, ?_⟩ | (refine ⟨?_, rfl, ?_⟩; focus (simp; done))) | ((with_reducible first | apply i_ldn | apply i_ldnq); exact rfl; exact rfl; exact rfl) | ((try with_reducible refine d_reg ?_); simp only [go_sem, Nat.reduceAdd, Nat.reduceEqDiff, Int.reduceToNat, Nat.reduceMul, Nat.reduceSub]) | clear hK K)
        refine i_clp (f96 wb (t, f)) ?_
        repeat' ((fail_if_success with_reducible refine nph ?_); first | (with_reducible first | (refine d_seq ?_; intro K hK) | (refine hK _ _ ?_; clear hK K) | (refine SG.p ?_; try intro b)) | ((with_reducible refine SC.p ?_); refine And.intro ?_ ?_) <;> intro hc <;> try simp only [push_cast, Int.reduceEq, Int.reduceLT, Int.reduceLE, Int.reduceNe] at hc | with_reducible refine r_rq (by first | decide | omega) ?_ | ((with_reducible refine SL.p ?_); first | refine ⟨_, rfl, ?_⟩ | refine ⟨_, _, _, rfl, ?_⟩ | (refine ⟨?_, rfl, ?_⟩; focus (simp; done))) | ((with_reducible first | apply i_ldn | apply i_ldnq); exact rfl; exact rfl; exact rfl) | ((try with_reducible refine d_reg ?_); simp only [go_sem, Nat.reduceAdd, Nat.reduceEqDiff, Int.reduceToNat, Nat.reduceMul, Nat.reduceSub]) | clear hK K)
        all_goals try (first | contradiction | (simp only [ reduceCtorEq] at *; done) | (exfalso; omega))
        (with_reducible first | apply i_ret0 | apply i_ret2 | apply i_ret3 | apply i_ret); exact rfl
        rfl
    · rw [if_neg he, if_neg he]
      repeat' ((fail_if_success with_reducible refine nph ?_); first | (with_reducible first | (refine d_seq ?_; intro K hK) | (refine hK _ _ ?_; clear hK K) | (refine SG.p ?_; try intro b)) | ((with_reducible refine SC.p ?_); refine And.intro ?_ ?_) <;> intro hc <;> try simp only [push_cast, Int.reduceEq, Int.reduceLT, Int.reduceLE, Int.reduceNe] at hc | with_reducible refine r_rq (by first | decide | omega) ?_ | ((with_reducible refine SL.p ?_); first | refine ⟨_, rfl, ?_⟩ | refine ⟨_, _, _, rfl, ?_⟩ | (refine ⟨?_, rfl, ?_⟩; focus (simp; done))) | ((with_reducible first | apply i_ldn | apply i_ldnq); exact rfl; exact rfl; exact rfl) | ((try with_reducible refine d_reg ?_); simp only [go_sem, Nat.reduceAdd, Nat.reduceEqDiff, Int.reduceToNat, Nat.reduceMul, Nat.reduceSub]) | clear hK K)
      refine i_clp (f96 wb (t, f)) ?_
      repeat' ((fail_if_success with_reducible refine nph ?_); first | (with_reducible first | (refine d_seq ?_; intro K hK) | (refine hK _ _ ?_; clear hK K) | (refine SG.p ?_; try intro b)) | ((with_reducible refine SC.p ?_); refine And.intro ?_ ?_) <;> intro hc <;> try simp only [push_cast, Int.reduceEq, Int.reduceLT, Int.reduceLE, Int.reduceNe] at hc | with_reducible refine r_rq (by first | decide | omega) ?_ | ((with_reducible refine SL.p ?_); first | refine ⟨_, rfl, ?_⟩ | refine ⟨_, _, _, rfl, ?_⟩ | (refine ⟨?_, rfl, ?_⟩; focus (simp; done))) | ((with_reducible first | apply i_ldn | apply i_ldnq); exact rfl; exact rfl; exact rfl) | ((try with_reducible refine d_reg ?_); simp only [go_sem, Nat.reduceAdd, Nat.reduceEqDiff, Int.reduceToNat, Nat.reduceMul, Nat.reduceSub]) | clear hK K)
      all_goals try (first | contradiction | (simp only [ reduceCtorEq] at *; done) | (exfalso; omega))
      (with_reducible first | apply i_ret0 | apply i_ret2 | apply i_ret3 | apply i_ret); exact rfl
      rfl
  clear hK0
  by_cases h1 : kind = 1
  · subst h1
    rw [if_pos rfl] at hB
    by_cases hl : imgs.length = 1
    · rw [if_pos hl] at hB
      repeat' ((fail_if_success with_reducible refine nph ?_); first | (with_reducible first | (refine d_seq ?_; intro K hK) | (refine hK _ _ ?_; clear hK K) | (refine SG.p ?_; try intro b)) | ((with_reducible refine SC.p ?_); refine And.intro ?_ ?_) <;> intro hc <;> try simp only [push_cast, Int.reduceEq, Int.reduceLT, Int.reduceLE, Int.reduceNe] at hc | with_reducible refine r_rq (by first | decide | omega) ?_ | ((with_reducible refine SL.p ?_); first | refine ⟨_, rfl, ?_⟩ | refine ⟨_, _, _, rfl, ?_⟩ | (refine ⟨?_, rfl, ?_⟩; focus (simp; done))) | ((with_reducible first | apply i_ldn | apply i_ldnq); exact rfl; exact rfl; exact rfl) | ((try with_reducible refine d_reg ?_); simp only [go_sem, Nat.reduceAdd, Nat.reduceEqDiff, Int.reduceToNat, Nat.reduceMul, Nat.reduceSub]) | clear hK K)
      all_goals try (first | contradiction | (simp only [ reduceCtorEq] at *; done) | (exfalso; omega))
      refine i_clq (g104 A wb x0 (ip, imgs.length, ic) imgs hi li (by omega)) ?_
      exact (fin _ _ _ hB).sub SX.p
    · rw [if_neg hl] at hB
      repeat' ((fail_if_success with_reducible refine nph ?_); first | (with_reducible first | (refine d_seq ?_; intro K hK) | (refine hK _ _ ?_; clear hK K) | (refine SG.p ?_; try intro b)) | ((with_reducible refine SC.p ?_); refine And.intro ?_ ?_) <;> intro hc <;> try simp only [push_cast, Int.reduceEq, Int.reduceLT, Int.reduceLE, Int.reduceNe] at hc | with_reducible refine r_rq (by first | decide | omega) ?_ | ((with_reducible refine SL.p ?_); first | refine ⟨_, rfl, ?_⟩ | refine ⟨_, _, _, rfl, ?_⟩ | (refine ⟨?_, rfl, ?_⟩; focus (simp; done))) | ((with_reducible first | apply i_ldn | apply i_ldnq); exact rfl; exact rfl; exact rfl) | ((try with_reducible refine d_reg ?_); simp only [go_sem, Nat.reduceAdd, Nat.reduceEqDiff, Int.reduceToNat, Nat.reduceMul, Nat.reduceSub]) | clear hK K)
      all_goals try (first | contradiction | (simp only [ reduceCtorEq] at *; done) | (exfalso; omega))
      subst hB
      (with_reducible first | apply i_ret0 | apply i_ret2 | apply i_ret3 | apply i_ret); exact rfl
      rfl
  rw [if_neg h1] at hB
  by_cases h2 : kind = 2
  · subst h2
    rw [if_pos rfl] at hB
    repeat' ((fail_if_success with_reducible refine nph ?_); first | (with_reducible first | (refine d_seq ?_; intro K hK) | (refine hK _ _ ?_; clear hK K) | (refine SG.p ?_; try intro b)) | ((with_reducible refine SC.p ?_); refine And.intro ?_ ?_) <;> intro hc <;> try simp only [push_cast, Int.reduceEq, Int.reduceLT, Int.reduceLE, Int.reduceNe] at hc | with_reducible refine r_rq (by first | decide | omega) ?_ | ((with_reducible refine SL.p ?_); first | refine ⟨_, rfl, ?_⟩ | refine ⟨_, _, _, rfl, ?_⟩ | (refine ⟨?_, rfl, ?_⟩; focus (simp; done))) | ((with_reducible first | apply i_ldn | apply i_ldnq); exact rfl; exact rfl; exact rfl) | ((try with_reducible refine d_reg ?_); simp only [go_sem, Nat.reduceAdd, Nat.reduceEqDiff, Int.reduceToNat, Nat.reduceMul, Nat.reduceSub]) | clear hK K)
    all_goals try (first | contradiction | (simp only [ reduceCtorEq] at *; done) | (exfalso; omega))
    refine i_clq (g104 A wb x0 (ip, imgs.length, ic) imgs hi li (by omega)) ?_
    exact (fin _ _ _ hB).sub SX.p
  rw [if_neg h2] at hB
  by_cases h6 : kind = 6
  · subst h6
    rw [if_pos rfl] at hB
    by_cases ha : act < 3 ∨ 5 < act
    · rw [if_pos ha] at hB
      repeat' ((fail_if_success with_reducible refine nph ?_); first | (with_reducible first | (refine d_seq ?_; intro K hK) | (refine hK _ _ ?_; clear hK K) | (refine SG.p ?_; try intro b)) | ((with_reducible refine SC.p ?_); refine And.intro ?_ ?_) <;> intro hc <;> try simp only [push_cast, Int.reduceEq, Int.reduceLT, Int.reduceLE, Int.reduceNe] at hc | with_reducible refine r_rq (by first | decide | omega) ?_ | ((with_reducible refine SL.p ?_); first | refine ⟨_, rfl, ?_⟩ | refine ⟨_, _, _, rfl, ?_⟩ | (refine ⟨?_, rfl, ?_⟩; focus (simp; done))) | ((with_reducible first | apply i_ldn | apply i_ldnq); exact rfl; exact rfl; exact rfl) | ((try with_reducible refine d_reg ?_); simp only [go_sem, Nat.reduceAdd, Nat.reduceEqDiff, Int.reduceToNat, Nat.reduceMul, Nat.reduceSub]) | clear hK K)
      all_goals try (first | contradiction | (simp only [ reduceCtorEq] at *; done) | (exfalso; omega))
      all_goals
        subst hB
        (with_reducible first | apply i_ret0 | apply i_ret2 | apply i_ret3 | apply i_ret); exact rfl
        rfl
    · rw [if_neg ha] at hB
      repeat' ((fail_if_success with_reducible refine nph ?_); first | (with_reducible first | (refine d_seq ?_; intro K hK) | (refine hK _ _ ?_; clear hK K) | (refine SG.p ?_; try intro b)) | ((with_reducible refine SC.p ?_); refine And.intro ?_ ?_) <;> intro hc <;> try simp only [push_cast, Int.reduceEq, Int.reduceLT, Int.reduceLE, Int.reduceNe] at hc | with_reducible refine r_rq (by first | decide | omega) ?_ | ((with_reducible refine SL.p ?_); first | refine ⟨_, rfl, ?_⟩ | refine ⟨_, _, _, rfl, ?_⟩ | (refine ⟨?_, rfl, ?_⟩; focus (simp; done))) | ((with_reducible first | apply i_ldn | apply i_ldnq); exact rfl; exact rfl; exact rfl) | ((try with_reducible refine d_reg ?_); simp only [go_sem, Nat.reduceAdd, Nat.reduceEqDiff, Int.reduceToNat, Nat.reduceMul, Nat.reduceSub]) | clear hK K)
      all_goals try (exfalso; omega)
      refine i_clp (g105 key old nw _) ?_
      have q1 := layN_len x0 txn 6
      have q2 := layN_len (layN x0 txn 6) prev 6
      have q3 := layN_len (layN (layN x0 txn 6) prev 6) next 6
      have q4 := layN_len (layN (layN (layN x0 txn 6) prev 6) next 6) act 1
      repeat' ((fail_if_success with_reducible refine nph ?_); first | (with_reducible first | (refine d_seq ?_; intro K hK) | (refine hK _ _ ?_; clear hK K) | (refine SG.p ?_; try intro b)) | ((with_reducible refine SC.p ?_); refine And.intro ?_ ?_) <;> intro hc <;> try simp only [push_cast, Int.reduceEq, Int.reduceLT, Int.reduceLE, Int.reduceNe] at hc | with_reducible refine r_rq (by first | decide | omega) ?_ | ((with_reducible refine SL.p ?_); first | refine ⟨_, rfl, ?_⟩ | refine ⟨_, _, _, rfl, ?_⟩ | (refine ⟨?_, rfl, ?_⟩; focus (simp; done))) | ((with_reducible first | apply i_ldn | apply i_ldnq); exact rfl; exact rfl; exact rfl) | ((try with_reducible refine d_reg ?_); simp only [go_sem, Nat.reduceAdd, Nat.reduceEqDiff, Int.reduceToNat, Nat.reduceMul, Nat.reduceSub]) | clear hK K)
      refine i_ldn (e := e_api_Rec) (x := ⟨6, txn, prev, page, act, key, old, nw, next, (ip, imgs.length, ic), (tp, tbl.length, tc), epoch, node⟩) rfl rfl rfl ?_
      refine i_clq (show Fq eN Tryz.prog 106 #[.pointer (some ⟨wb, 0, none⟩), v_api_Rec ⟨6, txn, prev, page, act, key, old, nw, next, (ip, imgs.length, ic), (tp, tbl.length, tc), epoch, node⟩] [wr wb x0] [wr wb (layN (layN x0 txn 6) prev 6)] () from g106 wb x0 _ (by omega)) ?_
      repeat' ((fail_if_success with_reducible refine nph ?_); first | (with_reducible first | (refine d_seq ?_; intro K hK) | (refine hK _ _ ?_; clear hK K) | (refine SG.p ?_; try intro b)) | ((with_reducible refine SC.p ?_); refine And.intro ?_ ?_) <;> intro hc <;> try simp only [push_cast, Int.reduceEq, Int.reduceLT, Int.reduceLE, Int.reduceNe] at hc | with_reducible refine r_rq (by first | decide | omega) ?_ | ((with_reducible refine SL.p ?_); first | refine ⟨_, rfl, ?_⟩ | refine ⟨_, _, _, rfl, ?_⟩ | (refine ⟨?_, rfl, ?_⟩; focus (simp; done))) | ((with_reducible first | apply i_ldn | apply i_ldnq); exact rfl; exact rfl; exact rfl) | ((try with_reducible refine d_reg ?_); simp only [go_sem, Nat.reduceAdd, Nat.reduceEqDiff, Int.reduceToNat, Nat.reduceMul, Nat.reduceSub]) | clear hK K)
      refine i_clq (gN wb (layN (layN x0 txn 6) prev 6) next 6 (by decide) (by decide) (by omega)) ?_
      repeat' ((fail_if_success with_reducible refine nph ?_); first | (with_reducible first | (refine d_seq ?_; intro K hK) | (refine hK _ _ ?_; clear hK K) | (refine SG.p ?_; try intro b)) | ((with_reducible refine SC.p ?_); refine And.intro ?_ ?_) <;> intro hc <;> try simp only [push_cast, Int.reduceEq, Int.reduceLT, Int.reduceLE, Int.reduceNe] at hc | with_reducible refine r_rq (by first | decide | omega) ?_ | ((with_reducible refine SL.p ?_); first | refine ⟨_, rfl, ?_⟩ | refine ⟨_, _, _, rfl, ?_⟩ | (refine ⟨?_, rfl, ?_⟩; focus (simp; done))) | ((with_reducible first | apply i_ldn | apply i_ldnq); exact rfl; exact rfl; exact rfl) | ((try with_reducible refine d_reg ?_); simp only [go_sem, Nat.reduceAdd, Nat.reduceEqDiff, Int.reduceToNat, Nat.reduceMul, Nat.reduceSub]) | clear hK K)
      refine i_clq (gN wb (layN (layN (layN x0 txn 6) prev 6) next 6) act 1 (by decide) (by decide) (by omega)) ?_
      repeat' ((fail_if_success with_reducible refine nph ?_); first | (with_reducible first | (refine d_seq ?_; intro K hK) | (refine hK _ _ ?_; clear hK K) | (refine SG.p ?_; try intro b)) | ((with_reducible refine SC.p ?_); refine And.intro ?_ ?_) <;> intro hc <;> try simp only [push_cast, Int.reduceEq, Int.reduceLT, Int.reduceLE, Int.reduceNe] at hc | with_reducible refine r_rq (by first | decide | omega) ?_ | ((with_reducible refine SL.p ?_); first | refine ⟨_, rfl, ?_⟩ | refine ⟨_, _, _, rfl, ?_⟩ | (refine ⟨?_, rfl, ?_⟩; focus (simp; done))) | ((with_reducible first | apply i_ldn | apply i_ldnq); exact rfl; exact rfl; exact rfl) | ((try with_reducible refine d_reg ?_); simp only [go_sem, Nat.reduceAdd, Nat.reduceEqDiff, Int.reduceToNat, Nat.reduceMul, Nat.reduceSub]) | clear hK K)
      refine i_ldn (e := e_api_Rec) (x := ⟨6, txn, prev, page, act, key, old, nw, next, (ip, imgs.length, ic), (tp, tbl.length, tc), epoch, node⟩) rfl rfl rfl ?_
      repeat' ((fail_if_success with_reducible refine nph ?_); first | (with_reducible first | (refine d_seq ?_; intro K hK) | (refine hK _ _ ?_; clear hK K) | (refine SG.p ?_; try intro b)) | ((with_reducible refine SC.p ?_); refine And.intro ?_ ?_) <;> intro hc <;> try simp only [push_cast, Int.reduceEq, Int.reduceLT, Int.reduceLE, Int.reduceNe] at hc | with_reducible refine r_rq (by first | decide | omega) ?_ | ((with_reducible refine SL.p ?_); first | refine ⟨_, rfl, ?_⟩ | refine ⟨_, _, _, rfl, ?_⟩ | (refine ⟨?_, rfl, ?_⟩; focus (simp; done))) | ((with_reducible first | apply i_ldn | apply i_ldnq); exact rfl; exact rfl; exact rfl) | ((try with_reducible refine d_reg ?_); simp only [go_sem, Nat.reduceAdd, Nat.reduceEqDiff, Int.reduceToNat, Nat.reduceMul, Nat.reduceSub]) | clear hK K)
      refine i_clq (g107 wb (layN (layN (layN (layN x0 txn 6) prev 6) next 6) act 1) ⟨6, txn, prev, page, act, key, old, nw, next, (ip, imgs.length, ic), (tp, tbl.length, tc), epoch, node⟩ act (by omega)) ?_
      repeat' ((fail_if_success with_reducible refine nph ?_); first | (with_reducible first | (refine d_seq ?_; intro K hK) | (refine hK _ _ ?_; clear hK K) | (refine SG.p ?_; try intro b)) | ((with_reducible refine SC.p ?_); refine And.intro ?_ ?_) <;> intro hc <;> try simp only [push_cast, Int.reduceEq, Int.reduceLT, Int.reduceLE, Int.reduceNe] at hc | with_reducible refine r_rq (by first | decide | omega) ?_ | ((with_reducible refine SL.p ?_); first | refine ⟨_, rfl, ?_⟩ | refine ⟨_, _, _, rfl, ?_⟩ | (refine ⟨?_, rfl, ?_⟩; focus (simp; done))) | ((with_reducible first | apply i_ldn | apply i_ldnq); exact rfl; exact rfl; exact rfl) | ((try with_reducible refine d_reg ?_); simp only [go_sem, Nat.reduceAdd, Nat.reduceEqDiff, Int.reduceToNat, Nat.reduceMul, Nat.reduceSub]) | clear hK K)
      exact (fin (chg (layN (layN (layN (layN x0 txn 6) prev 6) next 6) act 1) ⟨6, txn, prev, page, act, key, old, nw, next, (ip, imgs.length, ic), (tp, tbl.length, tc), epoch, node⟩ act) _ _ hB).sub SX.p
  rw [if_neg h6] at hB
  by_cases h345 : kind = 3 ∨ kind = 4 ∨ kind = 5
  · rw [if_pos h345] at hB
    have q1 := layN_len x0 txn 6
    have q2 := layN_len (layN x0 txn 6) prev 6
    repeat' ((fail_if_success with_reducible refine nph ?_); first | (with_reducible first | (refine d_seq ?_; intro K hK) | (refine hK _ _ ?_; clear hK K) | (refine SG.p ?_; try intro b)) | ((with_reducible refine SC.p ?_); refine And.intro ?_ ?_) <;> intro hc <;> try simp only [push_cast, Int.reduceEq, Int.reduceLT, Int.reduceLE, Int.reduceNe] at hc | with_reducible refine r_rq (by first | decide | omega) ?_ | ((with_reducible refine SL.p ?_); first | refine ⟨_, rfl, ?_⟩ | refine ⟨_, _, _, rfl, ?_⟩ | (refine ⟨?_, rfl, ?_⟩; focus (simp; done))) | ((with_reducible first | apply i_ldn | apply i_ldnq); exact rfl; exact rfl; exact rfl) | ((try with_reducible refine d_reg ?_); simp only [go_sem, Nat.reduceAdd, Nat.reduceEqDiff, Int.reduceToNat, Nat.reduceMul, Nat.reduceSub]) | clear hK K)
    all_goals try (exfalso; omega)
    all_goals
      refine i_clp (g105 key old nw _) ?_
      repeat' ((fail_if_success with_reducible refine nph ?_); first | (with_reducible first | (refine d_seq ?_; intro K hK) | (refine hK _ _ ?_; clear hK K) | (refine SG.p ?_; try intro b)) | ((with_reducible refine SC.p ?_); refine And.intro ?_ ?_) <;> intro hc <;> try simp only [push_cast, Int.reduceEq, Int.reduceLT, Int.reduceLE, Int.reduceNe] at hc | with_reducible refine r_rq (by first | decide | omega) ?_ | ((with_reducible refine SL.p ?_); first | refine ⟨_, rfl, ?_⟩ | refine ⟨_, _, _, rfl, ?_⟩ | (refine ⟨?_, rfl, ?_⟩; focus (simp; done))) | ((with_reducible first | apply i_ldn | apply i_ldnq); exact rfl; exact rfl; exact rfl) | ((try with_reducible refine d_reg ?_); simp only [go_sem, Nat.reduceAdd, Nat.reduceEqDiff, Int.reduceToNat, Nat.reduceMul, Nat.reduceSub]) | clear hK K)
      refine i_ldn (e := e_api_Rec) (x := ⟨kind, txn, prev, page, act, key, old, nw, next, (ip, imgs.length, ic), (tp, tbl.length, tc), epoch, node⟩) rfl rfl rfl ?_
      refine i_clq (show Fq eN Tryz.prog 106 #[.pointer (some ⟨wb, 0, none⟩), v_api_Rec ⟨kind, txn, prev, page, act, key, old, nw, next, (ip, imgs.length, ic), (tp, tbl.length, tc), epoch, node⟩] [wr wb x0] [wr wb (layN (layN x0 txn 6) prev 6)] () from g106 wb x0 _ (by omega)) ?_
      repeat' ((fail_if_success with_reducible refine nph ?_); first | (with_reducible first | (refine d_seq ?_; intro K hK) | (refine hK _ _ ?_; clear hK K) | (refine SG.p ?_; try intro b)) | ((with_reducible refine SC.p ?_); refine And.intro ?_ ?_) <;> intro hc <;> try simp only [push_cast, Int.reduceEq, Int.reduceLT, Int.reduceLE, Int.reduceNe] at hc | with_reducible refine r_rq (by first | decide | omega) ?_ | ((with_reducible refine SL.p ?_); first | refine ⟨_, rfl, ?_⟩ | refine ⟨_, _, _, rfl, ?_⟩ | (refine ⟨?_, rfl, ?_⟩; focus (simp; done))) | ((with_reducible first | apply i_ldn | apply i_ldnq); exact rfl; exact rfl; exact rfl) | ((try with_reducible refine d_reg ?_); simp only [go_sem, Nat.reduceAdd, Nat.reduceEqDiff, Int.reduceToNat, Nat.reduceMul, Nat.reduceSub]) | clear hK K)
      refine i_ldn (e := e_api_Rec) (x := ⟨kind, txn, prev, page, act, key, old, nw, next, (ip, imgs.length, ic), (tp, tbl.length, tc), epoch, node⟩) rfl rfl rfl ?_
      repeat' ((fail_if_success with_reducible refine nph ?_); first | (with_reducible first | (refine d_seq ?_; intro K hK) | (refine hK _ _ ?_; clear hK K) | (refine SG.p ?_; try intro b)) | ((with_reducible refine SC.p ?_); refine And.intro ?_ ?_) <;> intro hc <;> try simp only [push_cast, Int.reduceEq, Int.reduceLT, Int.reduceLE, Int.reduceNe] at hc | with_reducible refine r_rq (by first | decide | omega) ?_ | ((with_reducible refine SL.p ?_); first | refine ⟨_, rfl, ?_⟩ | refine ⟨_, _, _, rfl, ?_⟩ | (refine ⟨?_, rfl, ?_⟩; focus (simp; done))) | ((with_reducible first | apply i_ldn | apply i_ldnq); exact rfl; exact rfl; exact rfl) | ((try with_reducible refine d_reg ?_); simp only [go_sem, Nat.reduceAdd, Nat.reduceEqDiff, Int.reduceToNat, Nat.reduceMul, Nat.reduceSub]) | clear hK K)
      refine i_clq (g107 wb (layN (layN x0 txn 6) prev 6) ⟨kind, txn, prev, page, act, key, old, nw, next, (ip, imgs.length, ic), (tp, tbl.length, tc), epoch, node⟩ kind (by omega)) ?_
      repeat' ((fail_if_success with_reducible refine nph ?_); first | (with_reducible first | (refine d_seq ?_; intro K hK) | (refine hK _ _ ?_; clear hK K) | (refine SG.p ?_; try intro b)) | ((with_reducible refine SC.p ?_); refine And.intro ?_ ?_) <;> intro hc <;> try simp only [push_cast, Int.reduceEq, Int.reduceLT, Int.reduceLE, Int.reduceNe] at hc | with_reducible refine r_rq (by first | decide | omega) ?_ | ((with_reducible refine SL.p ?_); first | refine ⟨_, rfl, ?_⟩ | refine ⟨_, _, _, rfl, ?_⟩ | (refine ⟨?_, rfl, ?_⟩; focus (simp; done))) | ((with_reducible first | apply i_ldn | apply i_ldnq); exact rfl; exact rfl; exact rfl) | ((try with_reducible refine d_reg ?_); simp only [go_sem, Nat.reduceAdd, Nat.reduceEqDiff, Int.reduceToNat, Nat.reduceMul, Nat.reduceSub]) | clear hK K)
      exact (fin (chg (layN (layN x0 txn 6) prev 6) ⟨kind, txn, prev, page, act, key, old, nw, next, (ip, imgs.length, ic), (tp, tbl.length, tc), epoch, node⟩ kind) _ _ hB).sub SX.p
  rw [if_neg h345] at hB
  by_cases h78 : kind = 7 ∨ kind = 8
  · rw [if_pos h78] at hB
    repeat' ((fail_if_success with_reducible refine nph ?_); first | (with_reducible first | (refine d_seq ?_; intro K hK) | (refine hK _ _ ?_; clear hK K) | (refine SG.p ?_; try intro b)) | ((with_reducible refine SC.p ?_); refine And.intro ?_ ?_) <;> intro hc <;> try simp only [push_cast, Int.reduceEq, Int.reduceLT, Int.reduceLE, Int.reduceNe] at hc | with_reducible refine r_rq (by first | decide | omega) ?_ | ((with_reducible refine SL.p ?_); first | refine ⟨_, rfl, ?_⟩ | refine ⟨_, _, _, rfl, ?_⟩ | (refine ⟨?_, rfl, ?_⟩; focus (simp; done))) | ((with_reducible first | apply i_ldn | apply i_ldnq); exact rfl; exact rfl; exact rfl) | ((try with_reducible refine d_reg ?_); simp only [go_sem, Nat.reduceAdd, Nat.reduceEqDiff, Int.reduceToNat, Nat.reduceMul, Nat.reduceSub]) | clear hK K)
    all_goals try (exfalso; omega)
    all_goals
      refine i_ldn (e := e_api_Rec) (x := ⟨kind, txn, prev, page, act, key, old, nw, next, (ip, imgs.length, ic), (tp, tbl.length, tc), epoch, node⟩) rfl rfl rfl ?_
      refine i_clq (show Fq eN Tryz.prog 106 #[.pointer (some ⟨wb, 0, none⟩), v_api_Rec ⟨kind, txn, prev, page, act, key, old, nw, next, (ip, imgs.length, ic), (tp, tbl.length, tc), epoch, node⟩] [wr wb x0] [wr wb (layN (layN x0 txn 6) prev 6)] () from g106 wb x0 _ (by omega)) ?_
      repeat' ((fail_if_success with_reducible refine nph ?_); first | (with_reducible first | (refine d_seq ?_; intro K hK) | (refine hK _ _ ?_; clear hK K) | (refine SG.p ?_; try intro b)) | ((with_reducible refine SC.p ?_); refine And.intro ?_ ?_) <;> intro hc <;> try simp only [push_cast, Int.reduceEq, Int.reduceLT, Int.reduceLE, Int.reduceNe] at hc | with_reducible refine r_rq (by first | decide | omega) ?_ | ((with_reducible refine SL.p ?_); first | refine ⟨_, rfl, ?_⟩ | refine ⟨_, _, _, rfl, ?_⟩ | (refine ⟨?_, rfl, ?_⟩; focus (simp; done))) | ((with_reducible first | apply i_ldn | apply i_ldnq); exact rfl; exact rfl; exact rfl) | ((try with_reducible refine d_reg ?_); simp only [go_sem, Nat.reduceAdd, Nat.reduceEqDiff, Int.reduceToNat, Nat.reduceMul, Nat.reduceSub]) | clear hK K)
      exact (fin (layN (layN x0 txn 6) prev 6) _ _ hB).sub SX.p
  rw [if_neg h78] at hB
  by_cases h9 : kind = 9
  · rw [if_pos h9] at hB
    have q1 := layN_len x0 (tbl.length : Int) 1
    repeat' ((fail_if_success with_reducible refine nph ?_); first | (with_reducible first | (refine d_seq ?_; intro K hK) | (refine hK _ _ ?_; clear hK K) | (refine SG.p ?_; try intro b)) | ((with_reducible refine SC.p ?_); refine And.intro ?_ ?_) <;> intro hc <;> try simp only [push_cast, Int.reduceEq, Int.reduceLT, Int.reduceLE, Int.reduceNe] at hc | with_reducible refine r_rq (by first | decide | omega) ?_ | ((with_reducible refine SL.p ?_); first | refine ⟨_, rfl, ?_⟩ | refine ⟨_, _, _, rfl, ?_⟩ | (refine ⟨?_, rfl, ?_⟩; focus (simp; done))) | ((with_reducible first | apply i_ldn | apply i_ldnq); exact rfl; exact rfl; exact rfl) | ((try with_reducible refine d_reg ?_); simp only [go_sem, Nat.reduceAdd, Nat.reduceEqDiff, Int.reduceToNat, Nat.reduceMul, Nat.reduceSub]) | clear hK K)
    all_goals try (exfalso; omega)
    refine i_clq (gN wb x0 (tbl.length : Int) 1 (by decide) (by decide) (by omega)) ?_
    generalize layN x0 (tbl.length : Int) 1 = x1 at *
    repeat' ((fail_if_success with_reducible refine nph ?_); first | (with_reducible first | (refine d_seq ?_; intro K hK) | (refine hK _ _ ?_; clear hK K) | (refine SG.p ?_; try intro b)) | ((with_reducible refine SC.p ?_); refine And.intro ?_ ?_) <;> intro hc <;> try simp only [push_cast, Int.reduceEq, Int.reduceLT, Int.reduceLE, Int.reduceNe] at hc | with_reducible refine r_rq (by first | decide | omega) ?_ | ((with_reducible refine SL.p ?_); first | refine ⟨_, rfl, ?_⟩ | refine ⟨_, _, _, rfl, ?_⟩ | (refine ⟨?_, rfl, ?_⟩; focus (simp; done))) | ((with_reducible first | apply i_ldn | apply i_ldnq); exact rfl; exact rfl; exact rfl) | ((try with_reducible refine d_reg ?_); simp only [go_sem, Nat.reduceAdd, Nat.reduceEqDiff, Int.reduceToNat, Nat.reduceMul, Nat.reduceSub]) | clear hK K)
    refine d_lp [4, 5, 102, 103, 104] (fun i : Nat => [(4, .pointer (some ⟨wb, 0, none⟩)), (5, .int .i64 0), (102, .slice tp tbl.length tc), (103, .int .i64 (tbl.length : Int)), (104, .int .i64 (i : Int))])
      (fun i => wr wb (tbg x1 (tbl.take i)) :: ar b1 36 [.int .i64 kind, .int .i64 txn, .int .i64 prev, .int .i64 page, .int .i64 act, str key, str old, str nw, .int .i64 next, .slice ip imgs.length ic, .slice tp tbl.length tc, .int .i64 epoch, .int .i64 node] :: A :: L) (fun i => i ≤ tbl.length ∧ (tbg x1 (tbl.take i)).1.length ≤ 10 + 12 * i) (fun i => tbl.length - i) 0 rfl ?_ ⟨by omega, by have e0 : (tbg x1 (tbl.take 0)).1.length = x1.1.length := rfl; omega⟩ ?_
    · show Sub (wr wb x1 :: ar b1 36 _ :: A :: L) _
      exact SX.p
    rintro i ⟨hi', hx⟩
    repeat' ((fail_if_success with_reducible refine nph ?_); first | (with_reducible first | (refine d_seq ?_; intro K hK) | (refine hK _ _ ?_; clear hK K) | (refine SG.p ?_; try intro b)) | ((with_reducible refine SC.p ?_); refine And.intro ?_ ?_) <;> intro hc <;> try simp only [push_cast, Int.reduceEq, Int.reduceLT, Int.reduceLE, Int.reduceNe] at hc | with_reducible refine r_rq (by first | decide | omega) ?_ | ((with_reducible refine SL.p ?_); first | refine ⟨_, rfl, ?_⟩ | refine ⟨_, _, _, rfl, ?_⟩ | (refine ⟨?_, rfl, ?_⟩; focus (simp; done))) | ((with_reducible first | apply i_ldn | apply i_ldnq); exact rfl; exact rfl; exact rfl) | ((try with_reducible refine d_reg ?_); simp only [go_sem, Nat.reduceAdd, Nat.reduceEqDiff, Int.reduceToNat, Nat.reduceMul, Nat.reduceSub]) | clear hK K)
    · have hlt : i < tbl.length := by omega
      obtain ⟨m, hm⟩ : ∃ m, tbl[i]? = some m := ⟨tbl[i], by simp [hlt]⟩
      have T : tbg x1 (tbl.take (i + 1)) = layN (layN (tbg x1 (tbl.take i)) m.Txn 6) m.Last 6 := by
        unfold tbg
        rw [List.take_succ_eq_append_getElem hlt, List.foldl_append]
        rw [List.getElem?_eq_getElem hlt] at hm
        simp only [Option.some.injEq] at hm
        rw [hm]
        rfl
      generalize tbg x1 (tbl.take i) = y at *
      have l1 := layN_len y m.Txn 6
      have l2 := layN_len (layN y m.Txn 6) m.Last 6
      rcases tp with _ | a
      · exact absurd rfl (ht.2.1 (by dsimp only; omega))
      · refine r_nn rfl ?_
        refine i_sn (x := m) (y := m) ht cAct_len hm rfl ?_
        repeat' ((fail_if_success with_reducible refine nph ?_); first | (with_reducible first | (refine d_seq ?_; intro K hK) | (refine hK _ _ ?_; clear hK K) | (refine SG.p ?_; try intro b)) | ((with_reducible refine SC.p ?_); refine And.intro ?_ ?_) <;> intro hc <;> try simp only [push_cast, Int.reduceEq, Int.reduceLT, Int.reduceLE, Int.reduceNe] at hc | with_reducible refine r_rq (by first | decide | omega) ?_ | ((with_reducible refine SL.p ?_); first | refine ⟨_, rfl, ?_⟩ | refine ⟨_, _, _, rfl, ?_⟩ | (refine ⟨?_, rfl, ?_⟩; focus (simp; done))) | ((with_reducible first | apply i_ldn | apply i_ldnq); exact rfl; exact rfl; exact rfl) | ((try with_reducible refine d_reg ?_); simp only [go_sem, Nat.reduceAdd, Nat.reduceEqDiff, Int.reduceToNat, Nat.reduceMul, Nat.reduceSub]) | clear hK K)
        refine i_clq (gN wb y m.Txn 6 (by decide) (by decide) (by omega)) ?_
        repeat' ((fail_if_success with_reducible refine nph ?_); first | (with_reducible first | (refine d_seq ?_; intro K hK) | (refine hK _ _ ?_; clear hK K) | (refine SG.p ?_; try intro b)) | ((with_reducible refine SC.p ?_); refine And.intro ?_ ?_) <;> intro hc <;> try simp only [push_cast, Int.reduceEq, Int.reduceLT, Int.reduceLE, Int.reduceNe] at hc | with_reducible refine r_rq (by first | decide | omega) ?_ | ((with_reducible refine SL.p ?_); first | refine ⟨_, rfl, ?_⟩ | refine ⟨_, _, _, rfl, ?_⟩ | (refine ⟨?_, rfl, ?_⟩; focus (simp; done))) | ((with_reducible first | apply i_ldn | apply i_ldnq); exact rfl; exact rfl; exact rfl) | ((try with_reducible refine d_reg ?_); simp only [go_sem, Nat.reduceAdd, Nat.reduceEqDiff, Int.reduceToNat, Nat.reduceMul, Nat.reduceSub]) | clear hK K)
        refine i_clq (gN wb (layN y m.Txn 6) m.Last 6 (by decide) (by decide) (by omega)) ?_
        repeat' ((fail_if_success with_reducible refine nph ?_); first | (with_reducible first | (refine d_seq ?_; intro K hK) | (refine hK _ _ ?_; clear hK K) | (refine SG.p ?_; try intro b)) | ((with_reducible refine SC.p ?_); refine And.intro ?_ ?_) <;> intro hc <;> try simp only [push_cast, Int.reduceEq, Int.reduceLT, Int.reduceLE, Int.reduceNe] at hc | with_reducible refine r_rq (by first | decide | omega) ?_ | ((with_reducible refine SL.p ?_); first | refine ⟨_, rfl, ?_⟩ | refine ⟨_, _, _, rfl, ?_⟩ | (refine ⟨?_, rfl, ?_⟩; focus (simp; done))) | ((with_reducible first | apply i_ldn | apply i_ldnq); exact rfl; exact rfl; exact rfl) | ((try with_reducible refine d_reg ?_); simp only [go_sem, Nat.reduceAdd, Nat.reduceEqDiff, Int.reduceToNat, Nat.reduceMul, Nat.reduceSub]) | clear hK K)
        rw [← T]
        rw [← T] at l2
        rw [w64 (by omega) (by omega)]
        exact i_bk (i + 1) rfl ⟨by omega, by omega⟩ (by omega)
    · obtain rfl : i = tbl.length := by omega
      rw [List.take_length]
      exact (fin _ _ _ hB).sub SX.p
  rw [if_neg h9] at hB
  by_cases h10 : kind = 10
  · rw [if_pos h10] at hB
    have q1 := layN_len x0 epoch 4
    repeat' ((fail_if_success with_reducible refine nph ?_); first | (with_reducible first | (refine d_seq ?_; intro K hK) | (refine hK _ _ ?_; clear hK K) | (refine SG.p ?_; try intro b)) | ((with_reducible refine SC.p ?_); refine And.intro ?_ ?_) <;> intro hc <;> try simp only [push_cast, Int.reduceEq, Int.reduceLT, Int.reduceLE, Int.reduceNe] at hc | with_reducible refine r_rq (by first | decide | omega) ?_ | ((with_reducible refine SL.p ?_); first | refine ⟨_, rfl, ?_⟩ | refine ⟨_, _, _, rfl, ?_⟩ | (refine ⟨?_, rfl, ?_⟩; focus (simp; done))) | ((with_reducible first | apply i_ldn | apply i_ldnq); exact rfl; exact rfl; exact rfl) | ((try with_reducible refine d_reg ?_); simp only [go_sem, Nat.reduceAdd, Nat.reduceEqDiff, Int.reduceToNat, Nat.reduceMul, Nat.reduceSub]) | clear hK K)
    all_goals try (exfalso; omega)
    refine i_clq (gN wb x0 epoch 4 (by decide) (by decide) (by omega)) ?_
    repeat' ((fail_if_success with_reducible refine nph ?_); first | (with_reducible first | (refine d_seq ?_; intro K hK) | (refine hK _ _ ?_; clear hK K) | (refine SG.p ?_; try intro b)) | ((with_reducible refine SC.p ?_); refine And.intro ?_ ?_) <;> intro hc <;> try simp only [push_cast, Int.reduceEq, Int.reduceLT, Int.reduceLE, Int.reduceNe] at hc | with_reducible refine r_rq (by first | decide | omega) ?_ | ((with_reducible refine SL.p ?_); first | refine ⟨_, rfl, ?_⟩ | refine ⟨_, _, _, rfl, ?_⟩ | (refine ⟨?_, rfl, ?_⟩; focus (simp; done))) | ((with_reducible first | apply i_ldn | apply i_ldnq); exact rfl; exact rfl; exact rfl) | ((try with_reducible refine d_reg ?_); simp only [go_sem, Nat.reduceAdd, Nat.reduceEqDiff, Int.reduceToNat, Nat.reduceMul, Nat.reduceSub]) | clear hK K)
    refine i_clq (gN wb (layN x0 epoch 4) node 1 (by decide) (by decide) (by omega)) ?_
    repeat' ((fail_if_success with_reducible refine nph ?_); first | (with_reducible first | (refine d_seq ?_; intro K hK) | (refine hK _ _ ?_; clear hK K) | (refine SG.p ?_; try intro b)) | ((with_reducible refine SC.p ?_); refine And.intro ?_ ?_) <;> intro hc <;> try simp only [push_cast, Int.reduceEq, Int.reduceLT, Int.reduceLE, Int.reduceNe] at hc | with_reducible refine r_rq (by first | decide | omega) ?_ | ((with_reducible refine SL.p ?_); first | refine ⟨_, rfl, ?_⟩ | refine ⟨_, _, _, rfl, ?_⟩ | (refine ⟨?_, rfl, ?_⟩; focus (simp; done))) | ((with_reducible first | apply i_ldn | apply i_ldnq); exact rfl; exact rfl; exact rfl) | ((try with_reducible refine d_reg ?_); simp only [go_sem, Nat.reduceAdd, Nat.reduceEqDiff, Int.reduceToNat, Nat.reduceMul, Nat.reduceSub]) | clear hK K)
    exact (fin _ _ _ hB).sub SX.p
  rw [if_neg h10] at hB
  repeat' ((fail_if_success with_reducible refine nph ?_); first | (with_reducible first | (refine d_seq ?_; intro K hK) | (refine hK _ _ ?_; clear hK K) | (refine SG.p ?_; try intro b)) | ((with_reducible refine SC.p ?_); refine And.intro ?_ ?_) <;> intro hc <;> try simp only [push_cast, Int.reduceEq, Int.reduceLT, Int.reduceLE, Int.reduceNe] at hc | with_reducible refine r_rq (by first | decide | omega) ?_ | ((with_reducible refine SL.p ?_); first | refine ⟨_, rfl, ?_⟩ | refine ⟨_, _, _, rfl, ?_⟩ | (refine ⟨?_, rfl, ?_⟩; focus (simp; done))) | ((with_reducible first | apply i_ldn | apply i_ldnq); exact rfl; exact rfl; exact rfl) | ((try with_reducible refine d_reg ?_); simp only [go_sem, Nat.reduceAdd, Nat.reduceEqDiff, Int.reduceToNat, Nat.reduceMul, Nat.reduceSub]) | clear hK K)
  all_goals try (exfalso; omega)
  subst hB
  (with_reducible first | apply i_ret0 | apply i_ret2 | apply i_ret3 | apply i_ret); exact rfl
  rfl
/-- A frame: how long a record is, its sum, itself. -/
def Rc.frame (c : Rc) : Wt := if c.clean.body.2 = 0 then (lowb (c.clean.body.1.length : Int) 2 ++ (lowb (sm c.clean.body.1) 4 ++ c.clean.body.1), 0) else ([], c.clean.body.2)
theorem bfin_le (x : Wt) (e : Int) : (bfin x e).1.length ≤ 4096 := by
  unfold bfin
  repeat' split
  all_goals first | omega | (simp; done) | (dsimp only; omega)
theorem Rc.body_le (c : Rc) : c.body.1.length ≤ 4096 := by
  unfold Rc.body
  repeat' split
  all_goals first | exact bfin_le _ _ | (simp; done)
theorem put2 {s : List UInt8} (h : s.length ≤ 4096) : putN [] (s.length : Int) 2 = (lowb (s.length : Int) 2, 0) := by
  unfold putN
  have p2 : ((256 ^ 2 : Nat) : Int) = 65536 := by decide
  rw [p2, if_neg (by omega)]
  rfl
theorem g18 (A : HP) (r : api_Rec) (c : Rc) (h : RcAt A r c) : Fp (eT2 eS eI) Tryz.prog 18 #[v_api_Rec r] [A] c.frame := fun L => by
  have hb := c.clean.body_le
  have F := g71 A (clr r) c.clean h.clr
  unfold Rc.frame
  generalize c.clean.body = x at *
  obtain ⟨s, e⟩ := x
  dsimp only at hb ⊢
  obtain ⟨kind, txn, prev, page, act, key, old, nw, next, im, tb, epoch, node⟩ := r
  have hl2 := lowb_len (s.length : Int) 2
  have hl4 := lowb_len (sm s) 4
  have P := f97 [] (s.length : Int) 2 (by decide) (by decide) (by decide)
  rw [put2 hb] at P
  have G := g72 ⟨kind, txn, prev, page, act, key, old, nw, next, im, tb, epoch, node⟩
  generalize clr ⟨kind, txn, prev, page, act, key, old, nw, next, im, tb, epoch, node⟩ = y at *
  refine c18_fn rfl rfl ?_
  by_cases he : e = 0
  · subst he
    rw [if_pos rfl]
    repeat' ((fail_if_success with_reducible refine nph ?_); first | (with_reducible first | (refine d_seq ?_; intro K hK) | (refine hK _ _ ?_; clear hK K) | (refine SG.p ?_; try intro b)) | ((with_reducible refine SC.p ?_); refine And.intro ?_ ?_) <;> intro hc <;> try simp only [push_cast, Int.reduceEq, Int.reduceLT, Int.reduceLE, Int.reduceNe] at hc | with_reducible refine r_rq (by first | decide | omega) ?_ | ((with_reducible refine SL.p ?_); first | refine ⟨_, rfl, ?_⟩ | refine ⟨_, _, _, rfl, ?_⟩ | (refine ⟨?_, rfl, ?_⟩; focus (simp; done))) | ((with_reducible first | apply i_ldn | apply i_ldnq); exact rfl; exact rfl; exact rfl) | ((try with_reducible refine d_reg ?_); simp only [go_sem, Nat.reduceAdd, Nat.reduceEqDiff, Int.reduceToNat, Nat.reduceMul, Nat.reduceSub]) | clear hK K)
    refine i_ldn (e := e_api_Rec) (x := ⟨kind, txn, prev, page, act, key, old, nw, next, im, tb, epoch, node⟩) rfl rfl rfl ?_
    refine i_clp G ?_
    refine i_clp F ?_
    repeat' ((fail_if_success with_reducible refine nph ?_); first | (with_reducible first | (refine d_seq ?_; intro K hK) | (refine hK _ _ ?_; clear hK K) | (refine SG.p ?_; try intro b)) | ((with_reducible refine SC.p ?_); refine And.intro ?_ ?_) <;> intro hc <;> try simp only [push_cast, Int.reduceEq, Int.reduceLT, Int.reduceLE, Int.reduceNe] at hc | with_reducible refine r_rq (by first | decide | omega) ?_ | ((with_reducible refine SL.p ?_); first | refine ⟨_, rfl, ?_⟩ | refine ⟨_, _, _, rfl, ?_⟩ | (refine ⟨?_, rfl, ?_⟩; focus (simp; done))) | ((with_reducible first | apply i_ldn | apply i_ldnq); exact rfl; exact rfl; exact rfl) | ((try with_reducible refine d_reg ?_); simp only [go_sem, Nat.reduceAdd, Nat.reduceEqDiff, Int.reduceToNat, Nat.reduceMul, Nat.reduceSub]) | clear hK K)
    all_goals try (first | contradiction | (simp only [ reduceCtorEq] at *; done) | (exfalso; omega))
    refine i_clp P ?_
    repeat' ((fail_if_success with_reducible refine nph ?_); first | (with_reducible first | (refine d_seq ?_; intro K hK) | (refine hK _ _ ?_; clear hK K) | (refine SG.p ?_; try intro b)) | ((with_reducible refine SC.p ?_); refine And.intro ?_ ?_) <;> intro hc <;> try simp only [push_cast, Int.reduceEq, Int.reduceLT, Int.reduceLE, Int.reduceNe] at hc | with_reducible refine r_rq (by first | decide | omega) ?_ | ((with_reducible refine SL.p ?_); first | refine ⟨_, rfl, ?_⟩ | refine ⟨_, _, _, rfl, ?_⟩ | (refine ⟨?_, rfl, ?_⟩; focus (simp; done))) | ((with_reducible first | apply i_ldn | apply i_ldnq); exact rfl; exact rfl; exact rfl) | ((try with_reducible refine d_reg ?_); simp only [go_sem, Nat.reduceAdd, Nat.reduceEqDiff, Int.reduceToNat, Nat.reduceMul, Nat.reduceSub]) | clear hK K)
    refine i_clp (g74 s (by omega)) ?_
    refine r_rq (by rw [List.length_append]; omega) ?_
    repeat' ((fail_if_success with_reducible refine nph ?_); first | (with_reducible first | (refine d_seq ?_; intro K hK) | (refine hK _ _ ?_; clear hK K) | (refine SG.p ?_; try intro b)) | ((with_reducible refine SC.p ?_); refine And.intro ?_ ?_) <;> intro hc <;> try simp only [push_cast, Int.reduceEq, Int.reduceLT, Int.reduceLE, Int.reduceNe] at hc | with_reducible refine r_rq (by first | decide | omega) ?_ | ((with_reducible refine SL.p ?_); first | refine ⟨_, rfl, ?_⟩ | refine ⟨_, _, _, rfl, ?_⟩ | (refine ⟨?_, rfl, ?_⟩; focus (simp; done))) | ((with_reducible first | apply i_ldn | apply i_ldnq); exact rfl; exact rfl; exact rfl) | ((try with_reducible refine d_reg ?_); simp only [go_sem, Nat.reduceAdd, Nat.reduceEqDiff, Int.reduceToNat, Nat.reduceMul, Nat.reduceSub]) | clear hK K)
    (with_reducible first | apply i_ret0 | apply i_ret2 | apply i_ret3 | apply i_ret); exact rfl
    rfl
  · rw [if_neg he]
    repeat' ((fail_if_success with_reducible refine nph ?_); first | (with_reducible first | (refine d_seq ?_; intro K hK) | (refine hK _ _ ?_; clear hK K) | (refine SG.p ?_; try intro b)) | ((with_reducible refine SC.p ?_); refine And.intro ?_ ?_) <;> intro hc <;> try simp only [push_cast, Int.reduceEq, Int.reduceLT, Int.reduceLE, Int.reduceNe] at hc | with_reducible refine r_rq (by first | decide | omega) ?_ | ((with_reducible refine SL.p ?_); first | refine ⟨_, rfl, ?_⟩ | refine ⟨_, _, _, rfl, ?_⟩ | (refine ⟨?_, rfl, ?_⟩; focus (simp; done))) | ((with_reducible first | apply i_ldn | apply i_ldnq); exact rfl; exact rfl; exact rfl) | ((try with_reducible refine d_reg ?_); simp only [go_sem, Nat.reduceAdd, Nat.reduceEqDiff, Int.reduceToNat, Nat.reduceMul, Nat.reduceSub]) | clear hK K)
    refine i_ldn (e := e_api_Rec) (x := ⟨kind, txn, prev, page, act, key, old, nw, next, im, tb, epoch, node⟩) rfl rfl rfl ?_
    refine i_clp G ?_
    refine i_clp F ?_
    repeat' ((fail_if_success with_reducible refine nph ?_); first | (with_reducible first | (refine d_seq ?_; intro K hK) | (refine hK _ _ ?_; clear hK K) | (refine SG.p ?_; try intro b)) | ((with_reducible refine SC.p ?_); refine And.intro ?_ ?_) <;> intro hc <;> try simp only [push_cast, Int.reduceEq, Int.reduceLT, Int.reduceLE, Int.reduceNe] at hc | with_reducible refine r_rq (by first | decide | omega) ?_ | ((with_reducible refine SL.p ?_); first | refine ⟨_, rfl, ?_⟩ | refine ⟨_, _, _, rfl, ?_⟩ | (refine ⟨?_, rfl, ?_⟩; focus (simp; done))) | ((with_reducible first | apply i_ldn | apply i_ldnq); exact rfl; exact rfl; exact rfl) | ((try with_reducible refine d_reg ?_); simp only [go_sem, Nat.reduceAdd, Nat.reduceEqDiff, Int.reduceToNat, Nat.reduceMul, Nat.reduceSub]) | clear hK K)
    all_goals try (first | contradiction | (simp only [ reduceCtorEq] at *; done) | (exfalso; omega))
    (with_reducible first | apply i_ret0 | apply i_ret2 | apply i_ret3 | apply i_ret); exact rfl
    rfl
end Go.Sp
/- What each region of the Go functions does. Written by my own generator. -/
namespace Go.Sp
open Go
set_option maxRecDepth 100000
set_option linter.unusedVariables false
open Go.Proofs
/-! gharry.rec.Open -/
noncomputable def c26 : Cfg := { P := Tryz.prog, n := 69, T := TT, body := (Tryz.f26.body).getD .skip, res := Tryz.f26.results.toList, li := lk [] [(0, [0, 1]), (1, [0, 1, 4]), (2, [4]), (3, [0, 1, 4]), (4, [0, 4]), (5, [4]), (6, [0, 4]), (7, [0, 4, 7]), (8, [4]), (9, [0, 4, 7]), (10, [4]), (11, [0, 4, 7]), (12, [4, 7, 8, 9]), (13, [4, 9]), (14, [4, 7, 8]), (15, [4, 7, 9, 10]), (16, [4, 9]), (17, [4, 7, 10])], lo := lk [] [(0, [0, 1, 4]), (1, [0, 1, 4, 18]), (2, [4, 5, 6]), (3, [0, 4]), (4, [0, 4, 25]), (5, [4, 5, 6]), (6, [0, 4, 7]), (7, [0, 4, 7, 30]), (8, [4, 5, 6]), (9, [0, 4, 7, 38]), (10, [4, 5, 6]), (11, [4, 7, 8, 9]), (12, [4, 7, 8, 9, 54]), (13, [4, 5, 6]), (14, [4, 7, 9, 10]), (15, [4, 7, 9, 10, 63]), (16, [4, 5, 6]), (17, [4, 5, 6]), (1000000, [4, 5, 6])], ord := lk (false, []) [] }
@[go_sem] theorem c26_i0 : c26.li 0 = [0, 1] := rfl
@[go_sem] theorem c26_i1 : c26.li 1 = [0, 1, 4] := rfl
@[go_sem] theorem c26_i2 : c26.li 2 = [4] := rfl
@[go_sem] theorem c26_i3 : c26.li 3 = [0, 1, 4] := rfl
@[go_sem] theorem c26_i4 : c26.li 4 = [0, 4] := rfl
@[go_sem] theorem c26_i5 : c26.li 5 = [4] := rfl
@[go_sem] theorem c26_i6 : c26.li 6 = [0, 4] := rfl
@[go_sem] theorem c26_i7 : c26.li 7 = [0, 4, 7] := rfl
@[go_sem] theorem c26_i8 : c26.li 8 = [4] := rfl
@[go_sem] theorem c26_i9 : c26.li 9 = [0, 4, 7] := rfl
@[go_sem] theorem c26_i10 : c26.li 10 = [4] := rfl
@[go_sem] theorem c26_i11 : c26.li 11 = [0, 4, 7] := rfl
@[go_sem] theorem c26_i12 : c26.li 12 = [4, 7, 8, 9] := rfl
@[go_sem] theorem c26_i13 : c26.li 13 = [4, 9] := rfl
@[go_sem] theorem c26_i14 : c26.li 14 = [4, 7, 8] := rfl
@[go_sem] theorem c26_i15 : c26.li 15 = [4, 7, 9, 10] := rfl
@[go_sem] theorem c26_i16 : c26.li 16 = [4, 9] := rfl
@[go_sem] theorem c26_i17 : c26.li 17 = [4, 7, 10] := rfl
@[go_sem] theorem c26_r0 (s0 : List UInt8) (at1 : Int) (K : Env → W) : RP c26 0 [(0, str s0), (1, .int .i64 at1)] K =
    (nwc #[.int .i64 (0 : Int), .int .i64 (0 : Int), .int .i64 (0 : Int), .int .i64 (0 : Int), .int .i64 (0 : Int), str (([] : List UInt8)), str (([] : List UInt8)), str (([] : List UInt8)), .int .i64 (0 : Int), .slice none 0 0, .slice none 0 0, .int .i64 (0 : Int), .int .i64 (0 : Int)] 36 fun y1_ => (K [(0, str s0), (1, .int .i64 at1), (4, .pointer (some y1_))])) := by kernel_rfl
@[go_sem] theorem c26_r1 (s0 : List UInt8) (at1 : Int) (t4 : Addr) (K : Env → W) : RP c26 1 [(0, str s0), (1, .int .i64 at1), (4, .pointer (some t4))] K =
    (cnd ((decide (at1 < (0 : Int)))) (K [(0, str s0), (1, .int .i64 at1), (4, .pointer (some t4)), (18, .bool true)]) (K [(0, str s0), (1, .int .i64 at1), (4, .pointer (some t4)), (18, .bool ((decide (((s0).length : Int) < at1))))])) := by kernel_rfl
@[go_sem] theorem c26_r2 (t4 : Addr) (K : Env → W) : RP c26 2 [(4, .pointer (some t4))] K =
    (stl [.int .i64 (0 : Int), .int .i64 (0 : Int), .int .i64 (0 : Int), .int .i64 (0 : Int), .int .i64 (0 : Int), str (([] : List UInt8)), str (([] : List UInt8)), str (([] : List UInt8)), .int .i64 (0 : Int), .slice none 0 0, .slice none 0 0, .int .i64 (0 : Int), .int .i64 (0 : Int)] t4 0 (K [(4, .pointer (some t4)), (5, .int .i64 (0 : Int)), (6, .int .i64 (6 : Int))])) := by kernel_rfl
@[go_sem] theorem c26_r3 (s0 : List UInt8) (at1 : Int) (t4 : Addr) (K : Env → W) : RP c26 3 [(0, str s0), (1, .int .i64 at1), (4, .pointer (some t4))] K =
    (rq (0 ≤ (at1 : Int) ∧ at1 ≤ ((s0).length : Int) ∧ ((s0).length : Int) ≤ ((s0).length : Int)) (K [(0, str ((ss s0 at1 (((s0).length : Int))))), (4, .pointer (some t4))])) := by kernel_rfl
@[go_sem] theorem c26_r4 (s0 : List UInt8) (t4 : Addr) (K : Env → W) : RP c26 4 [(0, str s0), (4, .pointer (some t4))] K =
    (K [(0, str s0), (4, .pointer (some t4)), (25, .bool ((decide (((s0).length : Int) < (6 : Int)))))]) := by kernel_rfl
@[go_sem] theorem c26_r5 (t4 : Addr) (K : Env → W) : RP c26 5 [(4, .pointer (some t4))] K =
    (stl [.int .i64 (0 : Int), .int .i64 (0 : Int), .int .i64 (0 : Int), .int .i64 (0 : Int), .int .i64 (0 : Int), str (([] : List UInt8)), str (([] : List UInt8)), str (([] : List UInt8)), .int .i64 (0 : Int), .slice none 0 0, .slice none 0 0, .int .i64 (0 : Int), .int .i64 (0 : Int)] t4 0 (K [(4, .pointer (some t4)), (5, .int .i64 (0 : Int)), (6, .int .i64 (2 : Int))])) := by kernel_rfl
@[go_sem] theorem c26_r6 (s0 : List UInt8) (t4 : Addr) (K : Env → W) : RP c26 6 [(0, str s0), (4, .pointer (some t4))] K =
    (cal eP Tryz.prog 84 #[str s0] fun (y1_ : Option Addr) => (cal eI Tryz.prog 85 #[.pointer y1_, .int .i64 (2 : Int)] fun (y2_ : Int) => (K [(0, str s0), (4, .pointer (some t4)), (7, .int .i64 y2_)]))) := by kernel_rfl
@[go_sem] theorem c26_r7 (s0 : List UInt8) (t4 : Addr) (n7 : Int) (K : Env → W) : RP c26 7 [(0, str s0), (4, .pointer (some t4)), (7, .int .i64 n7)] K =
    (cnd ((decide (n7 < (1 : Int)))) (K [(0, str s0), (4, .pointer (some t4)), (7, .int .i64 n7), (30, .bool true)]) (K [(0, str s0), (4, .pointer (some t4)), (7, .int .i64 n7), (30, .bool ((decide ((4096 : Int) < n7))))])) := by kernel_rfl
@[go_sem] theorem c26_r8 (t4 : Addr) (K : Env → W) : RP c26 8 [(4, .pointer (some t4))] K =
    (stl [.int .i64 (0 : Int), .int .i64 (0 : Int), .int .i64 (0 : Int), .int .i64 (0 : Int), .int .i64 (0 : Int), str (([] : List UInt8)), str (([] : List UInt8)), str (([] : List UInt8)), .int .i64 (0 : Int), .slice none 0 0, .slice none 0 0, .int .i64 (0 : Int), .int .i64 (0 : Int)] t4 0 (K [(4, .pointer (some t4)), (5, .int .i64 (0 : Int)), (6, .int .i64 (4 : Int))])) := by kernel_rfl
@[go_sem] theorem c26_r9 (s0 : List UInt8) (t4 : Addr) (n7 : Int) (K : Env → W) : RP c26 9 [(0, str s0), (4, .pointer (some t4)), (7, .int .i64 n7)] K =
    (K [(0, str s0), (4, .pointer (some t4)), (7, .int .i64 n7), (38, .bool ((decide ((IntKind.wrap .i64 (((s0).length : Int) - (6 : Int))) < n7))))]) := by kernel_rfl
@[go_sem] theorem c26_r10 (t4 : Addr) (K : Env → W) : RP c26 10 [(4, .pointer (some t4))] K =
    (stl [.int .i64 (0 : Int), .int .i64 (0 : Int), .int .i64 (0 : Int), .int .i64 (0 : Int), .int .i64 (0 : Int), str (([] : List UInt8)), str (([] : List UInt8)), str (([] : List UInt8)), .int .i64 (0 : Int), .slice none 0 0, .slice none 0 0, .int .i64 (0 : Int), .int .i64 (0 : Int)] t4 0 (K [(4, .pointer (some t4)), (5, .int .i64 (0 : Int)), (6, .int .i64 (2 : Int))])) := by kernel_rfl
@[go_sem] theorem c26_r11 (s0 : List UInt8) (t4 : Addr) (n7 : Int) (K : Env → W) : RP c26 11 [(0, str s0), (4, .pointer (some t4)), (7, .int .i64 n7)] K =
    (rq (0 ≤ ((2 : Int) : Int) ∧ (2 : Int) ≤ (IntKind.wrap .i64 ((6 : Int) + n7)) ∧ (IntKind.wrap .i64 ((6 : Int) + n7)) ≤ ((s0).length : Int)) (cal (eT2 eS eI) Tryz.prog 86 #[str ((ss s0 (2 : Int) ((IntKind.wrap .i64 ((6 : Int) + n7)))))] fun (y1_ : ((List UInt8) × Int)) => (K [(4, .pointer (some t4)), (7, .int .i64 n7), (8, str y1_.1), (9, .int .i64 y1_.2)]))) := by kernel_rfl
@[go_sem] theorem c26_r12 (t4 : Addr) (n7 : Int) (b8 : List UInt8) (e9 : Int) (K : Env → W) : RP c26 12 [(4, .pointer (some t4)), (7, .int .i64 n7), (8, str b8), (9, .int .i64 e9)] K =
    (K [(4, .pointer (some t4)), (7, .int .i64 n7), (8, str b8), (9, .int .i64 e9), (54, .bool ((e9 != (0 : Int))))]) := by kernel_rfl
@[go_sem] theorem c26_r13 (t4 : Addr) (e9 : Int) (K : Env → W) : RP c26 13 [(4, .pointer (some t4)), (9, .int .i64 e9)] K =
    (stl [.int .i64 (0 : Int), .int .i64 (0 : Int), .int .i64 (0 : Int), .int .i64 (0 : Int), .int .i64 (0 : Int), str (([] : List UInt8)), str (([] : List UInt8)), str (([] : List UInt8)), .int .i64 (0 : Int), .slice none 0 0, .slice none 0 0, .int .i64 (0 : Int), .int .i64 (0 : Int)] t4 0 (K [(4, .pointer (some t4)), (5, .int .i64 (0 : Int)), (6, .int .i64 e9)])) := by kernel_rfl
@[go_sem] theorem c26_r14 (t4 : Addr) (n7 : Int) (b8 : List UInt8) (K : Env → W) : RP c26 14 [(4, .pointer (some t4)), (7, .int .i64 n7), (8, str b8)] K =
    (cal (eT2 e_api_Rec eI) Tryz.prog 87 #[str b8] fun (y1_ : (api_Rec × Int)) => (nwc #[.int .i64 (0 : Int), .int .i64 (0 : Int), .int .i64 (0 : Int), .int .i64 (0 : Int), .int .i64 (0 : Int), str (([] : List UInt8)), str (([] : List UInt8)), str (([] : List UInt8)), .int .i64 (0 : Int), .slice none 0 0, .slice none 0 0, .int .i64 (0 : Int), .int .i64 (0 : Int)] 36 fun y2_ => (stl [.int .i64 y1_.1.Kind, .int .i64 y1_.1.Txn, .int .i64 y1_.1.Prev, .int .i64 y1_.1.Page, .int .i64 y1_.1.Act, str y1_.1.Key, str y1_.1.Old, str y1_.1.New, .int .i64 y1_.1.Next, .slice y1_.1.Images.1 y1_.1.Images.2.1 y1_.1.Images.2.2, .slice y1_.1.Table.1 y1_.1.Table.2.1 y1_.1.Table.2.2, .int .i64 y1_.1.Epoch, .int .i64 y1_.1.Node] y2_ 0 (K [(4, .pointer (some t4)), (7, .int .i64 n7), (9, .int .i64 y1_.2), (10, .pointer (some y2_))])))) := by kernel_rfl
@[go_sem] theorem c26_r15 (t4 : Addr) (n7 : Int) (e9 : Int) (r10 : Addr) (K : Env → W) : RP c26 15 [(4, .pointer (some t4)), (7, .int .i64 n7), (9, .int .i64 e9), (10, .pointer (some r10))] K =
    (K [(4, .pointer (some t4)), (7, .int .i64 n7), (9, .int .i64 e9), (10, .pointer (some r10)), (63, .bool ((e9 != (0 : Int))))]) := by kernel_rfl
@[go_sem] theorem c26_r16 (t4 : Addr) (e9 : Int) (K : Env → W) : RP c26 16 [(4, .pointer (some t4)), (9, .int .i64 e9)] K =
    (stl [.int .i64 (0 : Int), .int .i64 (0 : Int), .int .i64 (0 : Int), .int .i64 (0 : Int), .int .i64 (0 : Int), str (([] : List UInt8)), str (([] : List UInt8)), str (([] : List UInt8)), .int .i64 (0 : Int), .slice none 0 0, .slice none 0 0, .int .i64 (0 : Int), .int .i64 (0 : Int)] t4 0 (K [(4, .pointer (some t4)), (5, .int .i64 (0 : Int)), (6, .int .i64 e9)])) := by kernel_rfl
@[go_sem] theorem c26_r17 (t4 : Addr) (n7 : Int) (r10 : Addr) (K : Env → W) : RP c26 17 [(4, .pointer (some t4)), (7, .int .i64 n7), (10, .pointer (some r10))] K =
    (ldn e_api_Rec 13 r10 fun (y1_ : api_Rec) => (stl [.int .i64 y1_.Kind, .int .i64 y1_.Txn, .int .i64 y1_.Prev, .int .i64 y1_.Page, .int .i64 y1_.Act, str y1_.Key, str y1_.Old, str y1_.New, .int .i64 y1_.Next, .slice y1_.Images.1 y1_.Images.2.1 y1_.Images.2.2, .slice y1_.Table.1 y1_.Table.2.1 y1_.Table.2.2, .int .i64 y1_.Epoch, .int .i64 y1_.Node] t4 0 (K [(4, .pointer (some t4)), (5, .int .i64 ((IntKind.wrap .i64 ((6 : Int) + n7)))), (6, .int .i64 (0 : Int))]))) := by kernel_rfl
@[go_sem] theorem c26_o : c26.lo 1000000 = [4, 5, 6] := rfl
@[go_sem] theorem c26_e (t4 : Addr) (t5 : Int) (t6 : Int) (k : Value → W) : RTp c26 [(4, .pointer (some t4)), (5, .int .i64 t5), (6, .int .i64 t6)] k = (ldn e_api_Rec 13 t4 fun (y1_ : api_Rec) => (k (.tuple #[v_api_Rec y1_, .int .i64 t5, .int .i64 t6]))) := by kernel_rfl
theorem c26_ok : (c26.P.follows .mixedOrders && okc c26 c26.body) = true := by kernel_rfl
theorem c26_fn {e : Enc} {args : Array Value} {G : e.α → W} {L : List HP} {ρ : Env} (hρ : envA 0 args.toList = ρ) (hs : Nat.ble args.size 69 = true) (h : E L (D c26 (.seq (.reg 0) (.seq (.seq (.reg 1) (.cond (.tmp 18) (.seq (.reg 2) (.ret)) (.skip))) (.seq (.reg 3) (.seq (.seq (.reg 4) (.cond (.tmp 25) (.seq (.reg 5) (.ret)) (.skip))) (.seq (.reg 6) (.seq (.block 0 (.seq (.reg 7) (.cond (.tmp 30) (.seq (.reg 8) (.ret)) (.seq (.reg 9) (.cond (.tmp 38) (.seq (.reg 10) (.ret)) (.skip)))))) (.seq (.reg 11) (.seq (.seq (.reg 12) (.cond (.tmp 54) (.seq (.reg 13) (.ret)) (.skip))) (.seq (.reg 14) (.seq (.seq (.reg 15) (.cond (.tmp 63) (.seq (.reg 16) (.ret)) (.skip))) (.seq (.reg 17) (.ret)))))))))))) (fnQ c26 e G) ρ)) : E L (cal e Tryz.prog 26 args G) :=
  d_fn (c := c26) Tryz.func26 (by kernel_rfl) (by kernel_rfl) (by kernel_rfl) c26_ok (by kernel_rfl) (by kernel_rfl) hρ hs h
/-! gharry.rec.Of -/
noncomputable def c87 : Cfg := { P := Tryz.prog, n := 102, T := TT, body := (Tryz.f87.body).getD .skip, res := Tryz.f87.results.toList, li := lk [] [(0, [0]), (1, [0, 2]), (2, [0, 2, 4]), (3, [0, 2, 4, 5]), (4, [2, 4]), (5, [0, 2, 4, 5]), (6, [0, 2, 4, 5, 21]), (7, [0, 2, 4, 5, 21]), (8, [0, 2, 4, 5]), (9, [0, 2, 4, 5, 21]), (10, [0, 2, 4, 5]), (11, [0, 2, 4, 5]), (12, [0, 2, 4, 5, 21]), (13, [0, 2, 4, 5, 21]), (14, [0, 2, 4, 5, 21]), (15, [0, 2, 4, 5]), (16, [0, 2, 4, 5]), (17, [0, 2, 4, 5, 21]), (18, [0, 2, 4, 5, 21]), (19, [0, 2, 4, 5]), (20, [0, 2, 4, 5, 21]), (21, [0, 2, 4, 5]), (22, [0, 2, 4, 5, 21]), (23, [0, 2, 4, 5]), (24, [0, 2, 4, 5]), (25, [0, 2, 5, 6]), (26, [2, 6]), (27, [0, 2, 5]), (28, [0, 2, 5, 7, 8]), (29, [2]), (30, [2, 5])], lo := lk [] [(0, [0, 2]), (1, [0, 2, 4]), (2, [0, 2, 4, 5]), (3, [0, 2, 4, 5, 16]), (4, [2, 3]), (5, [0, 2, 4, 5, 21]), (6, [0, 2, 4, 5, 21, 22]), (7, [0, 2, 4, 5, 21, 22]), (8, [0, 2, 4, 5]), (9, [0, 2, 4, 5, 21, 28]), (10, [0, 2, 4, 5]), (11, [0, 2, 4, 5]), (12, [0, 2, 4, 5, 21, 46]), (13, [0, 2, 4, 5, 21, 46]), (14, [0, 2, 4, 5, 21, 46]), (15, [0, 2, 4, 5]), (16, [0, 2, 4, 5]), (17, [0, 2, 4, 5, 21, 60]), (18, [0, 2, 4, 5, 21, 60]), (19, [0, 2, 4, 5]), (20, [0, 2, 4, 5, 21, 69]), (21, [0, 2, 4, 5]), (22, [0, 2, 4, 5, 74]), (23, [0, 2, 4, 5]), (24, [0, 2, 5, 6]), (25, [0, 2, 5, 6, 85]), (26, [2, 3]), (27, [0, 2, 5, 7, 8]), (28, [2, 5, 99]), (29, [2, 3]), (30, [2, 3]), (1000000, [2, 3])], ord := lk (false, []) [] }
@[go_sem] theorem c87_i0 : c87.li 0 = [0] := rfl
@[go_sem] theorem c87_i1 : c87.li 1 = [0, 2] := rfl
@[go_sem] theorem c87_i2 : c87.li 2 = [0, 2, 4] := rfl
@[go_sem] theorem c87_i3 : c87.li 3 = [0, 2, 4, 5] := rfl
@[go_sem] theorem c87_i4 : c87.li 4 = [2, 4] := rfl
@[go_sem] theorem c87_i5 : c87.li 5 = [0, 2, 4, 5] := rfl
@[go_sem] theorem c87_i6 : c87.li 6 = [0, 2, 4, 5, 21] := rfl
@[go_sem] theorem c87_i7 : c87.li 7 = [0, 2, 4, 5, 21] := rfl
@[go_sem] theorem c87_i8 : c87.li 8 = [0, 2, 4, 5] := rfl
@[go_sem] theorem c87_i9 : c87.li 9 = [0, 2, 4, 5, 21] := rfl
@[go_sem] theorem c87_i10 : c87.li 10 = [0, 2, 4, 5] := rfl
@[go_sem] theorem c87_i11 : c87.li 11 = [0, 2, 4, 5] := rfl
@[go_sem] theorem c87_i12 : c87.li 12 = [0, 2, 4, 5, 21] := rfl
@[go_sem] theorem c87_i13 : c87.li 13 = [0, 2, 4, 5, 21] := rfl
@[go_sem] theorem c87_i14 : c87.li 14 = [0, 2, 4, 5, 21] := rfl
@[go_sem] theorem c87_i15 : c87.li 15 = [0, 2, 4, 5] := rfl
@[go_sem] theorem c87_i16 : c87.li 16 = [0, 2, 4, 5] := rfl
@[go_sem] theorem c87_i17 : c87.li 17 = [0, 2, 4, 5, 21] := rfl
@[go_sem] theorem c87_i18 : c87.li 18 = [0, 2, 4, 5, 21] := rfl
@[go_sem] theorem c87_i19 : c87.li 19 = [0, 2, 4, 5] := rfl
@[go_sem] theorem c87_i20 : c87.li 20 = [0, 2, 4, 5, 21] := rfl
@[go_sem] theorem c87_i21 : c87.li 21 = [0, 2, 4, 5] := rfl
@[go_sem] theorem c87_i22 : c87.li 22 = [0, 2, 4, 5, 21] := rfl
@[go_sem] theorem c87_i23 : c87.li 23 = [0, 2, 4, 5] := rfl
@[go_sem] theorem c87_i24 : c87.li 24 = [0, 2, 4, 5] := rfl
@[go_sem] theorem c87_i25 : c87.li 25 = [0, 2, 5, 6] := rfl
@[go_sem] theorem c87_i26 : c87.li 26 = [2, 6] := rfl
@[go_sem] theorem c87_i27 : c87.li 27 = [0, 2, 5] := rfl
@[go_sem] theorem c87_i28 : c87.li 28 = [0, 2, 5, 7, 8] := rfl
@[go_sem] theorem c87_i29 : c87.li 29 = [2] := rfl
@[go_sem] theorem c87_i30 : c87.li 30 = [2, 5] := rfl
@[go_sem] theorem c87_r0 (s0 : List UInt8) (K : Env → W) : RP c87 0 [(0, str s0)] K =
    (nwc #[.int .i64 (0 : Int), .int .i64 (0 : Int), .int .i64 (0 : Int), .int .i64 (0 : Int), .int .i64 (0 : Int), str (([] : List UInt8)), str (([] : List UInt8)), str (([] : List UInt8)), .int .i64 (0 : Int), .slice none 0 0, .slice none 0 0, .int .i64 (0 : Int), .int .i64 (0 : Int)] 36 fun y1_ => (K [(0, str s0), (2, .pointer (some y1_))])) := by kernel_rfl
@[go_sem] theorem c87_r1 (s0 : List UInt8) (t2 : Addr) (K : Env → W) : RP c87 1 [(0, str s0), (2, .pointer (some t2))] K =
    (cal eP Tryz.prog 84 #[str s0] fun (y1_ : Option Addr) => (K [(0, str s0), (2, .pointer (some t2)), (4, .pointer y1_)])) := by kernel_rfl
@[go_sem] theorem c87_r2 (s0 : List UInt8) (t2 : Addr) (r4 : Option Addr) (K : Env → W) : RP c87 2 [(0, str s0), (2, .pointer (some t2)), (4, .pointer r4)] K =
    (cal eI Tryz.prog 85 #[.pointer r4, .int .i64 (1 : Int)] fun (y1_ : Int) => (nwc #[.int .i64 (0 : Int), .int .i64 (0 : Int), .int .i64 (0 : Int), .int .i64 (0 : Int), .int .i64 (0 : Int), str (([] : List UInt8)), str (([] : List UInt8)), str (([] : List UInt8)), .int .i64 (0 : Int), .slice none 0 0, .slice none 0 0, .int .i64 (0 : Int), .int .i64 (0 : Int)] 36 fun y2_ => (stl [.int .i64 (y1_), .int .i64 (0 : Int), .int .i64 (0 : Int), .int .i64 (0 : Int), .int .i64 (0 : Int), str (([] : List UInt8)), str (([] : List UInt8)), str (([] : List UInt8)), .int .i64 (0 : Int), .slice none 0 0, .slice none 0 0, .int .i64 (0 : Int), .int .i64 (0 : Int)] y2_ 0 (K [(0, str s0), (2, .pointer (some t2)), (4, .pointer r4), (5, .pointer (some y2_))])))) := by kernel_rfl
@[go_sem] theorem c87_r3 (s0 : List UInt8) (t2 : Addr) (r4 : Option Addr) (out5 : Addr) (K : Env → W) : RP c87 3 [(0, str s0), (2, .pointer (some t2)), (4, .pointer r4), (5, .pointer (some out5))] K =
    (cal eI Tryz.prog 115 #[.pointer r4] fun (y1_ : Int) => (K [(0, str s0), (2, .pointer (some t2)), (4, .pointer r4), (5, .pointer (some out5)), (16, .bool ((y1_ != (0 : Int))))])) := by kernel_rfl
@[go_sem] theorem c87_r4 (t2 : Addr) (r4 : Option Addr) (K : Env → W) : RP c87 4 [(2, .pointer (some t2)), (4, .pointer r4)] K =
    (cal eI Tryz.prog 115 #[.pointer r4] fun (y1_ : Int) => (stl [.int .i64 (0 : Int), .int .i64 (0 : Int), .int .i64 (0 : Int), .int .i64 (0 : Int), .int .i64 (0 : Int), str (([] : List UInt8)), str (([] : List UInt8)), str (([] : List UInt8)), .int .i64 (0 : Int), .slice none 0 0, .slice none 0 0, .int .i64 (0 : Int), .int .i64 (0 : Int)] t2 0 (K [(2, .pointer (some t2)), (3, .int .i64 y1_)]))) := by kernel_rfl
@[go_sem] theorem c87_r5 (s0 : List UInt8) (t2 : Addr) (r4 : Option Addr) (out5 : Addr) (K : Env → W) : RP c87 5 [(0, str s0), (2, .pointer (some t2)), (4, .pointer r4), (5, .pointer (some out5))] K =
    (ld eI out5 fun (y1_ : Int) => (K [(0, str s0), (2, .pointer (some t2)), (4, .pointer r4), (5, .pointer (some out5)), (21, .int .i64 y1_)])) := by kernel_rfl
@[go_sem] theorem c87_r6 (s0 : List UInt8) (t2 : Addr) (r4 : Option Addr) (out5 : Addr) (t21 : Int) (K : Env → W) : RP c87 6 [(0, str s0), (2, .pointer (some t2)), (4, .pointer r4), (5, .pointer (some out5)), (21, .int .i64 t21)] K =
    (K [(0, str s0), (2, .pointer (some t2)), (4, .pointer r4), (5, .pointer (some out5)), (21, .int .i64 t21), (22, .bool ((t21 == (1 : Int))))]) := by kernel_rfl
@[go_sem] theorem c87_r7 (s0 : List UInt8) (t2 : Addr) (r4 : Option Addr) (out5 : Addr) (t21 : Int) (K : Env → W) : RP c87 7 [(0, str s0), (2, .pointer (some t2)), (4, .pointer r4), (5, .pointer (some out5)), (21, .int .i64 t21)] K =
    (K [(0, str s0), (2, .pointer (some t2)), (4, .pointer r4), (5, .pointer (some out5)), (21, .int .i64 t21), (22, .bool ((t21 == (2 : Int))))]) := by kernel_rfl
@[go_sem] theorem c87_r8 (s0 : List UInt8) (t2 : Addr) (r4 : Option Addr) (out5 : Addr) (K : Env → W) : RP c87 8 [(0, str s0), (2, .pointer (some t2)), (4, .pointer r4), (5, .pointer (some out5))] K =
    (cal eSl Tryz.prog 116 #[.pointer r4] fun (y1_ : (Option Addr × Nat × Nat)) => (st ((out5.add 9)) (.slice y1_.1 y1_.2.1 y1_.2.2) (K [(0, str s0), (2, .pointer (some t2)), (4, .pointer r4), (5, .pointer (some out5))]))) := by kernel_rfl
@[go_sem] theorem c87_r9 (s0 : List UInt8) (t2 : Addr) (r4 : Option Addr) (out5 : Addr) (t21 : Int) (K : Env → W) : RP c87 9 [(0, str s0), (2, .pointer (some t2)), (4, .pointer r4), (5, .pointer (some out5)), (21, .int .i64 t21)] K =
    (K [(0, str s0), (2, .pointer (some t2)), (4, .pointer r4), (5, .pointer (some out5)), (21, .int .i64 t21), (28, .bool ((t21 == (6 : Int))))]) := by kernel_rfl
@[go_sem] theorem c87_r10 (s0 : List UInt8) (t2 : Addr) (r4 : Option Addr) (out5 : Addr) (K : Env → W) : RP c87 10 [(0, str s0), (2, .pointer (some t2)), (4, .pointer r4), (5, .pointer (some out5))] K =
    (cal eI Tryz.prog 85 #[.pointer r4, .int .i64 (6 : Int)] fun (y1_ : Int) => (cal eI Tryz.prog 85 #[.pointer r4, .int .i64 (6 : Int)] fun (y2_ : Int) => (cal eI Tryz.prog 85 #[.pointer r4, .int .i64 (6 : Int)] fun (y3_ : Int) => (cal eI Tryz.prog 85 #[.pointer r4, .int .i64 (1 : Int)] fun (y4_ : Int) => (st ((out5.add 1)) (.int .i64 y1_) (st ((out5.add 2)) (.int .i64 y2_) (st ((out5.add 8)) (.int .i64 y3_) (st ((out5.add 4)) (.int .i64 y4_) (K [(0, str s0), (2, .pointer (some t2)), (4, .pointer r4), (5, .pointer (some out5))]))))))))) := by kernel_rfl
@[go_sem] theorem c87_r11 (s0 : List UInt8) (t2 : Addr) (r4 : Option Addr) (out5 : Addr) (K : Env → W) : RP c87 11 [(0, str s0), (2, .pointer (some t2)), (4, .pointer r4), (5, .pointer (some out5))] K =
    (ld eI ((out5.add 4)) fun (y1_ : Int) => (cal eN Tryz.prog 117 #[.pointer r4, .pointer (some out5), .int .i64 y1_] fun (y2_ : Unit) => (K [(0, str s0), (2, .pointer (some t2)), (4, .pointer r4), (5, .pointer (some out5))]))) := by kernel_rfl
@[go_sem] theorem c87_r12 (s0 : List UInt8) (t2 : Addr) (r4 : Option Addr) (out5 : Addr) (t21 : Int) (K : Env → W) : RP c87 12 [(0, str s0), (2, .pointer (some t2)), (4, .pointer r4), (5, .pointer (some out5)), (21, .int .i64 t21)] K =
    (K [(0, str s0), (2, .pointer (some t2)), (4, .pointer r4), (5, .pointer (some out5)), (21, .int .i64 t21), (46, .bool ((t21 == (3 : Int))))]) := by kernel_rfl
@[go_sem] theorem c87_r13 (s0 : List UInt8) (t2 : Addr) (r4 : Option Addr) (out5 : Addr) (t21 : Int) (K : Env → W) : RP c87 13 [(0, str s0), (2, .pointer (some t2)), (4, .pointer r4), (5, .pointer (some out5)), (21, .int .i64 t21)] K =
    (K [(0, str s0), (2, .pointer (some t2)), (4, .pointer r4), (5, .pointer (some out5)), (21, .int .i64 t21), (46, .bool ((t21 == (4 : Int))))]) := by kernel_rfl
@[go_sem] theorem c87_r14 (s0 : List UInt8) (t2 : Addr) (r4 : Option Addr) (out5 : Addr) (t21 : Int) (K : Env → W) : RP c87 14 [(0, str s0), (2, .pointer (some t2)), (4, .pointer r4), (5, .pointer (some out5)), (21, .int .i64 t21)] K =
    (K [(0, str s0), (2, .pointer (some t2)), (4, .pointer r4), (5, .pointer (some out5)), (21, .int .i64 t21), (46, .bool ((t21 == (5 : Int))))]) := by kernel_rfl
@[go_sem] theorem c87_r15 (s0 : List UInt8) (t2 : Addr) (r4 : Option Addr) (out5 : Addr) (K : Env → W) : RP c87 15 [(0, str s0), (2, .pointer (some t2)), (4, .pointer r4), (5, .pointer (some out5))] K =
    (cal eI Tryz.prog 85 #[.pointer r4, .int .i64 (6 : Int)] fun (y1_ : Int) => (cal eI Tryz.prog 85 #[.pointer r4, .int .i64 (6 : Int)] fun (y2_ : Int) => (st ((out5.add 1)) (.int .i64 y1_) (st ((out5.add 2)) (.int .i64 y2_) (K [(0, str s0), (2, .pointer (some t2)), (4, .pointer r4), (5, .pointer (some out5))]))))) := by kernel_rfl
@[go_sem] theorem c87_r16 (s0 : List UInt8) (t2 : Addr) (r4 : Option Addr) (out5 : Addr) (K : Env → W) : RP c87 16 [(0, str s0), (2, .pointer (some t2)), (4, .pointer r4), (5, .pointer (some out5))] K =
    (ld eI out5 fun (y1_ : Int) => (cal eN Tryz.prog 117 #[.pointer r4, .pointer (some out5), .int .i64 y1_] fun (y2_ : Unit) => (K [(0, str s0), (2, .pointer (some t2)), (4, .pointer r4), (5, .pointer (some out5))]))) := by kernel_rfl
@[go_sem] theorem c87_r17 (s0 : List UInt8) (t2 : Addr) (r4 : Option Addr) (out5 : Addr) (t21 : Int) (K : Env → W) : RP c87 17 [(0, str s0), (2, .pointer (some t2)), (4, .pointer r4), (5, .pointer (some out5)), (21, .int .i64 t21)] K =
    (K [(0, str s0), (2, .pointer (some t2)), (4, .pointer r4), (5, .pointer (some out5)), (21, .int .i64 t21), (60, .bool ((t21 == (7 : Int))))]) := by kernel_rfl
@[go_sem] theorem c87_r18 (s0 : List UInt8) (t2 : Addr) (r4 : Option Addr) (out5 : Addr) (t21 : Int) (K : Env → W) : RP c87 18 [(0, str s0), (2, .pointer (some t2)), (4, .pointer r4), (5, .pointer (some out5)), (21, .int .i64 t21)] K =
    (K [(0, str s0), (2, .pointer (some t2)), (4, .pointer r4), (5, .pointer (some out5)), (21, .int .i64 t21), (60, .bool ((t21 == (8 : Int))))]) := by kernel_rfl
@[go_sem] theorem c87_r19 (s0 : List UInt8) (t2 : Addr) (r4 : Option Addr) (out5 : Addr) (K : Env → W) : RP c87 19 [(0, str s0), (2, .pointer (some t2)), (4, .pointer r4), (5, .pointer (some out5))] K =
    (cal eI Tryz.prog 85 #[.pointer r4, .int .i64 (6 : Int)] fun (y1_ : Int) => (cal eI Tryz.prog 85 #[.pointer r4, .int .i64 (6 : Int)] fun (y2_ : Int) => (st ((out5.add 1)) (.int .i64 y1_) (st ((out5.add 2)) (.int .i64 y2_) (K [(0, str s0), (2, .pointer (some t2)), (4, .pointer r4), (5, .pointer (some out5))]))))) := by kernel_rfl
@[go_sem] theorem c87_r20 (s0 : List UInt8) (t2 : Addr) (r4 : Option Addr) (out5 : Addr) (t21 : Int) (K : Env → W) : RP c87 20 [(0, str s0), (2, .pointer (some t2)), (4, .pointer r4), (5, .pointer (some out5)), (21, .int .i64 t21)] K =
    (K [(0, str s0), (2, .pointer (some t2)), (4, .pointer r4), (5, .pointer (some out5)), (21, .int .i64 t21), (69, .bool ((t21 == (9 : Int))))]) := by kernel_rfl
@[go_sem] theorem c87_r21 (s0 : List UInt8) (t2 : Addr) (r4 : Option Addr) (out5 : Addr) (K : Env → W) : RP c87 21 [(0, str s0), (2, .pointer (some t2)), (4, .pointer r4), (5, .pointer (some out5))] K =
    (cal eSl Tryz.prog 118 #[.pointer r4] fun (y1_ : (Option Addr × Nat × Nat)) => (st ((out5.add 10)) (.slice y1_.1 y1_.2.1 y1_.2.2) (K [(0, str s0), (2, .pointer (some t2)), (4, .pointer r4), (5, .pointer (some out5))]))) := by kernel_rfl
@[go_sem] theorem c87_r22 (s0 : List UInt8) (t2 : Addr) (r4 : Option Addr) (out5 : Addr) (t21 : Int) (K : Env → W) : RP c87 22 [(0, str s0), (2, .pointer (some t2)), (4, .pointer r4), (5, .pointer (some out5)), (21, .int .i64 t21)] K =
    (K [(0, str s0), (2, .pointer (some t2)), (4, .pointer r4), (5, .pointer (some out5)), (74, .bool ((t21 == (10 : Int))))]) := by kernel_rfl
@[go_sem] theorem c87_r23 (s0 : List UInt8) (t2 : Addr) (r4 : Option Addr) (out5 : Addr) (K : Env → W) : RP c87 23 [(0, str s0), (2, .pointer (some t2)), (4, .pointer r4), (5, .pointer (some out5))] K =
    (cal eI Tryz.prog 85 #[.pointer r4, .int .i64 (4 : Int)] fun (y1_ : Int) => (cal eI Tryz.prog 85 #[.pointer r4, .int .i64 (1 : Int)] fun (y2_ : Int) => (st ((out5.add 11)) (.int .i64 y1_) (st ((out5.add 12)) (.int .i64 y2_) (K [(0, str s0), (2, .pointer (some t2)), (4, .pointer r4), (5, .pointer (some out5))]))))) := by kernel_rfl
@[go_sem] theorem c87_r24 (s0 : List UInt8) (t2 : Addr) (r4 : Option Addr) (out5 : Addr) (K : Env → W) : RP c87 24 [(0, str s0), (2, .pointer (some t2)), (4, .pointer r4), (5, .pointer (some out5))] K =
    (cal eI Tryz.prog 119 #[.pointer r4] fun (y1_ : Int) => (K [(0, str s0), (2, .pointer (some t2)), (5, .pointer (some out5)), (6, .int .i64 y1_)])) := by kernel_rfl
@[go_sem] theorem c87_r25 (s0 : List UInt8) (t2 : Addr) (out5 : Addr) (e6 : Int) (K : Env → W) : RP c87 25 [(0, str s0), (2, .pointer (some t2)), (5, .pointer (some out5)), (6, .int .i64 e6)] K =
    (K [(0, str s0), (2, .pointer (some t2)), (5, .pointer (some out5)), (6, .int .i64 e6), (85, .bool ((e6 != (0 : Int))))]) := by kernel_rfl
@[go_sem] theorem c87_r26 (t2 : Addr) (e6 : Int) (K : Env → W) : RP c87 26 [(2, .pointer (some t2)), (6, .int .i64 e6)] K =
    (stl [.int .i64 (0 : Int), .int .i64 (0 : Int), .int .i64 (0 : Int), .int .i64 (0 : Int), .int .i64 (0 : Int), str (([] : List UInt8)), str (([] : List UInt8)), str (([] : List UInt8)), .int .i64 (0 : Int), .slice none 0 0, .slice none 0 0, .int .i64 (0 : Int), .int .i64 (0 : Int)] t2 0 (K [(2, .pointer (some t2)), (3, .int .i64 e6)])) := by kernel_rfl
@[go_sem] theorem c87_r27 (s0 : List UInt8) (t2 : Addr) (out5 : Addr) (K : Env → W) : RP c87 27 [(0, str s0), (2, .pointer (some t2)), (5, .pointer (some out5))] K =
    (ldn e_api_Rec 13 out5 fun (y1_ : api_Rec) => (cal (eT2 eS eI) Tryz.prog 71 #[v_api_Rec y1_] fun (y2_ : ((List UInt8) × Int)) => (K [(0, str s0), (2, .pointer (some t2)), (5, .pointer (some out5)), (7, str y2_.1), (8, .int .i64 y2_.2)]))) := by kernel_rfl
@[go_sem] theorem c87_r28 (s0 : List UInt8) (t2 : Addr) (out5 : Addr) (again7 : List UInt8) (e8 : Int) (K : Env → W) : RP c87 28 [(0, str s0), (2, .pointer (some t2)), (5, .pointer (some out5)), (7, str again7), (8, .int .i64 e8)] K =
    (cnd ((e8 != (0 : Int))) (K [(2, .pointer (some t2)), (5, .pointer (some out5)), (99, .bool true)]) (K [(2, .pointer (some t2)), (5, .pointer (some out5)), (99, .bool ((!(again7 == s0))))])) := by kernel_rfl
@[go_sem] theorem c87_r29 (t2 : Addr) (K : Env → W) : RP c87 29 [(2, .pointer (some t2))] K =
    (stl [.int .i64 (0 : Int), .int .i64 (0 : Int), .int .i64 (0 : Int), .int .i64 (0 : Int), .int .i64 (0 : Int), str (([] : List UInt8)), str (([] : List UInt8)), str (([] : List UInt8)), .int .i64 (0 : Int), .slice none 0 0, .slice none 0 0, .int .i64 (0 : Int), .int .i64 (0 : Int)] t2 0 (K [(2, .pointer (some t2)), (3, .int .i64 (4 : Int))])) := by kernel_rfl
@[go_sem] theorem c87_r30 (t2 : Addr) (out5 : Addr) (K : Env → W) : RP c87 30 [(2, .pointer (some t2)), (5, .pointer (some out5))] K =
    (ldn e_api_Rec 13 out5 fun (y1_ : api_Rec) => (stl [.int .i64 y1_.Kind, .int .i64 y1_.Txn, .int .i64 y1_.Prev, .int .i64 y1_.Page, .int .i64 y1_.Act, str y1_.Key, str y1_.Old, str y1_.New, .int .i64 y1_.Next, .slice y1_.Images.1 y1_.Images.2.1 y1_.Images.2.2, .slice y1_.Table.1 y1_.Table.2.1 y1_.Table.2.2, .int .i64 y1_.Epoch, .int .i64 y1_.Node] t2 0 (K [(2, .pointer (some t2)), (3, .int .i64 (0 : Int))]))) := by kernel_rfl
@[go_sem] theorem c87_o : c87.lo 1000000 = [2, 3] := rfl
@[go_sem] theorem c87_e (t2 : Addr) (t3 : Int) (k : Value → W) : RTp c87 [(2, .pointer (some t2)), (3, .int .i64 t3)] k = (ldn e_api_Rec 13 t2 fun (y1_ : api_Rec) => (k (.tuple #[v_api_Rec y1_, .int .i64 t3]))) := by kernel_rfl
theorem c87_ok : (c87.P.follows .mixedOrders && okc c87 c87.body) = true := by kernel_rfl
theorem c87_fn {e : Enc} {args : Array Value} {G : e.α → W} {L : List HP} {ρ : Env} (hρ : envA 0 args.toList = ρ) (hs : Nat.ble args.size 102 = true) (h : E L (D c87 (.seq (.reg 0) (.seq (.reg 1) (.seq (.reg 2) (.seq (.seq (.reg 3) (.cond (.tmp 16) (.seq (.reg 4) (.ret)) (.skip))) (.seq (.seq (.reg 5) (.block 0 (.seq (.seq (.reg 6) (.cond (.tmp 22) (.skip) (.reg 7))) (.cond (.tmp 22) (.reg 8) (.seq (.reg 9) (.cond (.tmp 28) (.seq (.reg 10) (.reg 11)) (.seq (.seq (.reg 12) (.cond (.tmp 46) (.skip) (.seq (.reg 13) (.cond (.tmp 46) (.skip) (.reg 14))))) (.cond (.tmp 46) (.seq (.reg 15) (.reg 16)) (.seq (.seq (.reg 17) (.cond (.tmp 60) (.skip) (.reg 18))) (.cond (.tmp 60) (.reg 19) (.seq (.reg 20) (.cond (.tmp 69) (.reg 21) (.seq (.reg 22) (.cond (.tmp 74) (.reg 23) (.skip))))))))))))))) (.seq (.seq (.reg 24) (.seq (.reg 25) (.cond (.tmp 85) (.seq (.reg 26) (.ret)) (.skip)))) (.seq (.seq (.reg 27) (.seq (.reg 28) (.cond (.tmp 99) (.seq (.reg 29) (.ret)) (.skip)))) (.seq (.reg 30) (.ret))))))))) (fnQ c87 e G) ρ)) : E L (cal e Tryz.prog 87 args G) :=
  d_fn (c := c87) Tryz.func87 (by kernel_rfl) (by kernel_rfl) (by kernel_rfl) c87_ok (by kernel_rfl) (by kernel_rfl) hρ hs h
/-! gharry.rec.readImages -/
noncomputable def c116 : Cfg := { P := Tryz.prog, n := 23, T := TT, body := (Tryz.f116.body).getD .skip, res := Tryz.f116.results.toList, li := lk [] [(0, [0]), (1, [0]), (2, [0, 3]), (3, [0, 3, 6, 7]), (4, [0, 3, 6, 7]), (5, [0, 3, 4, 6, 7]), (6, []), (7, [0, 3, 4, 6, 7]), (8, [0, 3, 6, 7]), (9, [3])], lo := lk [] [(0, [0]), (1, [0, 3]), (2, [0, 3, 6, 7]), (3, [0, 3, 6, 7, 8]), (4, [0, 3, 4, 6, 7]), (5, [0, 3, 4, 6, 7, 16]), (6, [2]), (7, [0, 3, 6, 7]), (8, [0, 3, 6, 7]), (9, [2]), (1000000, [2])], ord := lk (false, []) [] }
@[go_sem] theorem c116_i0 : c116.li 0 = [0] := rfl
@[go_sem] theorem c116_i1 : c116.li 1 = [0] := rfl
@[go_sem] theorem c116_i2 : c116.li 2 = [0, 3] := rfl
@[go_sem] theorem c116_i3 : c116.li 3 = [0, 3, 6, 7] := rfl
@[go_sem] theorem c116_i4 : c116.li 4 = [0, 3, 6, 7] := rfl
@[go_sem] theorem c116_i5 : c116.li 5 = [0, 3, 4, 6, 7] := rfl
@[go_sem] theorem c116_i6 : c116.li 6 = [] := rfl
@[go_sem] theorem c116_i7 : c116.li 7 = [0, 3, 4, 6, 7] := rfl
@[go_sem] theorem c116_i8 : c116.li 8 = [0, 3, 6, 7] := rfl
@[go_sem] theorem c116_i9 : c116.li 9 = [3] := rfl
@[go_sem] theorem c116_r0 (r0 : Option Addr) (K : Env → W) : RP c116 0 [(0, .pointer r0)] K =
    (K [(0, .pointer r0)]) := by kernel_rfl
@[go_sem] theorem c116_r1 (r0 : Option Addr) (K : Env → W) : RP c116 1 [(0, .pointer r0)] K =
    (K [(0, .pointer r0), (3, .slice none 0 0)]) := by kernel_rfl
@[go_sem] theorem c116_r2 (r0 : Option Addr) (out3p : Option Addr) (out3n out3c : Nat) (K : Env → W) : RP c116 2 [(0, .pointer r0), (3, .slice out3p out3n out3c)] K =
    (cal eI Tryz.prog 85 #[.pointer r0, .int .i64 (1 : Int)] fun (y1_ : Int) => (K [(0, .pointer r0), (3, .slice out3p out3n out3c), (6, .int .i64 y1_), (7, .int .i64 (0 : Int))])) := by kernel_rfl
@[go_sem] theorem c116_r3 (r0 : Option Addr) (out3p : Option Addr) (out3n out3c : Nat) (t6 : Int) (t7 : Int) (K : Env → W) : RP c116 3 [(0, .pointer r0), (3, .slice out3p out3n out3c), (6, .int .i64 t6), (7, .int .i64 t7)] K =
    (K [(0, .pointer r0), (3, .slice out3p out3n out3c), (6, .int .i64 t6), (7, .int .i64 t7), (8, .bool ((decide (t7 < t6))))]) := by kernel_rfl
@[go_sem] theorem c116_r4 (r0 : Option Addr) (out3p : Option Addr) (out3n out3c : Nat) (t6 : Int) (t7 : Int) (K : Env → W) : RP c116 4 [(0, .pointer r0), (3, .slice out3p out3n out3c), (6, .int .i64 t6), (7, .int .i64 t7)] K =
    (cal eI Tryz.prog 85 #[.pointer r0, .int .i64 (2 : Int)] fun (y1_ : Int) => (cal eS Tryz.prog 133 #[.pointer r0, .int .i64 (224 : Int)] fun (y2_ : List UInt8) => (nwc #[.int .i64 (0 : Int), str (([] : List UInt8))] 123 fun y3_ => (stl [.int .i64 (y1_), str (y2_)] y3_ 0 (K [(0, .pointer r0), (3, .slice out3p out3n out3c), (4, .pointer (some y3_)), (6, .int .i64 t6), (7, .int .i64 t7)]))))) := by kernel_rfl
@[go_sem] theorem c116_r5 (r0 : Option Addr) (out3p : Option Addr) (out3n out3c : Nat) (m4 : Addr) (t6 : Int) (t7 : Int) (K : Env → W) : RP c116 5 [(0, .pointer r0), (3, .slice out3p out3n out3c), (4, .pointer (some m4)), (6, .int .i64 t6), (7, .int .i64 t7)] K =
    (cal eI Tryz.prog 115 #[.pointer r0] fun (y1_ : Int) => (K [(0, .pointer r0), (3, .slice out3p out3n out3c), (4, .pointer (some m4)), (6, .int .i64 t6), (7, .int .i64 t7), (16, .bool ((y1_ != (0 : Int))))])) := by kernel_rfl
@[go_sem] theorem c116_r6 (K : Env → W) : RP c116 6 [] K =
    (K [(2, .slice none 0 0)]) := by kernel_rfl
@[go_sem] theorem c116_r7 (r0 : Option Addr) (out3p : Option Addr) (out3n out3c : Nat) (m4 : Addr) (t6 : Int) (t7 : Int) (K : Env → W) : RP c116 7 [(0, .pointer r0), (3, .slice out3p out3n out3c), (4, .pointer (some m4)), (6, .int .i64 t6), (7, .int .i64 t7)] K =
    (ldn e_api_Image 2 m4 fun (y1_ : api_Image) => (nwc #[.int .i64 y1_.Page, str y1_.Text] 123 fun y2_ => (val eSl Tryz.prog (oB_append #[33, 33] 33 #[.slice out3p out3n out3c, .slice ((some y2_)) 1 1]) fun (y3_ : (Option Addr × Nat × Nat)) => (K [(0, .pointer r0), (3, .slice y3_.1 y3_.2.1 y3_.2.2), (6, .int .i64 t6), (7, .int .i64 t7)])))) := by kernel_rfl
@[go_sem] theorem c116_r8 (r0 : Option Addr) (out3p : Option Addr) (out3n out3c : Nat) (t6 : Int) (t7 : Int) (K : Env → W) : RP c116 8 [(0, .pointer r0), (3, .slice out3p out3n out3c), (6, .int .i64 t6), (7, .int .i64 t7)] K =
    (K [(0, .pointer r0), (3, .slice out3p out3n out3c), (6, .int .i64 t6), (7, .int .i64 ((IntKind.wrap .i64 (t7 + (1 : Int)))))]) := by kernel_rfl
@[go_sem] theorem c116_r9 (out3p : Option Addr) (out3n out3c : Nat) (K : Env → W) : RP c116 9 [(3, .slice out3p out3n out3c)] K =
    (K [(2, .slice out3p out3n out3c)]) := by kernel_rfl
@[go_sem] theorem c116_o : c116.lo 1000000 = [2] := rfl
@[go_sem] theorem c116_e (t2p : Option Addr) (t2n t2c : Nat) (k : Value → W) : RTp c116 [(2, .slice t2p t2n t2c)] k = (k (.slice t2p t2n t2c)) := by kernel_rfl
theorem c116_ok : (c116.P.follows .mixedOrders && okc c116 c116.body) = true := by kernel_rfl
theorem c116_fn {e : Enc} {args : Array Value} {G : e.α → W} {L : List HP} {ρ : Env} (hρ : envA 0 args.toList = ρ) (hs : Nat.ble args.size 23 = true) (h : E L (D c116 (.seq (.reg 0) (.seq (.reg 1) (.seq (.seq (.reg 2) (.block 0 (.loop (.seq (.reg 3) (.seq (.cond (.tmp 8) (.skip) (.exit 0)) (.seq (.block 1 (.seq (.reg 4) (.seq (.seq (.reg 5) (.cond (.tmp 16) (.seq (.reg 6) (.ret)) (.skip))) (.reg 7)))) (.reg 8))))))) (.seq (.reg 9) (.ret))))) (fnQ c116 e G) ρ)) : E L (cal e Tryz.prog 116 args G) :=
  d_fn (c := c116) Tryz.func116 (by kernel_rfl) (by kernel_rfl) (by kernel_rfl) c116_ok (by kernel_rfl) (by kernel_rfl) hρ hs h
-- loop (first region 3): live slots 0:r0 3:out3 6:t6 7:t7, of which it writes [3, 7]
/-! gharry.rec.readChange -/
noncomputable def c117 : Cfg := { P := Tryz.prog, n := 30, T := TT, body := (Tryz.f117.body).getD .skip, res := Tryz.f117.results.toList, li := lk [] [(0, [0, 1, 2]), (1, [0, 1, 2]), (2, [0, 1, 2]), (3, [0, 1, 2]), (4, [0, 1, 2]), (5, [0, 1])], lo := lk [] [(0, [0, 1, 2]), (1, [0, 1, 2]), (2, [0, 1, 2, 17]), (3, [0, 1, 2]), (4, [0, 1, 24]), (5, []), (1000000, [])], ord := lk (false, []) [] }
@[go_sem] theorem c117_i0 : c117.li 0 = [0, 1, 2] := rfl
@[go_sem] theorem c117_i1 : c117.li 1 = [0, 1, 2] := rfl
@[go_sem] theorem c117_i2 : c117.li 2 = [0, 1, 2] := rfl
@[go_sem] theorem c117_i3 : c117.li 3 = [0, 1, 2] := rfl
@[go_sem] theorem c117_i4 : c117.li 4 = [0, 1, 2] := rfl
@[go_sem] theorem c117_i5 : c117.li 5 = [0, 1] := rfl
@[go_sem] theorem c117_r0 (r0 : Option Addr) (out1 : Option Addr) (act2 : Int) (K : Env → W) : RP c117 0 [(0, .pointer r0), (1, .pointer out1), (2, .int .i64 act2)] K =
    (cal eI Tryz.prog 85 #[.pointer r0, .int .i64 (2 : Int)] fun (y1_ : Int) => (nn out1 fun y2_ => (st ((y2_.add 3)) (.int .i64 y1_) (K [(0, .pointer r0), (1, .pointer out1), (2, .int .i64 act2)])))) := by kernel_rfl
@[go_sem] theorem c117_r1 (r0 : Option Addr) (out1 : Option Addr) (act2 : Int) (K : Env → W) : RP c117 1 [(0, .pointer r0), (1, .pointer out1), (2, .int .i64 act2)] K =
    (cal eS Tryz.prog 133 #[.pointer r0, .int .i64 (16 : Int)] fun (y1_ : List UInt8) => (nn out1 fun y2_ => (st ((y2_.add 5)) (str y1_) (K [(0, .pointer r0), (1, .pointer out1), (2, .int .i64 act2)])))) := by kernel_rfl
@[go_sem] theorem c117_r2 (r0 : Option Addr) (out1 : Option Addr) (act2 : Int) (K : Env → W) : RP c117 2 [(0, .pointer r0), (1, .pointer out1), (2, .int .i64 act2)] K =
    (K [(0, .pointer r0), (1, .pointer out1), (2, .int .i64 act2), (17, .bool ((act2 != (3 : Int))))]) := by kernel_rfl
@[go_sem] theorem c117_r3 (r0 : Option Addr) (out1 : Option Addr) (act2 : Int) (K : Env → W) : RP c117 3 [(0, .pointer r0), (1, .pointer out1), (2, .int .i64 act2)] K =
    (cal eS Tryz.prog 133 #[.pointer r0, .int .i64 (32 : Int)] fun (y1_ : List UInt8) => (nn out1 fun y2_ => (st ((y2_.add 6)) (str y1_) (K [(0, .pointer r0), (1, .pointer out1), (2, .int .i64 act2)])))) := by kernel_rfl
@[go_sem] theorem c117_r4 (r0 : Option Addr) (out1 : Option Addr) (act2 : Int) (K : Env → W) : RP c117 4 [(0, .pointer r0), (1, .pointer out1), (2, .int .i64 act2)] K =
    (K [(0, .pointer r0), (1, .pointer out1), (24, .bool ((act2 != (4 : Int))))]) := by kernel_rfl
@[go_sem] theorem c117_r5 (r0 : Option Addr) (out1 : Option Addr) (K : Env → W) : RP c117 5 [(0, .pointer r0), (1, .pointer out1)] K =
    (cal eS Tryz.prog 133 #[.pointer r0, .int .i64 (32 : Int)] fun (y1_ : List UInt8) => (nn out1 fun y2_ => (st ((y2_.add 7)) (str y1_) (K [])))) := by kernel_rfl
@[go_sem] theorem c117_o : c117.lo 1000000 = [] := rfl
@[go_sem] theorem c117_e (k : Value → W) : RTp c117 [] k = (k (.tuple #[])) := by kernel_rfl
theorem c117_ok : (c117.P.follows .mixedOrders && okc c117 c117.body) = true := by kernel_rfl
theorem c117_fn {e : Enc} {args : Array Value} {G : e.α → W} {L : List HP} {ρ : Env} (hρ : envA 0 args.toList = ρ) (hs : Nat.ble args.size 30 = true) (h : E L (D c117 (.seq (.reg 0) (.seq (.reg 1) (.seq (.seq (.reg 2) (.cond (.tmp 17) (.reg 3) (.skip))) (.seq (.reg 4) (.cond (.tmp 24) (.reg 5) (.skip)))))) (fnQ c117 e G) ρ)) : E L (cal e Tryz.prog 117 args G) :=
  d_fn (c := c117) Tryz.func117 (by kernel_rfl) (by kernel_rfl) (by kernel_rfl) c117_ok (by kernel_rfl) (by kernel_rfl) hρ hs h
/-! gharry.rec.readTable -/
noncomputable def c118 : Cfg := { P := Tryz.prog, n := 18, T := TT, body := (Tryz.f118.body).getD .skip, res := Tryz.f118.results.toList, li := lk [] [(0, [0]), (1, [0]), (2, [0, 3]), (3, [0, 3, 5, 6]), (4, [0, 3, 5, 6]), (5, [0, 3, 5, 6]), (6, [3])], lo := lk [] [(0, [0]), (1, [0, 3]), (2, [0, 3, 5, 6]), (3, [0, 3, 5, 6, 7]), (4, [0, 3, 5, 6]), (5, [0, 3, 5, 6]), (6, [2]), (1000000, [2])], ord := lk (false, []) [] }
@[go_sem] theorem c118_i0 : c118.li 0 = [0] := rfl
@[go_sem] theorem c118_i1 : c118.li 1 = [0] := rfl
@[go_sem] theorem c118_i2 : c118.li 2 = [0, 3] := rfl
@[go_sem] theorem c118_i3 : c118.li 3 = [0, 3, 5, 6] := rfl
@[go_sem] theorem c118_i4 : c118.li 4 = [0, 3, 5, 6] := rfl
@[go_sem] theorem c118_i5 : c118.li 5 = [0, 3, 5, 6] := rfl
@[go_sem] theorem c118_i6 : c118.li 6 = [3] := rfl
@[go_sem] theorem c118_r0 (r0 : Option Addr) (K : Env → W) : RP c118 0 [(0, .pointer r0)] K =
    (K [(0, .pointer r0)]) := by kernel_rfl
@[go_sem] theorem c118_r1 (r0 : Option Addr) (K : Env → W) : RP c118 1 [(0, .pointer r0)] K =
    (K [(0, .pointer r0), (3, .slice none 0 0)]) := by kernel_rfl
@[go_sem] theorem c118_r2 (r0 : Option Addr) (out3p : Option Addr) (out3n out3c : Nat) (K : Env → W) : RP c118 2 [(0, .pointer r0), (3, .slice out3p out3n out3c)] K =
    (cal eI Tryz.prog 85 #[.pointer r0, .int .i64 (1 : Int)] fun (y1_ : Int) => (K [(0, .pointer r0), (3, .slice out3p out3n out3c), (5, .int .i64 y1_), (6, .int .i64 (0 : Int))])) := by kernel_rfl
@[go_sem] theorem c118_r3 (r0 : Option Addr) (out3p : Option Addr) (out3n out3c : Nat) (t5 : Int) (t6 : Int) (K : Env → W) : RP c118 3 [(0, .pointer r0), (3, .slice out3p out3n out3c), (5, .int .i64 t5), (6, .int .i64 t6)] K =
    (K [(0, .pointer r0), (3, .slice out3p out3n out3c), (5, .int .i64 t5), (6, .int .i64 t6), (7, .bool ((decide (t6 < t5))))]) := by kernel_rfl
@[go_sem] theorem c118_r4 (r0 : Option Addr) (out3p : Option Addr) (out3n out3c : Nat) (t5 : Int) (t6 : Int) (K : Env → W) : RP c118 4 [(0, .pointer r0), (3, .slice out3p out3n out3c), (5, .int .i64 t5), (6, .int .i64 t6)] K =
    (cal eI Tryz.prog 85 #[.pointer r0, .int .i64 (6 : Int)] fun (y1_ : Int) => (cal eI Tryz.prog 85 #[.pointer r0, .int .i64 (6 : Int)] fun (y2_ : Int) => (nwc #[.int .i64 (y1_), .int .i64 (y2_)] 125 fun y3_ => (val eSl Tryz.prog (oB_append #[34, 34] 34 #[.slice out3p out3n out3c, .slice ((some y3_)) 1 1]) fun (y4_ : (Option Addr × Nat × Nat)) => (K [(0, .pointer r0), (3, .slice y4_.1 y4_.2.1 y4_.2.2), (5, .int .i64 t5), (6, .int .i64 t6)]))))) := by kernel_rfl
@[go_sem] theorem c118_r5 (r0 : Option Addr) (out3p : Option Addr) (out3n out3c : Nat) (t5 : Int) (t6 : Int) (K : Env → W) : RP c118 5 [(0, .pointer r0), (3, .slice out3p out3n out3c), (5, .int .i64 t5), (6, .int .i64 t6)] K =
    (K [(0, .pointer r0), (3, .slice out3p out3n out3c), (5, .int .i64 t5), (6, .int .i64 ((IntKind.wrap .i64 (t6 + (1 : Int)))))]) := by kernel_rfl
@[go_sem] theorem c118_r6 (out3p : Option Addr) (out3n out3c : Nat) (K : Env → W) : RP c118 6 [(3, .slice out3p out3n out3c)] K =
    (K [(2, .slice out3p out3n out3c)]) := by kernel_rfl
@[go_sem] theorem c118_o : c118.lo 1000000 = [2] := rfl
@[go_sem] theorem c118_e (t2p : Option Addr) (t2n t2c : Nat) (k : Value → W) : RTp c118 [(2, .slice t2p t2n t2c)] k = (k (.slice t2p t2n t2c)) := by kernel_rfl
theorem c118_ok : (c118.P.follows .mixedOrders && okc c118 c118.body) = true := by kernel_rfl
theorem c118_fn {e : Enc} {args : Array Value} {G : e.α → W} {L : List HP} {ρ : Env} (hρ : envA 0 args.toList = ρ) (hs : Nat.ble args.size 18 = true) (h : E L (D c118 (.seq (.reg 0) (.seq (.reg 1) (.seq (.seq (.reg 2) (.block 0 (.loop (.seq (.reg 3) (.seq (.cond (.tmp 7) (.skip) (.exit 0)) (.seq (.block 1 (.reg 4)) (.reg 5))))))) (.seq (.reg 6) (.ret))))) (fnQ c118 e G) ρ)) : E L (cal e Tryz.prog 118 args G) :=
  d_fn (c := c118) Tryz.func118 (by kernel_rfl) (by kernel_rfl) (by kernel_rfl) c118_ok (by kernel_rfl) (by kernel_rfl) hρ hs h
-- loop (first region 3): live slots 0:r0 3:out3 5:t5 6:t6, of which it writes [3, 6]
end Go.Sp
/- Records: what is read. -/
namespace Go.Sp
open Go Go.Proofs
set_option linter.unusedSimpArgs false
set_option linter.unusedVariables false
set_option maxRecDepth 10000
def Rd.left (R : Rd) : Int := if R.e = 0 then (R.s.length : Int) - R.a else 0
theorem g134 (R : Rd) (hl : R.s.length ≤ 4611686018427387904) (ha : R.a ≤ R.s.length) : Fp eI Tryz.prog 134 #[.pointer (some ⟨R.b, 0, none⟩)] (rdl R) R.left := fun L => by
  obtain ⟨b, s, a, e⟩ := R
  dsimp only at hl ha
  unfold Rd.left
  dsimp only
  refine c134_fn rfl rfl ?_
  by_cases h : e = 0
  · subst h
    rw [if_pos rfl]
    repeat' ((fail_if_success with_reducible refine nph ?_); first | (with_reducible first | (refine d_seq ?_; intro K hK) | (refine hK _ _ ?_; clear hK K) | (refine SG.p ?_; try intro b)) | ((with_reducible refine SC.p ?_); refine And.intro ?_ ?_) <;> intro hc <;> try simp only [push_cast, Int.reduceEq, Int.reduceLT, Int.reduceLE, Int.reduceNe] at hc | with_reducible refine r_rq (by first | decide | omega) ?_ | ((with_reducible refine SL.p ?_); first | refine ⟨_, rfl, ?_⟩ | refine ⟨_, _, _, rfl, ?_⟩ | (refine ⟨?_, rfl, ?_⟩; focus (simp; done))) | ((with_reducible first | apply i_ldn | apply i_ldnq); exact rfl; exact rfl; exact rfl) | ((try with_reducible refine d_reg ?_); simp only [go_sem, Nat.reduceAdd, Nat.reduceEqDiff, Int.reduceToNat, Nat.reduceMul, Nat.reduceSub]) | clear hK K)
    refine i_clp (f88 ⟨b, s, a, 0⟩) ?_
    repeat' (first | (with_reducible first | (refine d_seq ?_; intro K hK) | (refine hK _ _ ?_; clear hK K) | (refine SG.p ?_; try intro b)) | ((with_reducible refine SC.p ?_); refine And.intro ?_ ?_) <;> intro hc <;> try simp only [push_cast, Int.reduceEq, Int.reduceLT, Int.reduceLE, Int.reduceNe] at hc | with_reducible refine r_rq (by first | decide | omega) ?_ | ((with_reducible refine SL.p ?_); first | refine ⟨_, rfl, ?_⟩ | refine ⟨_, _, _, rfl, ?_⟩ | (refine ⟨?_, rfl, ?_⟩; focus (simp; done))) | ((with_reducible first | apply i_ldn | apply i_ldnq); exact rfl; exact rfl; exact rfl) | ((try with_reducible refine d_reg ?_); simp only [go_sem, Nat.reduceAdd, Nat.reduceEqDiff, Int.reduceToNat, Nat.reduceMul, Nat.reduceSub]) | clear hK K)
    all_goals try (first | contradiction | (simp only [ reduceCtorEq] at *; done) | (exfalso; omega))
    (with_reducible first | apply i_ret0 | apply i_ret2 | apply i_ret3 | apply i_ret); exact rfl
    exact w64 (by omega) (by omega)
  · rw [if_neg h]
    repeat' ((fail_if_success with_reducible refine nph ?_); first | (with_reducible first | (refine d_seq ?_; intro K hK) | (refine hK _ _ ?_; clear hK K) | (refine SG.p ?_; try intro b)) | ((with_reducible refine SC.p ?_); refine And.intro ?_ ?_) <;> intro hc <;> try simp only [push_cast, Int.reduceEq, Int.reduceLT, Int.reduceLE, Int.reduceNe] at hc | with_reducible refine r_rq (by first | decide | omega) ?_ | ((with_reducible refine SL.p ?_); first | refine ⟨_, rfl, ?_⟩ | refine ⟨_, _, _, rfl, ?_⟩ | (refine ⟨?_, rfl, ?_⟩; focus (simp; done))) | ((with_reducible first | apply i_ldn | apply i_ldnq); exact rfl; exact rfl; exact rfl) | ((try with_reducible refine d_reg ?_); simp only [go_sem, Nat.reduceAdd, Nat.reduceEqDiff, Int.reduceToNat, Nat.reduceMul, Nat.reduceSub]) | clear hK K)
    refine i_clp (f88 ⟨b, s, a, e⟩) ?_
    repeat' (first | (with_reducible first | (refine d_seq ?_; intro K hK) | (refine hK _ _ ?_; clear hK K) | (refine SG.p ?_; try intro b)) | ((with_reducible refine SC.p ?_); refine And.intro ?_ ?_) <;> intro hc <;> try simp only [push_cast, Int.reduceEq, Int.reduceLT, Int.reduceLE, Int.reduceNe] at hc | with_reducible refine r_rq (by first | decide | omega) ?_ | ((with_reducible refine SL.p ?_); first | refine ⟨_, rfl, ?_⟩ | refine ⟨_, _, _, rfl, ?_⟩ | (refine ⟨?_, rfl, ?_⟩; focus (simp; done))) | ((with_reducible first | apply i_ldn | apply i_ldnq); exact rfl; exact rfl; exact rfl) | ((try with_reducible refine d_reg ?_); simp only [go_sem, Nat.reduceAdd, Nat.reduceEqDiff, Int.reduceToNat, Nat.reduceMul, Nat.reduceSub]) | clear hK K)
    all_goals try (first | contradiction | (simp only [ reduceCtorEq] at *; done) | (exfalso; omega))
    (with_reducible first | apply i_ret0 | apply i_ret2 | apply i_ret3 | apply i_ret); exact rfl
    rfl
def Rd.fin (R : Rd) : Rd := if 0 < R.left then R.fail 4 else R
theorem Rd.fail_b (R : Rd) (x : Int) : (R.fail x).b = R.b := by unfold Rd.fail; split <;> rfl
theorem g119 (R : Rd) (hl : R.s.length ≤ 4611686018427387904) (ha : R.a ≤ R.s.length) : Fq eI Tryz.prog 119 #[.pointer (some ⟨R.b, 0, none⟩)] (rdl R) (rdl R.fin) R.fin.e := fun L => by
  have F := g134 R hl ha
  have G := f89 R 4
  have hb := R.fail_b 4
  unfold Rd.fin
  refine c119_fn rfl rfl ?_
  generalize R.left = n at *
  by_cases h : 0 < n
  · rw [if_pos h]
    generalize R.fail 4 = R' at *
    rw [← hb] at F G ⊢
    repeat' ((fail_if_success with_reducible refine nph ?_); first | (with_reducible first | (refine d_seq ?_; intro K hK) | (refine hK _ _ ?_; clear hK K) | (refine SG.p ?_; try intro b)) | ((with_reducible refine SC.p ?_); refine And.intro ?_ ?_) <;> intro hc <;> try simp only [push_cast, Int.reduceEq, Int.reduceLT, Int.reduceLE, Int.reduceNe] at hc | with_reducible refine r_rq (by first | decide | omega) ?_ | ((with_reducible refine SL.p ?_); first | refine ⟨_, rfl, ?_⟩ | refine ⟨_, _, _, rfl, ?_⟩ | (refine ⟨?_, rfl, ?_⟩; focus (simp; done))) | ((with_reducible first | apply i_ldn | apply i_ldnq); exact rfl; exact rfl; exact rfl) | ((try with_reducible refine d_reg ?_); simp only [go_sem, Nat.reduceAdd, Nat.reduceEqDiff, Int.reduceToNat, Nat.reduceMul, Nat.reduceSub]) | clear hK K)
    refine i_clp F ?_
    repeat' ((fail_if_success with_reducible refine nph ?_); first | (with_reducible first | (refine d_seq ?_; intro K hK) | (refine hK _ _ ?_; clear hK K) | (refine SG.p ?_; try intro b)) | ((with_reducible refine SC.p ?_); refine And.intro ?_ ?_) <;> intro hc <;> try simp only [push_cast, Int.reduceEq, Int.reduceLT, Int.reduceLE, Int.reduceNe] at hc | with_reducible refine r_rq (by first | decide | omega) ?_ | ((with_reducible refine SL.p ?_); first | refine ⟨_, rfl, ?_⟩ | refine ⟨_, _, _, rfl, ?_⟩ | (refine ⟨?_, rfl, ?_⟩; focus (simp; done))) | ((with_reducible first | apply i_ldn | apply i_ldnq); exact rfl; exact rfl; exact rfl) | ((try with_reducible refine d_reg ?_); simp only [go_sem, Nat.reduceAdd, Nat.reduceEqDiff, Int.reduceToNat, Nat.reduceMul, Nat.reduceSub]) | clear hK K)
    all_goals try (first | contradiction | (simp only [ reduceCtorEq] at *; done) | (exfalso; omega))
    refine i_clq G ?_
    repeat' ((fail_if_success with_reducible refine nph ?_); first | (with_reducible first | (refine d_seq ?_; intro K hK) | (refine hK _ _ ?_; clear hK K) | (refine SG.p ?_; try intro b)) | ((with_reducible refine SC.p ?_); refine And.intro ?_ ?_) <;> intro hc <;> try simp only [push_cast, Int.reduceEq, Int.reduceLT, Int.reduceLE, Int.reduceNe] at hc | with_reducible refine r_rq (by first | decide | omega) ?_ | ((with_reducible refine SL.p ?_); first | refine ⟨_, rfl, ?_⟩ | refine ⟨_, _, _, rfl, ?_⟩ | (refine ⟨?_, rfl, ?_⟩; focus (simp; done))) | ((with_reducible first | apply i_ldn | apply i_ldnq); exact rfl; exact rfl; exact rfl) | ((try with_reducible refine d_reg ?_); simp only [go_sem, Nat.reduceAdd, Nat.reduceEqDiff, Int.reduceToNat, Nat.reduceMul, Nat.reduceSub]) | clear hK K)
    refine i_clp (f74 R') ?_
    repeat' ((fail_if_success with_reducible refine nph ?_); first | (with_reducible first | (refine d_seq ?_; intro K hK) | (refine hK _ _ ?_; clear hK K) | (refine SG.p ?_; try intro b)) | ((with_reducible refine SC.p ?_); refine And.intro ?_ ?_) <;> intro hc <;> try simp only [push_cast, Int.reduceEq, Int.reduceLT, Int.reduceLE, Int.reduceNe] at hc | with_reducible refine r_rq (by first | decide | omega) ?_ | ((with_reducible refine SL.p ?_); first | refine ⟨_, rfl, ?_⟩ | refine ⟨_, _, _, rfl, ?_⟩ | (refine ⟨?_, rfl, ?_⟩; focus (simp; done))) | ((with_reducible first | apply i_ldn | apply i_ldnq); exact rfl; exact rfl; exact rfl) | ((try with_reducible refine d_reg ?_); simp only [go_sem, Nat.reduceAdd, Nat.reduceEqDiff, Int.reduceToNat, Nat.reduceMul, Nat.reduceSub]) | clear hK K)
    (with_reducible first | apply i_ret0 | apply i_ret2 | apply i_ret3 | apply i_ret); exact rfl
    rfl
  · rw [if_neg h]
    repeat' ((fail_if_success with_reducible refine nph ?_); first | (with_reducible first | (refine d_seq ?_; intro K hK) | (refine hK _ _ ?_; clear hK K) | (refine SG.p ?_; try intro b)) | ((with_reducible refine SC.p ?_); refine And.intro ?_ ?_) <;> intro hc <;> try simp only [push_cast, Int.reduceEq, Int.reduceLT, Int.reduceLE, Int.reduceNe] at hc | with_reducible refine r_rq (by first | decide | omega) ?_ | ((with_reducible refine SL.p ?_); first | refine ⟨_, rfl, ?_⟩ | refine ⟨_, _, _, rfl, ?_⟩ | (refine ⟨?_, rfl, ?_⟩; focus (simp; done))) | ((with_reducible first | apply i_ldn | apply i_ldnq); exact rfl; exact rfl; exact rfl) | ((try with_reducible refine d_reg ?_); simp only [go_sem, Nat.reduceAdd, Nat.reduceEqDiff, Int.reduceToNat, Nat.reduceMul, Nat.reduceSub]) | clear hK K)
    refine i_clp F ?_
    repeat' ((fail_if_success with_reducible refine nph ?_); first | (with_reducible first | (refine d_seq ?_; intro K hK) | (refine hK _ _ ?_; clear hK K) | (refine SG.p ?_; try intro b)) | ((with_reducible refine SC.p ?_); refine And.intro ?_ ?_) <;> intro hc <;> try simp only [push_cast, Int.reduceEq, Int.reduceLT, Int.reduceLE, Int.reduceNe] at hc | with_reducible refine r_rq (by first | decide | omega) ?_ | ((with_reducible refine SL.p ?_); first | refine ⟨_, rfl, ?_⟩ | refine ⟨_, _, _, rfl, ?_⟩ | (refine ⟨?_, rfl, ?_⟩; focus (simp; done))) | ((with_reducible first | apply i_ldn | apply i_ldnq); exact rfl; exact rfl; exact rfl) | ((try with_reducible refine d_reg ?_); simp only [go_sem, Nat.reduceAdd, Nat.reduceEqDiff, Int.reduceToNat, Nat.reduceMul, Nat.reduceSub]) | clear hK K)
    all_goals try (first | contradiction | (simp only [ reduceCtorEq] at *; done) | (exfalso; omega))
    refine i_clp (f74 R) ?_
    repeat' ((fail_if_success with_reducible refine nph ?_); first | (with_reducible first | (refine d_seq ?_; intro K hK) | (refine hK _ _ ?_; clear hK K) | (refine SG.p ?_; try intro b)) | ((with_reducible refine SC.p ?_); refine And.intro ?_ ?_) <;> intro hc <;> try simp only [push_cast, Int.reduceEq, Int.reduceLT, Int.reduceLE, Int.reduceNe] at hc | with_reducible refine r_rq (by first | decide | omega) ?_ | ((with_reducible refine SL.p ?_); first | refine ⟨_, rfl, ?_⟩ | refine ⟨_, _, _, rfl, ?_⟩ | (refine ⟨?_, rfl, ?_⟩; focus (simp; done))) | ((with_reducible first | apply i_ldn | apply i_ldnq); exact rfl; exact rfl; exact rfl) | ((try with_reducible refine d_reg ?_); simp only [go_sem, Nat.reduceAdd, Nat.reduceEqDiff, Int.reduceToNat, Nat.reduceMul, Nat.reduceSub]) | clear hK K)
    (with_reducible first | apply i_ret0 | apply i_ret2 | apply i_ret3 | apply i_ret); exact rfl
    rfl
/-- A reader stands within its text. -/
structure Rd.in (R : Rd) (b : Nat) (s : List UInt8) : Prop where
  b : R.b = b
  s : R.s = s
  a : R.a ≤ R.s.length
theorem Rd.in.raw {R : Rd} {b : Nat} {s : List UInt8} (h : R.in b s) (n : Int) : (R.raw n).2.in b s := by
  obtain ⟨h1, h2, h3⟩ := Rd.raw_a n h.a
  exact ⟨h3.trans h.b, h2.trans h.s, h1⟩
theorem Rd.in.fail {R : Rd} {b : Nat} {s : List UInt8} (h : R.in b s) (x : Int) : (R.fail x).in b s := by
  unfold Rd.fail
  split
  · exact ⟨h.b, h.s, h.a⟩
  · exact h
theorem Rd.in.text {R : Rd} {b : Nat} {s : List UInt8} (h : R.in b s) (n : Int) : (R.text n).2.in b s := by
  unfold Rd.text
  split
  · exact ((h.raw 2).fail 3).raw _
  · exact (h.raw 2).raw _
theorem rN {R : Rd} {b : Nat} {s : List UInt8} (h : R.in b s) (w : Int) (h1 : 1 ≤ w) (h6 : w ≤ 6) (hl : s.length ≤ 4611686018427387904) : Fq eI Tryz.prog 85 #[.pointer (some ⟨b, 0, none⟩), .int .i64 w] (rdl R) (rdl (R.raw w).2) (be (R.raw w).1 : Int) := by
  have := f75 R w h1 h6 (by rw [h.s]; exact hl) h.a
  rw [h.b] at this
  exact this
theorem rT {R : Rd} {b : Nat} {s : List UInt8} (h : R.in b s) (m : Int) (hl : s.length ≤ 4611686018427387904) : Fq eS Tryz.prog 133 #[.pointer (some ⟨b, 0, none⟩), .int .i64 m] (rdl R) (rdl (R.text m).2) (R.text m).1 := by
  have := f73 R m (by rw [h.s]; exact hl) h.a
  rw [h.b] at this
  exact this
theorem rE {R : Rd} {b : Nat} {s : List UInt8} (h : R.in b s) : Fp eI Tryz.prog 115 #[.pointer (some ⟨b, 0, none⟩)] (rdl R) R.e := by
  have := f74 R
  rw [h.b] at this
  exact this
theorem rF {R : Rd} {b : Nat} {s : List UInt8} (h : R.in b s) (hl : s.length ≤ 4611686018427387904) : Fq eI Tryz.prog 119 #[.pointer (some ⟨b, 0, none⟩)] (rdl R) (rdl R.fin) R.fin.e := by
  have := g119 R (by rw [h.s]; exact hl) h.a
  rw [h.b] at this
  exact this
theorem num1 (R : Rd) : be (R.raw 1).1 ≤ 255 := by
  have h := R.raw_len 1
  have hb := be_lt (R.raw 1).1
  have h2 : 256 ^ (R.raw 1).1.length ≤ 256 ^ 1 := Nat.pow_le_pow_right (by decide) (by omega)
  omega
/-! ### Pages, transactions -/
def rim : Nat → Rd → List api_Image → List api_Image × Rd
  | 0, R, l => (l, R)
  | k + 1, R, l => if (((R.raw 2).2.text 224).2.e) = 0 then rim k ((R.raw 2).2.text 224).2 (l ++ [⟨be (R.raw 2).1, ((R.raw 2).2.text 224).1⟩]) else ([], ((R.raw 2).2.text 224).2)
def rtb : Nat → Rd → List api_Active → List api_Active × Rd
  | 0, R, l => (l, R)
  | k + 1, R, l => rtb k ((R.raw 6).2.raw 6).2 (l ++ [⟨be (R.raw 6).1, be ((R.raw 6).2.raw 6).1⟩])
theorem rim_len : ∀ (k : Nat) (R : Rd) (l : List api_Image), (rim k R l).1.length ≤ k + l.length
  | 0, R, l => by simp [rim]
  | k + 1, R, l => by
    unfold rim
    split
    · have := rim_len k ((R.raw 2).2.text 224).2 (l ++ [⟨be (R.raw 2).1, ((R.raw 2).2.text 224).1⟩])
      rw [List.length_append] at this
      simp only [List.length_cons, List.length_nil] at this
      omega
    · simp
theorem rtb_len : ∀ (k : Nat) (R : Rd) (l : List api_Active), (rtb k R l).1.length ≤ k + l.length
  | 0, R, l => by simp [rtb]
  | k + 1, R, l => by
    unfold rtb
    have := rtb_len k ((R.raw 6).2.raw 6).2 (l ++ [⟨be (R.raw 6).1, be ((R.raw 6).2.raw 6).1⟩])
    rw [List.length_append] at this
    simp only [List.length_cons, List.length_nil] at this
    omega
theorem rim_in {b : Nat} {s : List UInt8} : ∀ (k : Nat) (R : Rd) (l : List api_Image), R.in b s → (rim k R l).2.in b s
  | 0, R, l, h => h
  | k + 1, R, l, h => by
    unfold rim
    split
    · exact rim_in k _ _ ((h.raw 2).text 224)
    · exact (h.raw 2).text 224
theorem rtb_in {b : Nat} {s : List UInt8} : ∀ (k : Nat) (R : Rd) (l : List api_Active), R.in b s → (rtb k R l).2.in b s
  | 0, R, l, h => h
  | k + 1, R, l, h => by
    unfold rtb
    exact rtb_in k _ _ ((h.raw 6).raw 6)
set_option maxHeartbeats 1000000 in
theorem g116 {R : Rd} {b : Nat} {s : List UInt8} (h : R.in b s) (hl : s.length ≤ 4611686018427387904) : Fn eSl Tryz.prog 116 #[.pointer (some ⟨b, 0, none⟩)] (rdl R) fun y X =>
    X = ow 123 2 y ((rim (be (R.raw 1).1) (R.raw 1).2 []).1.flatMap cImg) :: rdl (rim (be (R.raw 1).1) (R.raw 1).2 []).2 := fun L => by
  have hn := num1 R
  have h1 := h.raw 1
  have F := rN h 1 (by decide) (by decide) hl
  generalize be (R.raw 1).1 = n at *
  generalize (R.raw 1).2 = R1 at *
  refine c116_fn rfl rfl ?_
  repeat' ((fail_if_success with_reducible refine nph ?_); first | (with_reducible first | (refine d_seq ?_; intro K hK) | (refine hK _ _ ?_; clear hK K) | (refine SG.p ?_; try intro b)) | ((with_reducible refine SC.p ?_); refine And.intro ?_ ?_) <;> intro hc <;> try simp only [push_cast, Int.reduceEq, Int.reduceLT, Int.reduceLE, Int.reduceNe] at hc | with_reducible refine r_rq (by first | decide | omega) ?_ | ((with_reducible refine SL.p ?_); first | refine ⟨_, rfl, ?_⟩ | refine ⟨_, _, _, rfl, ?_⟩ | (refine ⟨?_, rfl, ?_⟩; focus (simp; done))) | ((with_reducible first | apply i_ldn | apply i_ldnq); exact rfl; exact rfl; exact rfl) | ((try with_reducible refine d_reg ?_); simp only [go_sem, Nat.reduceAdd, Nat.reduceEqDiff, Int.reduceToNat, Nat.reduceMul, Nat.reduceSub]) | clear hK K)
  refine i_clq F ?_
  repeat' ((fail_if_success with_reducible refine nph ?_); first | (with_reducible first | (refine d_seq ?_; intro K hK) | (refine hK _ _ ?_; clear hK K) | (refine SG.p ?_; try intro b)) | ((with_reducible refine SC.p ?_); refine And.intro ?_ ?_) <;> intro hc <;> try simp only [push_cast, Int.reduceEq, Int.reduceLT, Int.reduceLE, Int.reduceNe] at hc | with_reducible refine r_rq (by first | decide | omega) ?_ | ((with_reducible refine SL.p ?_); first | refine ⟨_, rfl, ?_⟩ | refine ⟨_, _, _, rfl, ?_⟩ | (refine ⟨?_, rfl, ?_⟩; focus (simp; done))) | ((with_reducible first | apply i_ldn | apply i_ldnq); exact rfl; exact rfl; exact rfl) | ((try with_reducible refine d_reg ?_); simp only [go_sem, Nat.reduceAdd, Nat.reduceEqDiff, Int.reduceToNat, Nat.reduceMul, Nat.reduceSub]) | clear hK K)
  refine r_nilow 123 2 ?_
  refine d_lp [0, 3, 6, 7] (fun t : Nat × SlV × Rd × List api_Image => [(0, .pointer (some ⟨b, 0, none⟩)), (3, .slice t.2.1.1 t.2.1.2.1 t.2.1.2.2), (6, .int .i64 (n : Int)), (7, .int .i64 (t.1 : Int))])
    (fun t => ow 123 2 t.2.1 (t.2.2.2.flatMap cImg) :: (rdl t.2.2.1 ++ L)) (fun t => t.1 ≤ n ∧ t.2.2.1.in b s ∧ rim (n - t.1) t.2.2.1 t.2.2.2 = rim n R1 [] ∧ t.2.1.2.1 ≤ t.1) (fun t => n - t.1) (0, (none, 0, 0), R1, []) rfl ?_ ⟨by dsimp only; omega, h1, rfl, by dsimp only; omega⟩ ?_
  · show Sub (ow 123 2 (none, 0, 0) [] :: (rdl R1 ++ L)) _
    exact SX.p
  rintro ⟨i, ⟨p, pn, pc⟩, Q, l⟩ ⟨hi, hQ, hr, hp⟩
  dsimp only at hi hQ hr hp ⊢
  repeat' ((fail_if_success with_reducible refine nph ?_); first | (with_reducible first | (refine d_seq ?_; intro K hK) | (refine hK _ _ ?_; clear hK K) | (refine SG.p ?_; try intro b)) | ((with_reducible refine SC.p ?_); refine And.intro ?_ ?_) <;> intro hc <;> try simp only [push_cast, Int.reduceEq, Int.reduceLT, Int.reduceLE, Int.reduceNe] at hc | with_reducible refine r_rq (by first | decide | omega) ?_ | ((with_reducible refine SL.p ?_); first | refine ⟨_, rfl, ?_⟩ | refine ⟨_, _, _, rfl, ?_⟩ | (refine ⟨?_, rfl, ?_⟩; focus (simp; done))) | ((with_reducible first | apply i_ldn | apply i_ldnq); exact rfl; exact rfl; exact rfl) | ((try with_reducible refine d_reg ?_); simp only [go_sem, Nat.reduceAdd, Nat.reduceEqDiff, Int.reduceToNat, Nat.reduceMul, Nat.reduceSub]) | clear hK K)
  · obtain ⟨k, hk⟩ : ∃ k, n - i = k + 1 := ⟨n - i - 1, by omega⟩
    rw [hk] at hr
    rw [show rim (k + 1) Q l = if (((Q.raw 2).2.text 224).2.e) = 0 then rim k ((Q.raw 2).2.text 224).2 (l ++ [⟨be (Q.raw 2).1, ((Q.raw 2).2.text 224).1⟩]) else ([], ((Q.raw 2).2.text 224).2) from rfl] at hr
    have F2 := rN hQ 2 (by decide) (by decide) hl
    have hQ2 := hQ.raw 2
    generalize be (Q.raw 2).1 = pg at *
    generalize (Q.raw 2).2 = Q2 at *
    have F3 := rT hQ2 224 hl
    have hQ3 := hQ2.text 224
    generalize Q2.text 224 = T at *
    obtain ⟨t, Q3⟩ := T
    dsimp only at hr F3 hQ3
    refine i_clq F2 ?_
    refine i_clq F3 ?_
    repeat' ((fail_if_success with_reducible refine nph ?_); first | (with_reducible first | (refine d_seq ?_; intro K hK) | (refine hK _ _ ?_; clear hK K) | (refine SG.p ?_; try intro b)) | ((with_reducible refine SC.p ?_); refine And.intro ?_ ?_) <;> intro hc <;> try simp only [push_cast, Int.reduceEq, Int.reduceLT, Int.reduceLE, Int.reduceNe] at hc | with_reducible refine r_rq (by first | decide | omega) ?_ | ((with_reducible refine SL.p ?_); first | refine ⟨_, rfl, ?_⟩ | refine ⟨_, _, _, rfl, ?_⟩ | (refine ⟨?_, rfl, ?_⟩; focus (simp; done))) | ((with_reducible first | apply i_ldn | apply i_ldnq); exact rfl; exact rfl; exact rfl) | ((try with_reducible refine d_reg ?_); simp only [go_sem, Nat.reduceAdd, Nat.reduceEqDiff, Int.reduceToNat, Nat.reduceMul, Nat.reduceSub]) | clear hK K)
    refine i_clp (rE hQ3) ?_
    repeat' ((fail_if_success with_reducible refine nph ?_); first | (with_reducible first | (refine d_seq ?_; intro K hK) | (refine hK _ _ ?_; clear hK K) | (refine SG.p ?_; try intro b)) | ((with_reducible refine SC.p ?_); refine And.intro ?_ ?_) <;> intro hc <;> try simp only [push_cast, Int.reduceEq, Int.reduceLT, Int.reduceLE, Int.reduceNe] at hc | with_reducible refine r_rq (by first | decide | omega) ?_ | ((with_reducible refine SL.p ?_); first | refine ⟨_, rfl, ?_⟩ | refine ⟨_, _, _, rfl, ?_⟩ | (refine ⟨?_, rfl, ?_⟩; focus (simp; done))) | ((with_reducible first | apply i_ldn | apply i_ldnq); exact rfl; exact rfl; exact rfl) | ((try with_reducible refine d_reg ?_); simp only [go_sem, Nat.reduceAdd, Nat.reduceEqDiff, Int.reduceToNat, Nat.reduceMul, Nat.reduceSub]) | clear hK K)
    · have he : ¬ Q3.e = 0 := by simpa using hc
      rw [if_neg he] at hr
      rw [← hr]
      refine r_nilow 123 2 ?_
      exact i_done (e := eSl) (none, 0, 0) (ow 123 2 (none, 0, 0) [] :: rdl Q3) rfl rfl
    · have he : Q3.e = 0 := by simpa using hc
      rw [if_pos he] at hr
      repeat' ((fail_if_success with_reducible refine nph ?_); first | (with_reducible first | (refine d_seq ?_; intro K hK) | (refine hK _ _ ?_; clear hK K) | (refine SG.p ?_; try intro b)) | ((with_reducible refine SC.p ?_); refine And.intro ?_ ?_) <;> intro hc <;> try simp only [push_cast, Int.reduceEq, Int.reduceLT, Int.reduceLE, Int.reduceNe] at hc | with_reducible refine r_rq (by first | decide | omega) ?_ | ((with_reducible refine SL.p ?_); first | refine ⟨_, rfl, ?_⟩ | refine ⟨_, _, _, rfl, ?_⟩ | (refine ⟨?_, rfl, ?_⟩; focus (simp; done))) | ((with_reducible first | apply i_ldn | apply i_ldnq); exact rfl; exact rfl; exact rfl) | ((try with_reducible refine d_reg ?_); simp only [go_sem, Nat.reduceAdd, Nat.reduceEqDiff, Int.reduceToNat, Nat.reduceMul, Nat.reduceSub]) | clear hK K)
      refine i_ldn (e := e_api_Image) (x := ⟨(pg : Int), t⟩) rfl rfl rfl ?_
      repeat' ((fail_if_success with_reducible refine nph ?_); first | (with_reducible first | (refine d_seq ?_; intro K hK) | (refine hK _ _ ?_; clear hK K) | (refine SG.p ?_; try intro b)) | ((with_reducible refine SC.p ?_); refine And.intro ?_ ?_) <;> intro hc <;> try simp only [push_cast, Int.reduceEq, Int.reduceLT, Int.reduceLE, Int.reduceNe] at hc | with_reducible refine r_rq (by first | decide | omega) ?_ | ((with_reducible refine SL.p ?_); first | refine ⟨_, rfl, ?_⟩ | refine ⟨_, _, _, rfl, ?_⟩ | (refine ⟨?_, rfl, ?_⟩; focus (simp; done))) | ((with_reducible first | apply i_ldn | apply i_ldnq); exact rfl; exact rfl; exact rfl) | ((try with_reducible refine d_reg ?_); simp only [go_sem, Nat.reduceAdd, Nat.reduceEqDiff, Int.reduceToNat, Nat.reduceMul, Nat.reduceSub]) | clear hK K)
      refine i_app (t := 123) (sz := 2) (m := 1) (news := [.int .i64 (pg : Int), str t]) (p, pn, pc) 24 (by kernel_rfl) (by decide) rfl rfl (by dsimp only; omega) fun o' ho' _ => ?_
      have e : l.flatMap cImg ++ [.int .i64 (pg : Int), str t] = (l ++ [(⟨(pg : Int), t⟩ : api_Image)]).flatMap cImg := by simp
      rw [e]
      repeat' ((fail_if_success with_reducible refine nph ?_); first | (with_reducible first | (refine d_seq ?_; intro K hK) | (refine hK _ _ ?_; clear hK K) | (refine SG.p ?_; try intro b)) | ((with_reducible refine SC.p ?_); refine And.intro ?_ ?_) <;> intro hc <;> try simp only [push_cast, Int.reduceEq, Int.reduceLT, Int.reduceLE, Int.reduceNe] at hc | with_reducible refine r_rq (by first | decide | omega) ?_ | ((with_reducible refine SL.p ?_); first | refine ⟨_, rfl, ?_⟩ | refine ⟨_, _, _, rfl, ?_⟩ | (refine ⟨?_, rfl, ?_⟩; focus (simp; done))) | ((with_reducible first | apply i_ldn | apply i_ldnq); exact rfl; exact rfl; exact rfl) | ((try with_reducible refine d_reg ?_); simp only [go_sem, Nat.reduceAdd, Nat.reduceEqDiff, Int.reduceToNat, Nat.reduceMul, Nat.reduceSub]) | clear hK K)
      rw [w64 (by omega) (by omega)]
      exact i_bk (i + 1, o', Q3, l ++ [⟨(pg : Int), t⟩]) rfl ⟨by dsimp only; omega, hQ3, by dsimp only; rw [show n - (i + 1) = k by omega]; exact hr, by dsimp only at ho' ⊢; omega⟩ (by dsimp only; omega)
  · obtain rfl : i = n := by omega
    rw [Nat.sub_self, show rim 0 Q l = (l, Q) from rfl] at hr
    rw [← hr]
    exact i_done (e := eSl) (p, pn, pc) (ow 123 2 (p, pn, pc) (l.flatMap cImg) :: rdl Q) rfl rfl
set_option maxHeartbeats 1000000 in
theorem g118 {R : Rd} {b : Nat} {s : List UInt8} (h : R.in b s) (hl : s.length ≤ 4611686018427387904) : Fn eSl Tryz.prog 118 #[.pointer (some ⟨b, 0, none⟩)] (rdl R) fun y X =>
    X = ow 125 2 y ((rtb (be (R.raw 1).1) (R.raw 1).2 []).1.flatMap cAct) :: rdl (rtb (be (R.raw 1).1) (R.raw 1).2 []).2 := fun L => by
  have hn := num1 R
  have h1 := h.raw 1
  have F := rN h 1 (by decide) (by decide) hl
  generalize be (R.raw 1).1 = n at *
  generalize (R.raw 1).2 = R1 at *
  refine c118_fn rfl rfl ?_
  repeat' ((fail_if_success with_reducible refine nph ?_); first | (with_reducible first | (refine d_seq ?_; intro K hK) | (refine hK _ _ ?_; clear hK K) | (refine SG.p ?_; try intro b)) | ((with_reducible refine SC.p ?_); refine And.intro ?_ ?_) <;> intro hc <;> try simp only [push_cast, Int.reduceEq, Int.reduceLT, Int.reduceLE, Int.reduceNe] at hc | with_reducible refine r_rq (by first | decide | omega) ?_ | ((with_reducible refine SL.p ?_); first | refine ⟨_, rfl, ?_⟩ | refine ⟨_, _, _, rfl, ?_⟩ | (refine ⟨?_, rfl, ?_⟩; focus (simp; done))) | ((with_reducible first | apply i_ldn | apply i_ldnq); exact rfl; exact rfl; exact rfl) | ((try with_reducible refine d_reg ?_); simp only [go_sem, Nat.reduceAdd, Nat.reduceEqDiff, Int.reduceToNat, Nat.reduceMul, Nat.reduceSub]) | clear hK K)
  refine i_clq F ?_
  repeat' ((fail_if_success with_reducible refine nph ?_); first | (with_reducible first | (refine d_seq ?_; intro K hK) | (refine hK _ _ ?_; clear hK K) | (refine SG.p ?_; try intro b)) | ((with_reducible refine SC.p ?_); refine And.intro ?_ ?_) <;> intro hc <;> try simp only [push_cast, Int.reduceEq, Int.reduceLT, Int.reduceLE, Int.reduceNe] at hc | with_reducible refine r_rq (by first | decide | omega) ?_ | ((with_reducible refine SL.p ?_); first | refine ⟨_, rfl, ?_⟩ | refine ⟨_, _, _, rfl, ?_⟩ | (refine ⟨?_, rfl, ?_⟩; focus (simp; done))) | ((with_reducible first | apply i_ldn | apply i_ldnq); exact rfl; exact rfl; exact rfl) | ((try with_reducible refine d_reg ?_); simp only [go_sem, Nat.reduceAdd, Nat.reduceEqDiff, Int.reduceToNat, Nat.reduceMul, Nat.reduceSub]) | clear hK K)
  refine r_nilow 125 2 ?_
  refine d_lp [0, 3, 5, 6] (fun t : Nat × SlV × Rd × List api_Active => [(0, .pointer (some ⟨b, 0, none⟩)), (3, .slice t.2.1.1 t.2.1.2.1 t.2.1.2.2), (5, .int .i64 (n : Int)), (6, .int .i64 (t.1 : Int))])
    (fun t => ow 125 2 t.2.1 (t.2.2.2.flatMap cAct) :: (rdl t.2.2.1 ++ L)) (fun t => t.1 ≤ n ∧ t.2.2.1.in b s ∧ rtb (n - t.1) t.2.2.1 t.2.2.2 = rtb n R1 [] ∧ t.2.1.2.1 ≤ t.1) (fun t => n - t.1) (0, (none, 0, 0), R1, []) rfl ?_ ⟨by dsimp only; omega, h1, rfl, by dsimp only; omega⟩ ?_
  · show Sub (ow 125 2 (none, 0, 0) [] :: (rdl R1 ++ L)) _
    exact SX.p
  rintro ⟨i, ⟨p, pn, pc⟩, Q, l⟩ ⟨hi, hQ, hr, hp⟩
  dsimp only at hi hQ hr hp ⊢
  repeat' ((fail_if_success with_reducible refine nph ?_); first | (with_reducible first | (refine d_seq ?_; intro K hK) | (refine hK _ _ ?_; clear hK K) | (refine SG.p ?_; try intro b)) | ((with_reducible refine SC.p ?_); refine And.intro ?_ ?_) <;> intro hc <;> try simp only [push_cast, Int.reduceEq, Int.reduceLT, Int.reduceLE, Int.reduceNe] at hc | with_reducible refine r_rq (by first | decide | omega) ?_ | ((with_reducible refine SL.p ?_); first | refine ⟨_, rfl, ?_⟩ | refine ⟨_, _, _, rfl, ?_⟩ | (refine ⟨?_, rfl, ?_⟩; focus (simp; done))) | ((with_reducible first | apply i_ldn | apply i_ldnq); exact rfl; exact rfl; exact rfl) | ((try with_reducible refine d_reg ?_); simp only [go_sem, Nat.reduceAdd, Nat.reduceEqDiff, Int.reduceToNat, Nat.reduceMul, Nat.reduceSub]) | clear hK K)
  · obtain ⟨k, hk⟩ : ∃ k, n - i = k + 1 := ⟨n - i - 1, by omega⟩
    rw [hk] at hr
    rw [show rtb (k + 1) Q l = rtb k ((Q.raw 6).2.raw 6).2 (l ++ [⟨be (Q.raw 6).1, be ((Q.raw 6).2.raw 6).1⟩]) from rfl] at hr
    have F2 := rN hQ 6 (by decide) (by decide) hl
    have hQ2 := hQ.raw 6
    generalize be (Q.raw 6).1 = x1 at *
    generalize (Q.raw 6).2 = Q2 at *
    have F3 := rN hQ2 6 (by decide) (by decide) hl
    have hQ3 := hQ2.raw 6
    generalize be (Q2.raw 6).1 = x2 at *
    generalize (Q2.raw 6).2 = Q3 at *
    refine i_clq F2 ?_
    refine i_clq F3 ?_
    repeat' ((fail_if_success with_reducible refine nph ?_); first | (with_reducible first | (refine d_seq ?_; intro K hK) | (refine hK _ _ ?_; clear hK K) | (refine SG.p ?_; try intro b)) | ((with_reducible refine SC.p ?_); refine And.intro ?_ ?_) <;> intro hc <;> try simp only [push_cast, Int.reduceEq, Int.reduceLT, Int.reduceLE, Int.reduceNe] at hc | with_reducible refine r_rq (by first | decide | omega) ?_ | ((with_reducible refine SL.p ?_); first | refine ⟨_, rfl, ?_⟩ | refine ⟨_, _, _, rfl, ?_⟩ | (refine ⟨?_, rfl, ?_⟩; focus (simp; done))) | ((with_reducible first | apply i_ldn | apply i_ldnq); exact rfl; exact rfl; exact rfl) | ((try with_reducible refine d_reg ?_); simp only [go_sem, Nat.reduceAdd, Nat.reduceEqDiff, Int.reduceToNat, Nat.reduceMul, Nat.reduceSub]) | clear hK K)
    refine i_app (t := 125) (sz := 2) (m := 1) (news := [.int .i64 (x1 : Int), .int .i64 (x2 : Int)]) (p, pn, pc) 16 (by kernel_rfl) (by decide) rfl rfl (by dsimp only; omega) fun o' ho' _ => ?_
    have e : l.flatMap cAct ++ [.int .i64 (x1 : Int), .int .i64 (x2 : Int)] = (l ++ [(⟨(x1 : Int), (x2 : Int)⟩ : api_Active)]).flatMap cAct := by simp
    rw [e]
    repeat' ((fail_if_success with_reducible refine nph ?_); first | (with_reducible first | (refine d_seq ?_; intro K hK) | (refine hK _ _ ?_; clear hK K) | (refine SG.p ?_; try intro b)) | ((with_reducible refine SC.p ?_); refine And.intro ?_ ?_) <;> intro hc <;> try simp only [push_cast, Int.reduceEq, Int.reduceLT, Int.reduceLE, Int.reduceNe] at hc | with_reducible refine r_rq (by first | decide | omega) ?_ | ((with_reducible refine SL.p ?_); first | refine ⟨_, rfl, ?_⟩ | refine ⟨_, _, _, rfl, ?_⟩ | (refine ⟨?_, rfl, ?_⟩; focus (simp; done))) | ((with_reducible first | apply i_ldn | apply i_ldnq); exact rfl; exact rfl; exact rfl) | ((try with_reducible refine d_reg ?_); simp only [go_sem, Nat.reduceAdd, Nat.reduceEqDiff, Int.reduceToNat, Nat.reduceMul, Nat.reduceSub]) | clear hK K)
    rw [w64 (by omega) (by omega)]
    exact i_bk (i + 1, o', Q3, l ++ [⟨(x1 : Int), (x2 : Int)⟩]) rfl ⟨by dsimp only; omega, hQ3, by dsimp only; rw [show n - (i + 1) = k by omega]; exact hr, by dsimp only at ho' ⊢; omega⟩ (by dsimp only; omega)
  · obtain rfl : i = n := by omega
    rw [Nat.sub_self, show rtb 0 Q l = (l, Q) from rfl] at hr
    rw [← hr]
    exact i_done (e := eSl) (p, pn, pc) (ow 125 2 (p, pn, pc) (l.flatMap cAct) :: rdl Q) rfl rfl
end Go.Sp
/- Records: what bytes are. -/
namespace Go.Sp
open Go Go.Proofs
set_option linter.unusedSimpArgs false
set_option linter.unusedVariables false
set_option maxRecDepth 10000
def rcK (R : Rd) : List UInt8 × Rd := (R.raw 2).2.text 16
def rcO (R : Rd) (act : Int) : List UInt8 × Rd := if act = 3 then ([], (rcK R).2) else (rcK R).2.text 32
def rcN (R : Rd) (act : Int) : List UInt8 × Rd := if act = 4 then ([], (rcO R act).2) else (rcO R act).2.text 32
theorem rcK_in {R : Rd} {b : Nat} {s : List UInt8} (h : R.in b s) : (rcK R).2.in b s := (h.raw 2).text 16
theorem rcO_in {R : Rd} {b : Nat} {s : List UInt8} (h : R.in b s) (act : Int) : (rcO R act).2.in b s := by
  unfold rcO
  split
  · exact rcK_in h
  · exact (rcK_in h).text 32
theorem rcN_in {R : Rd} {b : Nat} {s : List UInt8} (h : R.in b s) (act : Int) : (rcN R act).2.in b s := by
  unfold rcN
  split
  · exact rcO_in h act
  · exact (rcO_in h act).text 32
theorem g117 {R : Rd} {b : Nat} {s : List UInt8} (h : R.in b s) (hl : s.length ≤ 4611686018427387904) (q : Nat) (k t p a n act : Int) :
    Fq eN Tryz.prog 117 #[.pointer (some ⟨b, 0, none⟩), .pointer (some ⟨q, 0, none⟩), .int .i64 act] (ar q 36 (rcl ⟨k, t, p, 0, a, [], [], [], n, (none, 0, 0), (none, 0, 0), 0, 0⟩) :: rdl R)
      (ar q 36 (rcl ⟨k, t, p, be (R.raw 2).1, a, (rcK R).1, (rcO R act).1, (rcN R act).1, n, (none, 0, 0), (none, 0, 0), 0, 0⟩) :: rdl (rcN R act).2) () := fun L => by
  have F1 := rN h 2 (by decide) (by decide) hl
  have h1 := h.raw 2
  unfold rcN rcO rcK
  generalize be (R.raw 2).1 = pg at *
  generalize (R.raw 2).2 = R1 at *
  have F2 := rT h1 16 hl
  have h2 := h1.text 16
  generalize R1.text 16 = T at *
  obtain ⟨ky, R2⟩ := T
  dsimp only at F2 h2 ⊢
  have F3 := rT h2 32 hl
  have h3 := h2.text 32
  refine c117_fn rfl rfl ?_
  by_cases a3 : act = 3
  · rw [if_pos a3, if_neg (by omega)]
    generalize R2.text 32 = T at *
    obtain ⟨x3, R3⟩ := T
    dsimp only at F3 h3 ⊢
    repeat' (first | (with_reducible first | (refine d_seq ?_; intro K hK) | (refine hK _ _ ?_; clear hK K) | (refine SG.p ?_; try intro b)) | ((with_reducible refine SC.p ?_); refine And.intro ?_ ?_) <;> intro hc <;> try simp only [push_cast, Int.reduceEq, Int.reduceLT, Int.reduceLE, Int.reduceNe] at hc | with_reducible refine r_rq (by first | decide | omega) ?_ | ((with_reducible refine SL.p ?_); first | refine ⟨_, rfl, ?_⟩ | refine ⟨_, _, _, rfl, ?_⟩ | (refine ⟨?_, rfl, ?_⟩; focus (simp; done))) | ((with_reducible first | apply i_ldn | apply i_ldnq); exact rfl; exact rfl; exact rfl) | ((try with_reducible refine d_reg ?_); simp only [go_sem, Nat.reduceAdd, Nat.reduceEqDiff, Int.reduceToNat, Nat.reduceMul, Nat.reduceSub]) | clear hK K)
    refine i_clq F1 ?_
    repeat' (first | (with_reducible first | (refine d_seq ?_; intro K hK) | (refine hK _ _ ?_; clear hK K) | (refine SG.p ?_; try intro b)) | ((with_reducible refine SC.p ?_); refine And.intro ?_ ?_) <;> intro hc <;> try simp only [push_cast, Int.reduceEq, Int.reduceLT, Int.reduceLE, Int.reduceNe] at hc | with_reducible refine r_rq (by first | decide | omega) ?_ | ((with_reducible refine SL.p ?_); first | refine ⟨_, rfl, ?_⟩ | refine ⟨_, _, _, rfl, ?_⟩ | (refine ⟨?_, rfl, ?_⟩; focus (simp; done))) | ((with_reducible first | apply i_ldn | apply i_ldnq); exact rfl; exact rfl; exact rfl) | ((try with_reducible refine d_reg ?_); simp only [go_sem, Nat.reduceAdd, Nat.reduceEqDiff, Int.reduceToNat, Nat.reduceMul, Nat.reduceSub]) | clear hK K)
    refine i_clq F2 ?_
    repeat' (first | (with_reducible first | (refine d_seq ?_; intro K hK) | (refine hK _ _ ?_; clear hK K) | (refine SG.p ?_; try intro b)) | ((with_reducible refine SC.p ?_); refine And.intro ?_ ?_) <;> intro hc <;> try simp only [push_cast, Int.reduceEq, Int.reduceLT, Int.reduceLE, Int.reduceNe] at hc | with_reducible refine r_rq (by first | decide | omega) ?_ | ((with_reducible refine SL.p ?_); first | refine ⟨_, rfl, ?_⟩ | refine ⟨_, _, _, rfl, ?_⟩ | (refine ⟨?_, rfl, ?_⟩; focus (simp; done))) | ((with_reducible first | apply i_ldn | apply i_ldnq); exact rfl; exact rfl; exact rfl) | ((try with_reducible refine d_reg ?_); simp only [go_sem, Nat.reduceAdd, Nat.reduceEqDiff, Int.reduceToNat, Nat.reduceMul, Nat.reduceSub]) | clear hK K)
    all_goals try (first | contradiction | (simp only [ reduceCtorEq] at *; done) | (exfalso; omega))
    refine i_clq F3 ?_
    repeat' (first | (with_reducible first | (refine d_seq ?_; intro K hK) | (refine hK _ _ ?_; clear hK K) | (refine SG.p ?_; try intro b)) | ((with_reducible refine SC.p ?_); refine And.intro ?_ ?_) <;> intro hc <;> try simp only [push_cast, Int.reduceEq, Int.reduceLT, Int.reduceLE, Int.reduceNe] at hc | with_reducible refine r_rq (by first | decide | omega) ?_ | ((with_reducible refine SL.p ?_); first | refine ⟨_, rfl, ?_⟩ | refine ⟨_, _, _, rfl, ?_⟩ | (refine ⟨?_, rfl, ?_⟩; focus (simp; done))) | ((with_reducible first | apply i_ldn | apply i_ldnq); exact rfl; exact rfl; exact rfl) | ((try with_reducible refine d_reg ?_); simp only [go_sem, Nat.reduceAdd, Nat.reduceEqDiff, Int.reduceToNat, Nat.reduceMul, Nat.reduceSub]) | clear hK K)
    (with_reducible first | apply i_ret0 | apply i_ret2 | apply i_ret3 | apply i_ret); exact rfl
  · rw [if_neg a3]
    have F4 := rT h3 32 hl
    generalize R2.text 32 = T at *
    obtain ⟨x3, R3⟩ := T
    dsimp only at F3 h3 F4 ⊢
    by_cases a4 : act = 4
    · rw [if_pos a4]
      repeat' (first | (with_reducible first | (refine d_seq ?_; intro K hK) | (refine hK _ _ ?_; clear hK K) | (refine SG.p ?_; try intro b)) | ((with_reducible refine SC.p ?_); refine And.intro ?_ ?_) <;> intro hc <;> try simp only [push_cast, Int.reduceEq, Int.reduceLT, Int.reduceLE, Int.reduceNe] at hc | with_reducible refine r_rq (by first | decide | omega) ?_ | ((with_reducible refine SL.p ?_); first | refine ⟨_, rfl, ?_⟩ | refine ⟨_, _, _, rfl, ?_⟩ | (refine ⟨?_, rfl, ?_⟩; focus (simp; done))) | ((with_reducible first | apply i_ldn | apply i_ldnq); exact rfl; exact rfl; exact rfl) | ((try with_reducible refine d_reg ?_); simp only [go_sem, Nat.reduceAdd, Nat.reduceEqDiff, Int.reduceToNat, Nat.reduceMul, Nat.reduceSub]) | clear hK K)
      refine i_clq F1 ?_
      repeat' (first | (with_reducible first | (refine d_seq ?_; intro K hK) | (refine hK _ _ ?_; clear hK K) | (refine SG.p ?_; try intro b)) | ((with_reducible refine SC.p ?_); refine And.intro ?_ ?_) <;> intro hc <;> try simp only [push_cast, Int.reduceEq, Int.reduceLT, Int.reduceLE, Int.reduceNe] at hc | with_reducible refine r_rq (by first | decide | omega) ?_ | ((with_reducible refine SL.p ?_); first | refine ⟨_, rfl, ?_⟩ | refine ⟨_, _, _, rfl, ?_⟩ | (refine ⟨?_, rfl, ?_⟩; focus (simp; done))) | ((with_reducible first | apply i_ldn | apply i_ldnq); exact rfl; exact rfl; exact rfl) | ((try with_reducible refine d_reg ?_); simp only [go_sem, Nat.reduceAdd, Nat.reduceEqDiff, Int.reduceToNat, Nat.reduceMul, Nat.reduceSub]) | clear hK K)
      refine i_clq F2 ?_
      repeat' (first | (with_reducible first | (refine d_seq ?_; intro K hK) | (refine hK _ _ ?_; clear hK K) | (refine SG.p ?_; try intro b)) | ((with_reducible refine SC.p ?_); refine And.intro ?_ ?_) <;> intro hc <;> try simp only [push_cast, Int.reduceEq, Int.reduceLT, Int.reduceLE, Int.reduceNe] at hc | with_reducible refine r_rq (by first | decide | omega) ?_ | ((with_reducible refine SL.p ?_); first | refine ⟨_, rfl, ?_⟩ | refine ⟨_, _, _, rfl, ?_⟩ | (refine ⟨?_, rfl, ?_⟩; focus (simp; done))) | ((with_reducible first | apply i_ldn | apply i_ldnq); exact rfl; exact rfl; exact rfl) | ((try with_reducible refine d_reg ?_); simp only [go_sem, Nat.reduceAdd, Nat.reduceEqDiff, Int.reduceToNat, Nat.reduceMul, Nat.reduceSub]) | clear hK K)
      all_goals try (first | contradiction | (simp only [ reduceCtorEq] at *; done) | (exfalso; omega))
      refine i_clq F3 ?_
      repeat' (first | (with_reducible first | (refine d_seq ?_; intro K hK) | (refine hK _ _ ?_; clear hK K) | (refine SG.p ?_; try intro b)) | ((with_reducible refine SC.p ?_); refine And.intro ?_ ?_) <;> intro hc <;> try simp only [push_cast, Int.reduceEq, Int.reduceLT, Int.reduceLE, Int.reduceNe] at hc | with_reducible refine r_rq (by first | decide | omega) ?_ | ((with_reducible refine SL.p ?_); first | refine ⟨_, rfl, ?_⟩ | refine ⟨_, _, _, rfl, ?_⟩ | (refine ⟨?_, rfl, ?_⟩; focus (simp; done))) | ((with_reducible first | apply i_ldn | apply i_ldnq); exact rfl; exact rfl; exact rfl) | ((try with_reducible refine d_reg ?_); simp only [go_sem, Nat.reduceAdd, Nat.reduceEqDiff, Int.reduceToNat, Nat.reduceMul, Nat.reduceSub]) | clear hK K)
      all_goals try (first | contradiction | (simp only [ reduceCtorEq] at *; done) | (exfalso; omega))
      (with_reducible first | apply i_ret0 | apply i_ret2 | apply i_ret3 | apply i_ret); exact rfl
    · rw [if_neg a4]
      generalize R3.text 32 = T at *
      obtain ⟨x4, R4⟩ := T
      dsimp only at F4 ⊢
      repeat' (first | (with_reducible first | (refine d_seq ?_; intro K hK) | (refine hK _ _ ?_; clear hK K) | (refine SG.p ?_; try intro b)) | ((with_reducible refine SC.p ?_); refine And.intro ?_ ?_) <;> intro hc <;> try simp only [push_cast, Int.reduceEq, Int.reduceLT, Int.reduceLE, Int.reduceNe] at hc | with_reducible refine r_rq (by first | decide | omega) ?_ | ((with_reducible refine SL.p ?_); first | refine ⟨_, rfl, ?_⟩ | refine ⟨_, _, _, rfl, ?_⟩ | (refine ⟨?_, rfl, ?_⟩; focus (simp; done))) | ((with_reducible first | apply i_ldn | apply i_ldnq); exact rfl; exact rfl; exact rfl) | ((try with_reducible refine d_reg ?_); simp only [go_sem, Nat.reduceAdd, Nat.reduceEqDiff, Int.reduceToNat, Nat.reduceMul, Nat.reduceSub]) | clear hK K)
      refine i_clq F1 ?_
      repeat' (first | (with_reducible first | (refine d_seq ?_; intro K hK) | (refine hK _ _ ?_; clear hK K) | (refine SG.p ?_; try intro b)) | ((with_reducible refine SC.p ?_); refine And.intro ?_ ?_) <;> intro hc <;> try simp only [push_cast, Int.reduceEq, Int.reduceLT, Int.reduceLE, Int.reduceNe] at hc | with_reducible refine r_rq (by first | decide | omega) ?_ | ((with_reducible refine SL.p ?_); first | refine ⟨_, rfl, ?_⟩ | refine ⟨_, _, _, rfl, ?_⟩ | (refine ⟨?_, rfl, ?_⟩; focus (simp; done))) | ((with_reducible first | apply i_ldn | apply i_ldnq); exact rfl; exact rfl; exact rfl) | ((try with_reducible refine d_reg ?_); simp only [go_sem, Nat.reduceAdd, Nat.reduceEqDiff, Int.reduceToNat, Nat.reduceMul, Nat.reduceSub]) | clear hK K)
      refine i_clq F2 ?_
      repeat' (first | (with_reducible first | (refine d_seq ?_; intro K hK) | (refine hK _ _ ?_; clear hK K) | (refine SG.p ?_; try intro b)) | ((with_reducible refine SC.p ?_); refine And.intro ?_ ?_) <;> intro hc <;> try simp only [push_cast, Int.reduceEq, Int.reduceLT, Int.reduceLE, Int.reduceNe] at hc | with_reducible refine r_rq (by first | decide | omega) ?_ | ((with_reducible refine SL.p ?_); first | refine ⟨_, rfl, ?_⟩ | refine ⟨_, _, _, rfl, ?_⟩ | (refine ⟨?_, rfl, ?_⟩; focus (simp; done))) | ((with_reducible first | apply i_ldn | apply i_ldnq); exact rfl; exact rfl; exact rfl) | ((try with_reducible refine d_reg ?_); simp only [go_sem, Nat.reduceAdd, Nat.reduceEqDiff, Int.reduceToNat, Nat.reduceMul, Nat.reduceSub]) | clear hK K)
      all_goals try (first | contradiction | (simp only [ reduceCtorEq] at *; done) | (exfalso; omega))
      refine i_clq F3 ?_
      repeat' (first | (with_reducible first | (refine d_seq ?_; intro K hK) | (refine hK _ _ ?_; clear hK K) | (refine SG.p ?_; try intro b)) | ((with_reducible refine SC.p ?_); refine And.intro ?_ ?_) <;> intro hc <;> try simp only [push_cast, Int.reduceEq, Int.reduceLT, Int.reduceLE, Int.reduceNe] at hc | with_reducible refine r_rq (by first | decide | omega) ?_ | ((with_reducible refine SL.p ?_); first | refine ⟨_, rfl, ?_⟩ | refine ⟨_, _, _, rfl, ?_⟩ | (refine ⟨?_, rfl, ?_⟩; focus (simp; done))) | ((with_reducible first | apply i_ldn | apply i_ldnq); exact rfl; exact rfl; exact rfl) | ((try with_reducible refine d_reg ?_); simp only [go_sem, Nat.reduceAdd, Nat.reduceEqDiff, Int.reduceToNat, Nat.reduceMul, Nat.reduceSub]) | clear hK K)
      all_goals try (first | contradiction | (simp only [ reduceCtorEq] at *; done) | (exfalso; omega))
      refine i_clq F4 ?_
      repeat' (first | (with_reducible first | (refine d_seq ?_; intro K hK) | (refine hK _ _ ?_; clear hK K) | (refine SG.p ?_; try intro b)) | ((with_reducible refine SC.p ?_); refine And.intro ?_ ?_) <;> intro hc <;> try simp only [push_cast, Int.reduceEq, Int.reduceLT, Int.reduceLE, Int.reduceNe] at hc | with_reducible refine r_rq (by first | decide | omega) ?_ | ((with_reducible refine SL.p ?_); first | refine ⟨_, rfl, ?_⟩ | refine ⟨_, _, _, rfl, ?_⟩ | (refine ⟨?_, rfl, ?_⟩; focus (simp; done))) | ((with_reducible first | apply i_ldn | apply i_ldnq); exact rfl; exact rfl; exact rfl) | ((try with_reducible refine d_reg ?_); simp only [go_sem, Nat.reduceAdd, Nat.reduceEqDiff, Int.reduceToNat, Nat.reduceMul, Nat.reduceSub]) | clear hK K)
      (with_reducible first | apply i_ret0 | apply i_ret2 | apply i_ret3 | apply i_ret); exact rfl
end Go.Sp
