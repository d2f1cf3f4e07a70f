/- Texts of a proof, one behind the other: P3 P4 Gxn0 Gx0 U8 U9 V1 Gxf0 V2 V3 V4 V5 V6 V7 V8 V9 V10 Q1 P5 P6 P7 P8 Z1 P9 V11 P10 Q2 Q3 Q4 Q5 Q6 Q7 Q10. No condition. -/
import Derived.Test.YtaidhghnflnmnaaGreatMdaf3e6d3
import Derived.Test.YtaidhghnflnmnaaGreatMd541d382
import Derived.Test.YtaidhghnflnmnaaGreatM860773e2
import Derived.Test.YtaidhghnflnmnaaGreatM504112b3
import Derived.Test.YtaidhghnflnmnaaGreatM82fb4eb9
/- The pool: save. -/
namespace Go.Sp
open Go Go.Proofs
set_option linter.unusedSimpArgs false
set_option linter.unusedVariables false
set_option maxRecDepth 10000
theorem lneed_ok {Z : Dk} (h : Z.ok) {G : Lg} (hG : G.ok Z.sure.length) (lsn : Int) : (Z.lneed G lsn).2.1.ok ∧ (Z.lneed G lsn).2.1.sb = Z.sb ∧ (Z.lneed G lsn).2.1.sure.length = Z.sure.length ∧ (Z.lneed G lsn).2.2.ok Z.sure.length ∧ (Z.lneed G lsn).2.2.q = G.q := by
  unfold Dk.lneed
  split
  · exact ⟨h, rfl, rfl, hG, rfl⟩
  · split
    · exact ⟨h, rfl, rfl, hG, rfl⟩
    · exact lflush_ok h hG
/-- A pool's world. -/
structure Wo where
  P : Po
  G : Lg
  Z : Dk
def Po.cln (P : Po) (i : Nat) : Po := { P with fs := P.fs.set i { P.at i with dirty := false, first := 0 }, writes := IntKind.wrap .i64 (P.writes + 1) }
def svp (S : St) (w : Wo) (i : Nat) : Int × Wo :=
  if (w.P.at i).dirty = false then (0, w) else
  if (w.Z.lneed w.G (w.P.at i).lsn).1 ≠ 0 then ((w.Z.lneed w.G (w.P.at i).lsn).1, ⟨w.P, (w.Z.lneed w.G (w.P.at i).lsn).2.2, (w.Z.lneed w.G (w.P.at i).lsn).2.1⟩) else
  (fun b : Int × Dk => if b.1 ≠ 0 then (b.1, ⟨w.P, (w.Z.lneed w.G (w.P.at i).lsn).2.2, b.2⟩) else if b.2.sync.1 ≠ 0 then (b.2.sync.1, ⟨w.P, (w.Z.lneed w.G (w.P.at i).lsn).2.2, b.2.sync.2⟩) else (0, ⟨w.P.cln i, (w.Z.lneed w.G (w.P.at i).lsn).2.2, b.2.sync.2⟩))
    ((w.Z.lneed w.G (w.P.at i).lsn).2.1.wpg S (w.P.at i).id (w.P.at i).text (w.P.at i).lsn)
abbrev wos (S : St) (sb : Nat) (w : Wo) : List HP := [ppt w.P, pfs w.P, lgp w.G sb, spt S sb, dk w.Z]
structure Wo.ok (S : St) (sb n : Nat) (w : Wo) : Prop where
  p : w.P.ok
  z : w.Z.ok
  sb : w.Z.sb = sb
  nn : w.Z.sure.length = n
  g : w.G.ok n
  s : S.ok n
  st : w.P.st = S.q
  lg : w.P.lg = w.G.q
set_option maxHeartbeats 2000000 in
theorem g95 (S : St) (sb n : Nat) (w : Wo) (h : w.ok S sb n) (i : Nat) (hi : i < w.P.fs.length) : Fq eI Tryz.prog 95 #[w.P.p, .pointer (some (w.P.f i))] (wos S sb w) (wos S sb (svp S w i).2) (svp S w i).1 := fun L => by
  obtain ⟨P, G, Z⟩ := w
  obtain ⟨hp, hz, hsb, hn, hg, hs, hst, hlg⟩ := h
  dsimp only at hp hz hsb hn hg hst hlg hi
  have hx : P.fs[i]? = some (P.at i) := by
    unfold Po.at
    rw [List.getD_eq_getElem?_getD, List.getElem?_eq_getElem hi]
    rfl
  have hcl : P.cln i = { P with fs := P.fs.set i { P.at i with dirty := false, first := 0 }, writes := IntKind.wrap .i64 (P.writes + 1) } := rfl
  have hg' := hg
  rw [← hn] at hg' hs
  generalize hR : svp S ⟨P, G, Z⟩ i = R
  unfold svp at hR
  dsimp only at hR
  generalize P.at i = f at *
  have ND := g40 G Z hz hg' f.lsn
  rw [hsb] at ND
  obtain ⟨o1, o2, o3, o4, o5⟩ := lneed_ok hz hg' f.lsn
  rw [← o3] at hs
  rw [hsb] at o2
  unfold wos
  dsimp only
  refine c95_fn rfl rfl ?_
  by_cases c1 : f.dirty = false
  · rw [if_pos c1] at hR
    subst hR
    repeat' ((fail_if_success with_reducible refine nph ?_); first | (with_reducible first | (refine d_seq ?_; intro K hK) | (refine hK _ _ ?_; clear hK K) | (refine SG.p ?_; try intro b)) | ((with_reducible refine SC.p ?_); refine And.intro ?_ ?_) <;> intro hc <;> try simp only [push_cast, Int.reduceEq, Int.reduceLT, Int.reduceLE, Int.reduceNe] at hc | with_reducible refine r_rq (by first | decide | omega) ?_ | ((with_reducible refine SL.p ?_); first | refine ⟨_, rfl, ?_⟩ | refine ⟨_, _, _, rfl, ?_⟩ | (refine ⟨?_, rfl, ?_⟩; focus (simp; done))) | ((with_reducible first | apply i_ldn | apply i_ldnq); exact rfl; exact rfl; exact rfl) | ((try with_reducible refine d_reg ?_); simp only [go_sem, Nat.reduceAdd, Nat.reduceEqDiff, Int.reduceToNat, Nat.reduceMul, Nat.reduceSub]) | clear hK K)
    refine i_fl (e := eB) (y := f.dirty) cFr_len hx rfl ?_
    rw [c1]
    repeat' ((fail_if_success with_reducible refine nph ?_); first | (with_reducible first | (refine d_seq ?_; intro K hK) | (refine hK _ _ ?_; clear hK K) | (refine SG.p ?_; try intro b)) | ((with_reducible refine SC.p ?_); refine And.intro ?_ ?_) <;> intro hc <;> try simp only [push_cast, Int.reduceEq, Int.reduceLT, Int.reduceLE, Int.reduceNe] at hc | with_reducible refine r_rq (by first | decide | omega) ?_ | ((with_reducible refine SL.p ?_); first | refine ⟨_, rfl, ?_⟩ | refine ⟨_, _, _, rfl, ?_⟩ | (refine ⟨?_, rfl, ?_⟩; focus (simp; done))) | ((with_reducible first | apply i_ldn | apply i_ldnq); exact rfl; exact rfl; exact rfl) | ((try with_reducible refine d_reg ?_); simp only [go_sem, Nat.reduceAdd, Nat.reduceEqDiff, Int.reduceToNat, Nat.reduceMul, Nat.reduceSub]) | clear hK K)
    all_goals try contradiction
    (with_reducible first | apply i_ret0 | apply i_ret2 | apply i_ret3 | apply i_ret); exact rfl
    rfl
  · rw [if_neg c1] at hR
    have c1' : f.dirty = true := by simpa using c1
    generalize Z.lneed G f.lsn = a at *
    obtain ⟨ea, Za, Ga⟩ := a
    dsimp only at hR ND o1 o2 o3 o4 o5 hs
    by_cases c2 : ea = 0
    · subst c2
      rw [if_neg (by simp)] at hR
      have WR := f46 S Za o1 hs f.id f.text f.lsn
      rw [o2] at WR
      obtain ⟨p1, p2, p3⟩ := Dk.wpg_same o1 S f.id f.text f.lsn
      rw [o2] at p2
      generalize Za.wpg S f.id f.text f.lsn = b at *
      obtain ⟨eb, Zb⟩ := b
      dsimp only at hR WR p1 p2 p3
      have SY := f48 S Zb p1
      rw [p2] at SY
      generalize Zb.sync = c at *
      obtain ⟨ec, Zc⟩ := c
      dsimp only at hR SY
      have hgq : Ga.q = G.q := o5
      repeat' ((fail_if_success with_reducible refine nph ?_); first | (with_reducible first | (refine d_seq ?_; intro K hK) | (refine hK _ _ ?_; clear hK K) | (refine SG.p ?_; try intro b)) | ((with_reducible refine SC.p ?_); refine And.intro ?_ ?_) <;> intro hc <;> try simp only [push_cast, Int.reduceEq, Int.reduceLT, Int.reduceLE, Int.reduceNe] at hc | with_reducible refine r_rq (by first | decide | omega) ?_ | ((with_reducible refine SL.p ?_); first | refine ⟨_, rfl, ?_⟩ | refine ⟨_, _, _, rfl, ?_⟩ | (refine ⟨?_, rfl, ?_⟩; focus (simp; done))) | ((with_reducible first | apply i_ldn | apply i_ldnq); exact rfl; exact rfl; exact rfl) | ((try with_reducible refine d_reg ?_); simp only [go_sem, Nat.reduceAdd, Nat.reduceEqDiff, Int.reduceToNat, Nat.reduceMul, Nat.reduceSub]) | clear hK K)
      refine i_fl (e := eB) (y := f.dirty) cFr_len hx rfl ?_
      rw [c1']
      repeat' ((fail_if_success with_reducible refine nph ?_); first | (with_reducible first | (refine d_seq ?_; intro K hK) | (refine hK _ _ ?_; clear hK K) | (refine SG.p ?_; try intro b)) | ((with_reducible refine SC.p ?_); refine And.intro ?_ ?_) <;> intro hc <;> try simp only [push_cast, Int.reduceEq, Int.reduceLT, Int.reduceLE, Int.reduceNe] at hc | with_reducible refine r_rq (by first | decide | omega) ?_ | ((with_reducible refine SL.p ?_); first | refine ⟨_, rfl, ?_⟩ | refine ⟨_, _, _, rfl, ?_⟩ | (refine ⟨?_, rfl, ?_⟩; focus (simp; done))) | ((with_reducible first | apply i_ldn | apply i_ldnq); exact rfl; exact rfl; exact rfl) | ((try with_reducible refine d_reg ?_); simp only [go_sem, Nat.reduceAdd, Nat.reduceEqDiff, Int.reduceToNat, Nat.reduceMul, Nat.reduceSub]) | clear hK K)
      all_goals try contradiction
      refine r_ph0 ?_
      repeat' ((fail_if_success with_reducible refine nph ?_); first | (with_reducible first | (refine d_seq ?_; intro K hK) | (refine hK _ _ ?_; clear hK K) | (refine SG.p ?_; try intro b)) | ((with_reducible refine SC.p ?_); refine And.intro ?_ ?_) <;> intro hc <;> try simp only [push_cast, Int.reduceEq, Int.reduceLT, Int.reduceLE, Int.reduceNe] at hc | with_reducible refine r_rq (by first | decide | omega) ?_ | ((with_reducible refine SL.p ?_); first | refine ⟨_, rfl, ?_⟩ | refine ⟨_, _, _, rfl, ?_⟩ | (refine ⟨?_, rfl, ?_⟩; focus (simp; done))) | ((with_reducible first | apply i_ldn | apply i_ldnq); exact rfl; exact rfl; exact rfl) | ((try with_reducible refine d_reg ?_); simp only [go_sem, Nat.reduceAdd, Nat.reduceEqDiff, Int.reduceToNat, Nat.reduceMul, Nat.reduceSub]) | clear hK K)
      refine i_flq (e := eI) (y := f.lsn) cFr_len hx rfl ?_
      rw [hlg]
      refine i_clq ND ?_
      repeat' ((fail_if_success with_reducible refine nph ?_); first | (with_reducible first | (refine d_seq ?_; intro K hK) | (refine hK _ _ ?_; clear hK K) | (refine SG.p ?_; try intro b)) | ((with_reducible refine SC.p ?_); refine And.intro ?_ ?_) <;> intro hc <;> try simp only [push_cast, Int.reduceEq, Int.reduceLT, Int.reduceLE, Int.reduceNe] at hc | with_reducible refine r_rq (by first | decide | omega) ?_ | ((with_reducible refine SL.p ?_); first | refine ⟨_, rfl, ?_⟩ | refine ⟨_, _, _, rfl, ?_⟩ | (refine ⟨?_, rfl, ?_⟩; focus (simp; done))) | ((with_reducible first | apply i_ldn | apply i_ldnq); exact rfl; exact rfl; exact rfl) | ((try with_reducible refine d_reg ?_); simp only [go_sem, Nat.reduceAdd, Nat.reduceEqDiff, Int.reduceToNat, Nat.reduceMul, Nat.reduceSub]) | clear hK K)
      all_goals try contradiction
      refine r_ph0 ?_
      repeat' ((fail_if_success with_reducible refine nph ?_); first | (with_reducible first | (refine d_seq ?_; intro K hK) | (refine hK _ _ ?_; clear hK K) | (refine SG.p ?_; try intro b)) | ((with_reducible refine SC.p ?_); refine And.intro ?_ ?_) <;> intro hc <;> try simp only [push_cast, Int.reduceEq, Int.reduceLT, Int.reduceLE, Int.reduceNe] at hc | with_reducible refine r_rq (by first | decide | omega) ?_ | ((with_reducible refine SL.p ?_); first | refine ⟨_, rfl, ?_⟩ | refine ⟨_, _, _, rfl, ?_⟩ | (refine ⟨?_, rfl, ?_⟩; focus (simp; done))) | ((with_reducible first | apply i_ldn | apply i_ldnq); exact rfl; exact rfl; exact rfl) | ((try with_reducible refine d_reg ?_); simp only [go_sem, Nat.reduceAdd, Nat.reduceEqDiff, Int.reduceToNat, Nat.reduceMul, Nat.reduceSub]) | clear hK K)
      refine i_flq (e := eI) (y := f.id) cFr_len hx rfl ?_
      refine i_fl0q (e := eS) (y := f.text) cFr_len hx rfl ?_
      refine i_flq (e := eI) (y := f.lsn) cFr_len hx rfl ?_
      rw [hst]
      refine i_clq WR ?_
      by_cases c3 : eb = 0
      · subst c3
        rw [if_neg (by simp)] at hR
        repeat' ((fail_if_success with_reducible refine nph ?_); first | (with_reducible first | (refine d_seq ?_; intro K hK) | (refine hK _ _ ?_; clear hK K) | (refine SG.p ?_; try intro b)) | ((with_reducible refine SC.p ?_); refine And.intro ?_ ?_) <;> intro hc <;> try simp only [push_cast, Int.reduceEq, Int.reduceLT, Int.reduceLE, Int.reduceNe] at hc | with_reducible refine r_rq (by first | decide | omega) ?_ | ((with_reducible refine SL.p ?_); first | refine ⟨_, rfl, ?_⟩ | refine ⟨_, _, _, rfl, ?_⟩ | (refine ⟨?_, rfl, ?_⟩; focus (simp; done))) | ((with_reducible first | apply i_ldn | apply i_ldnq); exact rfl; exact rfl; exact rfl) | ((try with_reducible refine d_reg ?_); simp only [go_sem, Nat.reduceAdd, Nat.reduceEqDiff, Int.reduceToNat, Nat.reduceMul, Nat.reduceSub]) | clear hK K)
        all_goals try contradiction
        rw [hst]
        refine i_clq SY ?_
        by_cases c4 : ec = 0
        · subst c4
          rw [if_neg (by simp)] at hR
          subst hR
          repeat' ((fail_if_success with_reducible refine nph ?_); first | (with_reducible first | (refine d_seq ?_; intro K hK) | (refine hK _ _ ?_; clear hK K) | (refine SG.p ?_; try intro b)) | ((with_reducible refine SC.p ?_); refine And.intro ?_ ?_) <;> intro hc <;> try simp only [push_cast, Int.reduceEq, Int.reduceLT, Int.reduceLE, Int.reduceNe] at hc | with_reducible refine r_rq (by first | decide | omega) ?_ | ((with_reducible refine SL.p ?_); first | refine ⟨_, rfl, ?_⟩ | refine ⟨_, _, _, rfl, ?_⟩ | (refine ⟨?_, rfl, ?_⟩; focus (simp; done))) | ((with_reducible first | apply i_ldn | apply i_ldnq); exact rfl; exact rfl; exact rfl) | ((try with_reducible refine d_reg ?_); simp only [go_sem, Nat.reduceAdd, Nat.reduceEqDiff, Int.reduceToNat, Nat.reduceMul, Nat.reduceSub]) | clear hK K)
          all_goals try contradiction
          have hx1 : (P.fs.set i { f with dirty := false })[i]? = some { f with dirty := false } := by simp [hi]
          refine i_fs (j := 3) (v := .bool false) cFr_len hx { f with dirty := false } rfl rfl rfl ?_
          refine i_fs (j := 4) (v := .int .i64 0) cFr_len hx1 { f with dirty := false, first := 0 } rfl rfl rfl ?_
          rw [List.set_set]
          repeat' ((fail_if_success with_reducible refine nph ?_); first | (with_reducible first | (refine d_seq ?_; intro K hK) | (refine hK _ _ ?_; clear hK K) | (refine SG.p ?_; try intro b)) | ((with_reducible refine SC.p ?_); refine And.intro ?_ ?_) <;> intro hc <;> try simp only [push_cast, Int.reduceEq, Int.reduceLT, Int.reduceLE, Int.reduceNe] at hc | with_reducible refine r_rq (by first | decide | omega) ?_ | ((with_reducible refine SL.p ?_); first | refine ⟨_, rfl, ?_⟩ | refine ⟨_, _, _, rfl, ?_⟩ | (refine ⟨?_, rfl, ?_⟩; focus (simp; done))) | ((with_reducible first | apply i_ldn | apply i_ldnq); exact rfl; exact rfl; exact rfl) | ((try with_reducible refine d_reg ?_); simp only [go_sem, Nat.reduceAdd, Nat.reduceEqDiff, Int.reduceToNat, Nat.reduceMul, Nat.reduceSub]) | clear hK K)
          rw [hcl]
          have hl : (P.fs.set i { f with dirty := false, first := 0 }).length = P.fs.length := List.length_set
          generalize P.fs.set i { f with dirty := false, first := 0 } = fs' at *
          rw [← hl]
          (with_reducible first | apply i_ret0 | apply i_ret2 | apply i_ret3 | apply i_ret); exact rfl
          rfl
        · rw [if_pos c4] at hR
          subst hR
          repeat' ((fail_if_success with_reducible refine nph ?_); first | (with_reducible first | (refine d_seq ?_; intro K hK) | (refine hK _ _ ?_; clear hK K) | (refine SG.p ?_; try intro b)) | ((with_reducible refine SC.p ?_); refine And.intro ?_ ?_) <;> intro hc <;> try simp only [push_cast, Int.reduceEq, Int.reduceLT, Int.reduceLE, Int.reduceNe] at hc | with_reducible refine r_rq (by first | decide | omega) ?_ | ((with_reducible refine SL.p ?_); first | refine ⟨_, rfl, ?_⟩ | refine ⟨_, _, _, rfl, ?_⟩ | (refine ⟨?_, rfl, ?_⟩; focus (simp; done))) | ((with_reducible first | apply i_ldn | apply i_ldnq); exact rfl; exact rfl; exact rfl) | ((try with_reducible refine d_reg ?_); simp only [go_sem, Nat.reduceAdd, Nat.reduceEqDiff, Int.reduceToNat, Nat.reduceMul, Nat.reduceSub]) | clear hK K)
          all_goals try contradiction
          (with_reducible first | apply i_ret0 | apply i_ret2 | apply i_ret3 | apply i_ret); exact rfl
          rfl
      · rw [if_pos c3] at hR
        subst hR
        repeat' ((fail_if_success with_reducible refine nph ?_); first | (with_reducible first | (refine d_seq ?_; intro K hK) | (refine hK _ _ ?_; clear hK K) | (refine SG.p ?_; try intro b)) | ((with_reducible refine SC.p ?_); refine And.intro ?_ ?_) <;> intro hc <;> try simp only [push_cast, Int.reduceEq, Int.reduceLT, Int.reduceLE, Int.reduceNe] at hc | with_reducible refine r_rq (by first | decide | omega) ?_ | ((with_reducible refine SL.p ?_); first | refine ⟨_, rfl, ?_⟩ | refine ⟨_, _, _, rfl, ?_⟩ | (refine ⟨?_, rfl, ?_⟩; focus (simp; done))) | ((with_reducible first | apply i_ldn | apply i_ldnq); exact rfl; exact rfl; exact rfl) | ((try with_reducible refine d_reg ?_); simp only [go_sem, Nat.reduceAdd, Nat.reduceEqDiff, Int.reduceToNat, Nat.reduceMul, Nat.reduceSub]) | clear hK K)
        all_goals try contradiction
        (with_reducible first | apply i_ret0 | apply i_ret2 | apply i_ret3 | apply i_ret); exact rfl
        rfl
    · rw [if_pos c2] at hR
      subst hR
      repeat' ((fail_if_success with_reducible refine nph ?_); first | (with_reducible first | (refine d_seq ?_; intro K hK) | (refine hK _ _ ?_; clear hK K) | (refine SG.p ?_; try intro b)) | ((with_reducible refine SC.p ?_); refine And.intro ?_ ?_) <;> intro hc <;> try simp only [push_cast, Int.reduceEq, Int.reduceLT, Int.reduceLE, Int.reduceNe] at hc | with_reducible refine r_rq (by first | decide | omega) ?_ | ((with_reducible refine SL.p ?_); first | refine ⟨_, rfl, ?_⟩ | refine ⟨_, _, _, rfl, ?_⟩ | (refine ⟨?_, rfl, ?_⟩; focus (simp; done))) | ((with_reducible first | apply i_ldn | apply i_ldnq); exact rfl; exact rfl; exact rfl) | ((try with_reducible refine d_reg ?_); simp only [go_sem, Nat.reduceAdd, Nat.reduceEqDiff, Int.reduceToNat, Nat.reduceMul, Nat.reduceSub]) | clear hK K)
      refine i_fl (e := eB) (y := f.dirty) cFr_len hx rfl ?_
      rw [c1']
      repeat' ((fail_if_success with_reducible refine nph ?_); first | (with_reducible first | (refine d_seq ?_; intro K hK) | (refine hK _ _ ?_; clear hK K) | (refine SG.p ?_; try intro b)) | ((with_reducible refine SC.p ?_); refine And.intro ?_ ?_) <;> intro hc <;> try simp only [push_cast, Int.reduceEq, Int.reduceLT, Int.reduceLE, Int.reduceNe] at hc | with_reducible refine r_rq (by first | decide | omega) ?_ | ((with_reducible refine SL.p ?_); first | refine ⟨_, rfl, ?_⟩ | refine ⟨_, _, _, rfl, ?_⟩ | (refine ⟨?_, rfl, ?_⟩; focus (simp; done))) | ((with_reducible first | apply i_ldn | apply i_ldnq); exact rfl; exact rfl; exact rfl) | ((try with_reducible refine d_reg ?_); simp only [go_sem, Nat.reduceAdd, Nat.reduceEqDiff, Int.reduceToNat, Nat.reduceMul, Nat.reduceSub]) | clear hK K)
      all_goals try contradiction
      refine r_ph0 ?_
      repeat' ((fail_if_success with_reducible refine nph ?_); first | (with_reducible first | (refine d_seq ?_; intro K hK) | (refine hK _ _ ?_; clear hK K) | (refine SG.p ?_; try intro b)) | ((with_reducible refine SC.p ?_); refine And.intro ?_ ?_) <;> intro hc <;> try simp only [push_cast, Int.reduceEq, Int.reduceLT, Int.reduceLE, Int.reduceNe] at hc | with_reducible refine r_rq (by first | decide | omega) ?_ | ((with_reducible refine SL.p ?_); first | refine ⟨_, rfl, ?_⟩ | refine ⟨_, _, _, rfl, ?_⟩ | (refine ⟨?_, rfl, ?_⟩; focus (simp; done))) | ((with_reducible first | apply i_ldn | apply i_ldnq); exact rfl; exact rfl; exact rfl) | ((try with_reducible refine d_reg ?_); simp only [go_sem, Nat.reduceAdd, Nat.reduceEqDiff, Int.reduceToNat, Nat.reduceMul, Nat.reduceSub]) | clear hK K)
      refine i_flq (e := eI) (y := f.lsn) cFr_len hx rfl ?_
      rw [hlg]
      refine i_clq ND ?_
      repeat' ((fail_if_success with_reducible refine nph ?_); first | (with_reducible first | (refine d_seq ?_; intro K hK) | (refine hK _ _ ?_; clear hK K) | (refine SG.p ?_; try intro b)) | ((with_reducible refine SC.p ?_); refine And.intro ?_ ?_) <;> intro hc <;> try simp only [push_cast, Int.reduceEq, Int.reduceLT, Int.reduceLE, Int.reduceNe] at hc | with_reducible refine r_rq (by first | decide | omega) ?_ | ((with_reducible refine SL.p ?_); first | refine ⟨_, rfl, ?_⟩ | refine ⟨_, _, _, rfl, ?_⟩ | (refine ⟨?_, rfl, ?_⟩; focus (simp; done))) | ((with_reducible first | apply i_ldn | apply i_ldnq); exact rfl; exact rfl; exact rfl) | ((try with_reducible refine d_reg ?_); simp only [go_sem, Nat.reduceAdd, Nat.reduceEqDiff, Int.reduceToNat, Nat.reduceMul, Nat.reduceSub]) | clear hK K)
      all_goals try contradiction
      (with_reducible first | apply i_ret0 | apply i_ret2 | apply i_ret3 | apply i_ret); exact rfl
      rfl
end Go.Sp
/- The pool: hold. -/
namespace Go.Sp
open Go Go.Proofs
set_option linter.unusedSimpArgs false
set_option linter.unusedVariables false
set_option maxRecDepth 10000
/-- Two pools lie at the same places. -/
structure Po.like (P P' : Po) : Prop where
  q : P'.q = P.q
  fb : P'.fb = P.fb
  st : P'.st = P.st
  lg : P'.lg = P.lg
  n : P'.fs.length = P.fs.length
theorem Po.like.rfl' {P : Po} : P.like P := ⟨rfl, rfl, rfl, rfl, rfl⟩
theorem Po.like.tr {P P' P2 : Po} (a : P.like P') (b : P'.like P2) : P.like P2 := ⟨b.q.trans a.q, b.fb.trans a.fb, b.st.trans a.st, b.lg.trans a.lg, b.n.trans a.n⟩
theorem Po.like.ok {P P' : Po} (a : P.like P') (h : P.ok) (hh : P'.hand < P.fs.length) : P'.ok := ⟨by rw [a.n]; exact h.n2, by rw [a.n]; exact h.n64, by rw [a.n]; exact hh⟩
theorem vic_like : ∀ (k : Nat) (P : Po), P.ok → P.like (vic k P).2 ∧ (vic k P).2.ok ∧ ∀ i, (vic k P).1 = some i → i < P.fs.length
  | 0, P, h => ⟨.rfl', h, fun i e => by cases e⟩
  | k + 1, P, h => by
    have t1 : P.like P.turn := ⟨rfl, rfl, rfl, rfl, rfl⟩
    unfold vic
    split
    · exact ⟨t1, turn_ok h, fun i e => by cases e; exact h.h⟩
    · split
      · obtain ⟨a, b, c⟩ := vic_like k P.turn (turn_ok h)
        exact ⟨t1.tr a, b, c⟩
      · split
        · have t2 : P.like { P.turn with fs := P.fs.set P.hand { P.at P.hand with used := false } } := ⟨rfl, rfl, rfl, rfl, List.length_set⟩
          have o2 := t2.ok h (turn_ok h).h
          obtain ⟨a, b, c⟩ := vic_like k _ o2
          exact ⟨t2.tr a, b, fun i e => by have := c i e; rw [t2.n] at this; exact this⟩
        · exact ⟨t1, turn_ok h, fun i e => by cases e; exact h.h⟩
theorem fndf_lt (id : Int) : ∀ (fs : List Fr) (a i : Nat), fndf id fs a = some i → a ≤ i ∧ i < a + fs.length ∧ ∃ f, fs[i - a]? = some f ∧ f.filled = true ∧ f.id = id
  | [], a, i, h => by cases h
  | f :: r, a, i, h => by
    unfold fndf at h
    by_cases hc : f.filled = true ∧ f.id = id
    · rw [if_pos hc] at h
      cases h
      exact ⟨Nat.le_refl _, by simp, f, by simp, hc⟩
    · rw [if_neg hc] at h
      obtain ⟨h1, h2, g, h3, h4⟩ := fndf_lt id r (a + 1) i h
      refine ⟨by omega, by simp; omega, g, ?_, h4⟩
      rw [show i - a = (i - (a + 1)) + 1 by omega]
      simpa using h3
theorem find_lt {P : Po} {id : Int} {i : Nat} (h : P.find id = some i) : i < P.fs.length := by
  have := (fndf_lt id P.fs 0 i h).2.1
  omega
theorem at_get {P : Po} {i : Nat} (hi : i < P.fs.length) : P.fs[i]? = some (P.at i) := by
  unfold Po.at
  rw [List.getD_eq_getElem?_getD, List.getElem?_eq_getElem hi]
  rfl
theorem svp_ok {S : St} {sb n : Nat} {w : Wo} (h : w.ok S sb n) {i : Nat} (hi : i < w.P.fs.length) : (svp S w i).2.ok S sb n ∧ w.P.like (svp S w i).2.P ∧ (svp S w i).2.G.q = w.G.q := by
  have hg := h.g
  have hn := h.nn
  rw [← hn] at hg
  obtain ⟨o1, o2, o3, o4, o5⟩ := lneed_ok h.z hg (w.P.at i).lsn
  have hl : w.P.like (w.P.cln i) := ⟨rfl, rfl, rfl, rfl, List.length_set⟩
  unfold svp
  split
  · exact ⟨h, .rfl', rfl⟩
  · split
    · exact ⟨⟨h.p, o1, o2.trans h.sb, o3.trans hn, by rw [← hn]; exact o4, h.s, h.st, h.lg.trans o5.symm⟩, .rfl', o5⟩
    · obtain ⟨p1, p2, p3⟩ := Dk.wpg_same o1 S (w.P.at i).id (w.P.at i).text (w.P.at i).lsn
      generalize (w.Z.lneed w.G (w.P.at i).lsn).2.1.wpg S (w.P.at i).id (w.P.at i).text (w.P.at i).lsn = b at *
      dsimp only
      have s1 := Dk.sync_ok p1
      have s2 := Dk.sync_sb b.2
      have s3 := Dk.sync_n b.2
      split
      · exact ⟨⟨h.p, p1, p2.trans (o2.trans h.sb), p3.trans (o3.trans hn), by rw [← hn]; exact o4, h.s, h.st, h.lg.trans o5.symm⟩, .rfl', o5⟩
      · split
        · exact ⟨⟨h.p, s1, s2.trans (p2.trans (o2.trans h.sb)), s3.trans (p3.trans (o3.trans hn)), by rw [← hn]; exact o4, h.s, h.st, h.lg.trans o5.symm⟩, .rfl', o5⟩
        · exact ⟨⟨hl.ok h.p h.p.h, s1, s2.trans (p2.trans (o2.trans h.sb)), s3.trans (p3.trans (o3.trans hn)), by rw [← hn]; exact o4, h.s, h.st, h.lg.trans o5.symm⟩, hl, o5⟩
def Po.use (P : Po) (i : Nat) : Po := { P with fs := P.fs.set i { P.at i with used := true } }
def Po.put (P : Po) (i : Nat) (f : Fr) : Po := { P with fs := P.fs.set i f, loads := IntKind.wrap .i64 (P.loads + 1) }
abbrev nfr (r : List UInt8 × Int × Int) (id : Int) : Fr := ⟨r.1, r.2.1, id, false, 0, 0, true, true⟩
def hl2 (S : St) (w : Wo) (id : Int) (r : List UInt8 × Int × Int) (v : Option Nat × Po) : (Option Nat × Int) × Wo := match v.1 with
  | none => ((none, 7), ⟨v.2, w.G, w.Z⟩)
  | some i => if (v.2.at i).filled = true then
      (if (svp S ⟨v.2, w.G, w.Z⟩ i).1 = 0 then ((some i, 0), ⟨(svp S ⟨v.2, w.G, w.Z⟩ i).2.P.put i (nfr r id), (svp S ⟨v.2, w.G, w.Z⟩ i).2.G, (svp S ⟨v.2, w.G, w.Z⟩ i).2.Z⟩) else ((none, (svp S ⟨v.2, w.G, w.Z⟩ i).1), (svp S ⟨v.2, w.G, w.Z⟩ i).2))
    else ((some i, 0), ⟨v.2.put i (nfr r id), w.G, w.Z⟩)
def hl1 (S : St) (w : Wo) (id : Int) (r : List UInt8 × Int × Int) : (Option Nat × Int) × Wo := if r.2.2 ≠ 0 ∧ r.2.2 ≠ 8 ∧ r.2.2 ≠ 10 then ((none, r.2.2), w) else hl2 S w id r (vic (2 * w.P.fs.length + 1) w.P)
def hld (S : St) (w : Wo) (id : Int) : (Option Nat × Int) × Wo := match w.P.find id with
  | some i => ((some i, 0), ⟨w.P.use i, w.G, w.Z⟩)
  | none => hl1 S w id (w.Z.rpg S id)
end Go.Sp
/- What each region of the Go functions does. Written by my own generator. -/
namespace Go.Sp
open Go
set_option maxRecDepth 100000
set_option linter.unusedVariables false
open Go.Proofs
/-! gharry.gharrylaw08.number -/
end Go.Sp
/- What each region of the Go functions does. Written by my own generator. -/
namespace Go.Sp
open Go
set_option maxRecDepth 100000
set_option linter.unusedVariables false
open Go.Proofs
/-! gharry.gharrylaw08.awake -/
/-! gharry.gharrylaw08.commit -/
end Go.Sp
/- The log: Records. -/
namespace Go.Sp
open Go Go.Proofs
set_option linter.unusedSimpArgs false
set_option linter.unusedVariables false
set_option maxRecDepth 10000
/-- The records are those. -/
structure RL (S : HP) (rs : List api_Rec) (cs : List Rc) : Prop where
  n : rs.length = cs.length
  g : ∀ (i : Nat) (r : api_Rec) (c : Rc), rs[i]? = some r → cs[i]? = some c → RcAt S r c
end Go.Sp
/- The log: From. -/
namespace Go.Sp
open Go Go.Proofs
set_option linter.unusedSimpArgs false
set_option linter.unusedVariables false
set_option maxRecDepth 10000
def frl (s : List UInt8) (most : Int) : Nat → Nat → List UInt8 × Int
  | 0, a => (s.take a, 0)
  | k + 1, a => if (opn s (a : Int)).2.2 = 0 then (if 0 < a ∧ most - (a : Int) < (opn s (a : Int)).2.1 then (s.take a, 0) else frl s most k (a + (opn s (a : Int)).2.1.toNat))
    else if a = 0 ∧ 0 < s.length then ([], 4) else (s.take a, 0)
def Lg.from (G : Lg) (lsn most : Int) : List UInt8 × Int :=
  if lsn < 1 ∨ (G.durable : Int) + 1 < lsn then ([], 6) else
  (fun s : List UInt8 => frl s (if most < 0 then 0 else most) (s.length + 1) 0) ((G.all.take G.durable).drop (lsn - 1).toNat)
end Go.Sp
/- The log's law: a number as bytes; a small record. -/
namespace Go.Sp
open Go Go.Proofs
set_option linter.unusedSimpArgs false
set_option linter.unusedVariables false
set_option maxRecDepth 10000
def cm (n : Int) : Rc := { Rc.z 7 with txn := n, prev := 1 }
theorem cm_at (A : HP) (n : Int) : RcAt A ⟨7, n, 1, 0, 0, [], [], [], 0, (none, 0, 0), (none, 0, 0), 0, 0⟩ (cm n) := ⟨rfl, Rs_nil, Rs_nil, by simp [cm, Rc.z], by simp [cm, Rc.z]⟩
theorem cm_frame {n : Int} (h : fitN n 6) : ∃ f, (cm n).frame = (f, 0) ∧ f.length = 19 := by
  have hc : (cm n).clean = cm n := rfl
  have p1 : fitN 7 1 := ⟨by decide, by decide⟩
  have p6 : fitN 1 6 := ⟨by decide, by decide⟩
  have hb : (cm n).body = (lowb 7 1 ++ lowb n 6 ++ lowb 1 6, 0) := by
    have e : (cm n).body = bfin (layN (layN (layN ([], 0) 7 1) n 6) 1 6) 0 := rfl
    rw [e, layN_go p1, layN_go h, layN_go p6]
    unfold bfin
    rw [if_pos rfl, if_pos rfl, if_neg (by simp only [List.length_append, lowb_len, List.length_nil]; omega)]
    simp
  refine ⟨_, by unfold Rc.frame; rw [hc, hb, if_pos rfl], ?_⟩
  simp only [List.length_append, lowb_len]
end Go.Sp
/- What each region of the Go functions does. Written by my own generator. -/
namespace Go.Sp
open Go
set_option maxRecDepth 100000
set_option linter.unusedVariables false
open Go.Proofs
/-! gharry.gharrylaw08.few -/
end Go.Sp
/- The log's law: a record of few pages and transactions. -/
namespace Go.Sp
open Go Go.Proofs
set_option linter.unusedSimpArgs false
set_option linter.unusedVariables false
set_option maxRecDepth 10000
def few (c : Rc) : Rc := { c with imgs := c.imgs.take 2, tbl := c.tbl.take 3 }
end Go.Sp
/- The log on a disk that nothing lets go. -/
namespace Go.Sp
open Go Go.Proofs
set_option linter.unusedSimpArgs false
set_option linter.unusedVariables false
set_option maxRecDepth 10000
theorem calm_get {Z : Dk} {sb n : Nat} (h : Z.calm sb n) {i : Nat} (hi : i < n) {s : List UInt8} (hs : s.length ≤ 64) (j : Nat) : (Z.write (i : Int) s).2.get (j : Int) = if i = j then wh s else Z.get (j : Int) := by
  obtain ⟨_, _, w3, _, w5⟩ := h.write hi hs
  unfold Dk.get
  rw [w5, w3]
  by_cases e : i = j
  · subst e
    rw [if_pos rfl, if_pos rfl]
    rfl
  · rw [if_neg (by omega), if_neg e]
theorem sec_len (G : Lg) (i : Nat) : (G.sec i).length ≤ 64 := by
  have := part_le G.all i
  unfold Lg.sec
  simp only [List.length_append, lowb_len]
  omega
/-- A sector is written. -/
theorem lw_calm {Z : Dk} {sb n : Nat} (h : Z.calm sb n) {G : Lg} (hG : G.ok n) (i : Nat) : (Z.lw G i).1 = 0 ∧ (Z.lw G i).2.calm sb n ∧ ∀ j : Nat, (Z.lw G i).2.get (j : Int) = if i < G.sectors ∧ j = G.base + i then wh (G.sec i) else Z.get (j : Int) := by
  have hfit := hG.fit
  unfold Dk.lw
  by_cases h1 : G.sectors ≤ i
  · rw [if_pos h1]
    exact ⟨rfl, h, fun j => by rw [if_neg (by omega)]⟩
  · rw [if_neg h1]
    obtain ⟨w1, w2, _⟩ := h.write (i := G.base + i) (by omega) (sec_len G i)
    refine ⟨w1, w2, fun j => ?_⟩
    rw [calm_get h (by omega) (sec_len G i)]
    by_cases hj : G.base + i = j
    · rw [if_pos hj, if_pos ⟨by omega, hj.symm⟩]
    · rw [if_neg hj, if_neg (by omega)]
theorem lws_calm {sb n : Nat} {G : Lg} (hG : G.ok n) : ∀ (k i : Nat) {Z : Dk}, Z.calm sb n → G.sectors + 1 ≤ k + i → (lws G k i Z).1 = 0 ∧ (lws G k i Z).2.calm sb n ∧ ∀ j : Nat, (lws G k i Z).2.get (j : Int) = if G.base + i ≤ j ∧ 58 * (j - G.base) < G.all.length then wh (G.sec (j - G.base)) else Z.get (j : Int)
  | 0, i, Z, h, hk => by
    have := hG.le
    refine ⟨rfl, h, fun j => ?_⟩
    rw [if_neg (by omega)]
    rfl
  | k + 1, i, Z, h, hk => by
    have hle := hG.le
    by_cases hi : 58 * i < G.all.length
    · obtain ⟨a1, a2, a3⟩ := lw_calm h hG i
      obtain ⟨b1, b2, b3⟩ := lws_calm hG k (i + 1) a2 (by omega)
      have e : lws G (k + 1) i Z = lws G k (i + 1) (Z.lw G i).2 := by
        show (if 58 * i < G.all.length then _ else _) = _
        rw [if_pos hi, if_pos a1]
      rw [e]
      refine ⟨b1, b2, fun j => ?_⟩
      rw [b3, a3]
      by_cases hj : j = G.base + i
      · rw [if_neg (by omega), if_pos ⟨by omega, hj⟩, if_pos ⟨by omega, by rw [hj, Nat.add_sub_cancel_left]; exact hi⟩, hj, Nat.add_sub_cancel_left]
      · by_cases hm : G.base + (i + 1) ≤ j ∧ 58 * (j - G.base) < G.all.length
        · rw [if_pos hm, if_pos ⟨by omega, hm.2⟩]
        · rw [if_neg hm, if_neg (by omega), if_neg (by omega)]
    · have e : lws G (k + 1) i Z = (0, Z) := by
        show (if 58 * i < G.all.length then _ else _) = _
        rw [if_neg hi]
      rw [e]
      refine ⟨rfl, h, fun j => ?_⟩
      rw [if_neg (by omega)]
end Go.Sp
/- What is scanned of a log's sectors. -/
namespace Go.Sp
open Go Go.Proofs
set_option linter.unusedSimpArgs false
set_option linter.unusedVariables false
set_option maxRecDepth 10000
def secb (r : Nat) (p : List UInt8) : List UInt8 := lowb (r : Int) 4 ++ lowb (p.length : Int) 2 ++ p
theorem sec_b (G : Lg) (i : Nat) : G.sec i = secb G.run (part G.all i) := rfl
def at4 (v : List UInt8) : Nat := be (v.take 4)
def n2 (v : List UInt8) : Nat := be ((v.drop 4).take 2)
theorem secb_rd {r : Nat} {p : List UInt8} (hr : r < 4294967296) (hp : p.length ≤ 58) : at4 (wh (secb r p)) = r ∧ n2 (wh (secb r p)) = p.length ∧ ((wh (secb r p)).drop 6).take p.length = p := by
  have l4 := lowb_len (r : Int) 4
  have l2 := lowb_len (p.length : Int) 2
  have e : wh (secb r p) = lowb (r : Int) 4 ++ (lowb (p.length : Int) 2 ++ (p ++ List.replicate (64 - (secb r p).length) 0)) := by
    unfold wh secb
    simp
  have b4 : be (lowb (r : Int) 4) = r := nat_eq (be_fits (by omega) (by rw [show ((256 ^ 4 : Nat) : Int) = 4294967296 by decide]; omega))
  have b2 : be (lowb (p.length : Int) 2) = p.length := nat_eq (be_fits (by omega) (by rw [show ((256 ^ 2 : Nat) : Int) = 65536 by decide]; omega))
  generalize List.replicate (64 - (secb r p).length) (0 : UInt8) = Y at e
  unfold at4 n2
  rw [e]
  refine ⟨by rw [List.take_left' l4, b4], by rw [List.drop_left' l4, List.take_left' l2, b2], ?_⟩
  have e2 : (lowb (r : Int) 4 ++ (lowb (p.length : Int) 2 ++ (p ++ Y))).drop 6 = p ++ Y := by
    rw [← List.append_assoc]
    exact List.drop_left' (by rw [List.length_append, l4, l2])
  rw [e2]
  exact List.take_left' rfl
def prv (ρ : Nat → Nat) (i : Nat) : Nat := if i = 0 then 1 else ρ (i - 1)
/-- What the sectors tell: their bytes go on, each in a run not ahead of the last, and behind them they stop. -/
structure Tells (Z : Dk) (base S : Nat) (all : List UInt8) (ρ : Nat → Nat) : Prop where
  secs : ∀ m, 58 * m < all.length → m < S → Z.get ((base + m : Nat) : Int) = wh (secb (ρ m) (part all m))
  mono : ∀ m, prv ρ m ≤ ρ m
  lt : ∀ m, ρ m < 4294967296
  stop : ∀ m, m < S → 58 * m = all.length → at4 (Z.get ((base + m : Nat) : Int)) < prv ρ m ∨ n2 (Z.get ((base + m : Nat) : Int)) = 0
  le : all.length ≤ 58 * S
theorem part_len (all : List UInt8) (i : Nat) : (part all i).length = min 58 (all.length - 58 * i) := by
  unfold part
  rw [List.length_take, List.length_drop]
end Go.Sp
/- Frames in a row are whole. -/
namespace Go.Sp
open Go Go.Proofs
set_option linter.unusedSimpArgs false
set_option linter.unusedVariables false
set_option maxRecDepth 10000
end Go.Sp
/- The log on a disk that nothing lets go: mend, Flush. -/
namespace Go.Sp
open Go Go.Proofs
set_option linter.unusedSimpArgs false
set_option linter.unusedVariables false
set_option maxRecDepth 10000
theorem lmend_calm {Z : Dk} {sb n : Nat} (h : Z.calm sb n) {G : Lg} (hG : G.ok n) : (Z.lmend G).1 = 0 ∧ (Z.lmend G).2.2 = G ∧ (Z.lmend G).2.1.calm sb n ∧ (Z.lmend G).2.1.es = [] ∧ ∀ j : Nat, j < n → (Z.lmend G).2.1.get (j : Int) = if G.durable / 58 < G.sectors ∧ j = G.base + G.durable / 58 then wh (G.sec (G.durable / 58)) else Z.get (j : Int) := by
  have hn : 0 < n := by have := hG.fit; have := hG.s1; omega
  obtain ⟨a1, a2, a3⟩ := lw_calm h hG (G.durable / 58)
  obtain ⟨b1, b2, b3, _, b5⟩ := a2.sync hn
  unfold Dk.lmend
  rw [if_pos a1]
  dsimp only
  refine ⟨b1, by rw [b1]; exact down_0 G, b2, b3, fun j hj => ?_⟩
  rw [b5 j hj, a3]
theorem lflush_calm {Z : Dk} {sb n : Nat} (h : Z.calm sb n) {G : Lg} (hG : G.ok n) (hd : G.dead = false) : (Z.lflush G).1 = 0 ∧ (Z.lflush G).2.2 = { G with durable := G.all.length } ∧ (Z.lflush G).2.1.calm sb n ∧ (G.durable < G.all.length → (Z.lflush G).2.1.es = []) ∧
    (G.durable = G.all.length → (Z.lflush G).2.1 = Z) ∧ ∀ j : Nat, j < n → (Z.lflush G).2.1.get (j : Int) = if G.durable < G.all.length ∧ G.base + G.durable / 58 ≤ j ∧ 58 * (j - G.base) < G.all.length then wh (G.sec (j - G.base)) else Z.get (j : Int) := by
  have hn : 0 < n := by have := hG.fit; have := hG.s1; omega
  have hdu := hG.du
  unfold Dk.lflush
  rw [if_neg (by rw [hd]; decide)]
  by_cases hq : G.durable = G.all.length
  · rw [if_pos hq]
    refine ⟨rfl, ?_, h, fun hlt => by omega, fun _ => rfl, fun j hj => by rw [if_neg (by omega)]⟩
    dsimp only
    rw [← hq]
  · rw [if_neg hq]
    obtain ⟨a1, a2, a3⟩ := lws_calm hG (G.sectors + 1) (G.durable / 58) h (by omega)
    obtain ⟨b1, b2, b3, _, b5⟩ := a2.sync hn
    dsimp only
    rw [if_pos a1, if_pos b1]
    refine ⟨rfl, rfl, b2, fun _ => b3, fun e => absurd e hq, fun j hj => ?_⟩
    dsimp only
    rw [b5 j hj, a3]
    by_cases hj2 : G.base + G.durable / 58 ≤ j ∧ 58 * (j - G.base) < G.all.length
    · rw [if_pos hj2, if_pos ⟨by omega, hj2⟩]
    · rw [if_neg hj2, if_neg (fun hx => hj2 hx.2)]
end Go.Sp
/- The log on a disk that nothing lets go: what its sectors tell stays so. -/
namespace Go.Sp
open Go Go.Proofs
set_option linter.unusedSimpArgs false
set_option linter.unusedVariables false
set_option maxRecDepth 10000
structure Wi (Z : Dk) (sb n : Nat) (G : Lg) (ρ : Nat → Nat) : Prop where
  calm : Z.calm sb n
  ok : G.ok n
  dead : G.dead = false
  tells : Tells Z G.base G.sectors (G.all.take G.durable) ρ
  top : ∀ m, 58 * m < G.durable → ρ m ≤ G.run
  fresh : ∀ m, m < G.sectors → G.durable < 58 * m → at4 (Z.get ((G.base + m : Nat) : Int)) < G.run
  edge : ∀ m, m < G.sectors → G.durable = 58 * m → at4 (Z.get ((G.base + m : Nat) : Int)) < G.run ∨ (at4 (Z.get ((G.base + m : Nat) : Int)) = G.run ∧ n2 (Z.get ((G.base + m : Nat) : Int)) = 0)
theorem Wi.append {Z : Dk} {sb n : Nat} {G : Lg} {ρ : Nat → Nat} (h : Wi Z sb n G ρ) {s : List UInt8} (hs : G.all.length + s.length ≤ 58 * G.sectors) : Wi Z sb n { G with all := G.all ++ s } ρ := by
  obtain ⟨a1, a2, a3, a4, a5, a6, a7⟩ := h
  have hdu := a2.du
  have e : (G.all ++ s).take G.durable = G.all.take G.durable := List.take_append_of_le_length hdu
  refine ⟨a1, ⟨a2.s1, a2.fit, a2.n1, a2.r1, a2.r2, by dsimp only; rw [List.length_append]; omega, by dsimp only; rw [List.length_append]; exact hs⟩, a3, ?_, a5, a6, a7⟩
  dsimp only
  rw [e]
  exact a4
theorem part_take {all : List UInt8} {d m : Nat} (h : 58 * m + 58 ≤ d) : part (all.take d) m = part all m := by
  unfold part
  rw [List.drop_take, List.take_take, show min 58 (d - 58 * m) = 58 by omega]
theorem Wi.flush {Z : Dk} {sb n : Nat} {G : Lg} {ρ : Nat → Nat} (h : Wi Z sb n G ρ) : ∃ ρ', Wi (Z.lflush G).2.1 sb n { G with durable := G.all.length } ρ' := by
  obtain ⟨a1, a2, a3, a4, a5, a6, a7⟩ := h
  have hdu := a2.du
  have hle := a2.le
  have hfit := a2.fit
  obtain ⟨l1, l2, l3, l4, l5, l6⟩ := lflush_calm a1 a2 a3
  by_cases hq : G.durable = G.all.length
  · refine ⟨ρ, ?_⟩
    rw [l5 hq, ← hq]
    exact ⟨a1, a2, a3, a4, a5, a6, a7⟩
  · have hget : ∀ m, m < G.sectors → (Z.lflush G).2.1.get ((G.base + m : Nat) : Int) = if G.durable / 58 ≤ m ∧ 58 * m < G.all.length then wh (G.sec m) else Z.get ((G.base + m : Nat) : Int) := fun m hm => by
      rw [l6 (G.base + m) (by omega)]
      have e : G.base + m - G.base = m := by omega
      rw [e]
      by_cases hc : G.durable / 58 ≤ m ∧ 58 * m < G.all.length
      · rw [if_pos hc, if_pos ⟨by omega, by omega, hc.2⟩]
      · rw [if_neg hc, if_neg (by omega)]
    refine ⟨fun m => if m < G.durable / 58 then ρ m else G.run, l3, ⟨a2.s1, a2.fit, a2.n1, a2.r1, a2.r2, Nat.le_refl _, hle⟩, a3, ?_, ?_, ?_, ?_⟩
    · dsimp only
      rw [List.take_length]
      refine ⟨fun m m1 m2 => ?_, fun m => ?_, fun m => ?_, fun m m1 m2 => ?_, hle⟩
      · rw [hget m m2]
        by_cases hm : m < G.durable / 58
        · rw [if_neg (by omega), if_pos hm, a4.secs m (by rw [List.length_take]; omega) m2, part_take (by omega)]
        · rw [if_pos ⟨by omega, m1⟩, if_neg hm]
          rfl
      · have hm0 := a4.mono m
        have hr := a2.r1
        unfold prv at hm0 ⊢
        by_cases m0 : m = 0
        · rw [if_pos m0] at hm0 ⊢
          split <;> omega
        · rw [if_neg m0] at hm0 ⊢
          dsimp only
          by_cases h1 : m < G.durable / 58
          · rw [if_pos (by omega), if_pos h1]; exact hm0
          · rw [if_neg h1]
            split
            · exact a5 (m - 1) (by omega)
            · exact Nat.le_refl _
      · split
        · exact a4.lt m
        · exact a2.r2
      · left
        rw [hget m m1, if_neg (by omega)]
        have hf := a6 m m1 (by omega)
        have hm0 : ¬ m = 0 := by omega
        unfold prv
        rw [if_neg hm0]
        dsimp only
        rw [if_neg (by omega)]
        exact hf
    · intro m hm
      dsimp only
      split
      · exact a5 m (by omega)
      · exact Nat.le_refl _
    · intro m m1 m2
      dsimp only at m1 m2 ⊢
      rw [hget m m1, if_neg (by omega)]
      exact a6 m m1 (by omega)
    · intro m m1 m2
      dsimp only at m1 m2 ⊢
      left
      rw [hget m m1, if_neg (by omega)]
      exact a6 m m1 (by omega)
end Go.Sp
/- The log on a disk that nothing lets go: it is mended, and found again. -/
namespace Go.Sp
open Go Go.Proofs
set_option linter.unusedSimpArgs false
set_option linter.unusedVariables false
set_option maxRecDepth 10000
/-- What is mended: the sector at the log's end is of this run, and what stands behind it is of an older one. -/
theorem mend_wi {Z : Dk} {sb n : Nat} {G : Lg} {ρ : Nat → Nat} (hc : Z.calm sb n) (hG : G.ok n) (hd : G.dead = false) (hdur : G.durable = G.all.length)
    (secs : ∀ m, 58 * m < G.durable → m < G.sectors → m < G.durable / 58 → Z.get ((G.base + m : Nat) : Int) = wh (secb (ρ m) (part G.all m)))
    (mono : ∀ m, prv ρ m ≤ ρ m) (lt : ∀ m, ρ m < 4294967296) (top : ∀ m, m < G.durable / 58 → ρ m ≤ G.run)
    (fresh : ∀ m, m < G.sectors → G.durable / 58 < m → at4 (Z.get ((G.base + m : Nat) : Int)) < G.run) :
    ∃ ρ', Wi (Z.lmend G).2.1 sb n G ρ' ∧ (Z.lmend G).1 = 0 ∧ (Z.lmend G).2.2 = G ∧ (Z.lmend G).2.1.es = [] := by
  obtain ⟨m1, m2, m3, m4, m5⟩ := lmend_calm hc hG
  have hfit := hG.fit
  have hle := hG.le
  have hget : ∀ m, m < G.sectors → (Z.lmend G).2.1.get ((G.base + m : Nat) : Int) = if m = G.durable / 58 then wh (G.sec m) else Z.get ((G.base + m : Nat) : Int) := fun m hm => by
    rw [m5 (G.base + m) (by omega)]
    by_cases e : m = G.durable / 58
    · rw [if_pos e, if_pos ⟨by omega, by omega⟩, e]
    · rw [if_neg e, if_neg (by omega)]
  have hr2 := hG.r2
  refine ⟨fun m => if m < G.durable / 58 then ρ m else G.run, ⟨m3, hG, hd, ?_, ?_, ?_, ?_⟩, m1, m2, m4⟩
  · rw [hdur, List.take_length, ← hdur]
    refine ⟨fun m a b => ?_, fun m => ?_, fun m => ?_, fun m a b => ?_, by omega⟩
    · rw [hget m b]
      by_cases hm : m < G.durable / 58
      · rw [if_neg (by omega), if_pos hm]
        exact secs m (by omega) b hm
      · have : m = G.durable / 58 := by omega
        rw [if_pos this, if_neg hm]
        rfl
    · have hm0 := mono m
      have hr := hG.r1
      unfold prv at hm0 ⊢
      by_cases m0 : m = 0
      · rw [if_pos m0] at hm0 ⊢
        split <;> omega
      · rw [if_neg m0] at hm0 ⊢
        dsimp only
        by_cases h1 : m < G.durable / 58
        · rw [if_pos (by omega), if_pos h1]; exact hm0
        · rw [if_neg h1]
          split
          · exact top (m - 1) (by omega)
          · exact Nat.le_refl _
    · split
      · exact lt m
      · exact hG.r2
    · right
      rw [hget m a, if_pos (by omega)]
      obtain ⟨_, b2, _⟩ := secb_rd (r := G.run) (p := part G.all m) hr2 (part_le G.all m)
      rw [sec_b, b2, part_len]
      omega
  · intro m hm
    split
    · exact top m (by omega)
    · exact Nat.le_refl _
  · intro m a b
    rw [hget m a, if_neg (by omega)]
    exact fresh m a (by omega)
  · intro m a b
    right
    rw [hget m a, if_pos (by omega)]
    obtain ⟨b1, b2, _⟩ := secb_rd (r := G.run) (p := part G.all m) hr2 (part_le G.all m)
    rw [sec_b]
    exact ⟨b1, by rw [b2, part_len]; omega⟩
end Go.Sp
/- The log on a disk that nothing lets go: Open, Cut, a loss of power. -/
namespace Go.Sp
open Go Go.Proofs
set_option linter.unusedSimpArgs false
set_option linter.unusedVariables false
set_option maxRecDepth 10000
/-- What is read stays so. -/
theorem Wi.mv {Z Y : Dk} {sb n : Nat} {G : Lg} {ρ : Nat → Nat} (h : Wi Z sb n G ρ) (hc : Y.calm sb n) (hg : ∀ j : Nat, j < n → Y.get (j : Int) = Z.get (j : Int)) : Wi Y sb n G ρ := by
  have hfit := h.ok.fit
  refine ⟨hc, h.ok, h.dead, ⟨fun m a b => ?_, h.tells.mono, h.tells.lt, fun m a b => ?_, h.tells.le⟩, h.top, fun m a b => ?_, fun m a b => ?_⟩
  · rw [hg _ (by omega)]; exact h.tells.secs m a b
  · rw [hg _ (by omega)]; exact h.tells.stop m a b
  · rw [hg _ (by omega)]; exact h.fresh m a b
  · rw [hg _ (by omega)]; exact h.edge m a b
theorem off_get {Z : Dk} {sb n : Nat} (h : Z.calm sb n) (he : Z.es = []) (keep : Int) (j : Nat) : (Z.off keep).on.get (j : Int) = Z.get (j : Int) := by
  obtain ⟨_, _, _, _, h5⟩ := h.off keep
  rcases h5 j with h6 | ⟨v, h6, _⟩
  · rw [h6]
    unfold Dk.get
    rw [he]
    simp [gk]
  · rw [he] at h6
    cases h6
theorem Wi.off {Z : Dk} {sb n : Nat} {G : Lg} {ρ : Nat → Nat} (h : Wi Z sb n G ρ) (he : Z.es = []) (keep : Int) : Wi (Z.off keep).on sb n G ρ :=
  h.mv (h.calm.off keep).1 fun j _ => off_get h.calm he keep j
theorem mend_zero {Z : Dk} {sb n q base S run : Nat} (hc : Z.calm sb n) (hz : ∀ m, m < S → at4 (Z.get ((base + m : Nat) : Int)) = 0) (hS : 1 ≤ S) (hf : base + S ≤ n) (hn : n ≤ 8192) (r1 : 1 ≤ run) (r2 : run < 4294967296) :
    ∃ ρ', Wi (Z.lmend ⟨q, base, S, run, [], 0, false⟩).2.1 sb n ⟨q, base, S, run, [], 0, false⟩ ρ' ∧ (Z.lmend ⟨q, base, S, run, [], 0, false⟩).1 = 0 ∧ (Z.lmend ⟨q, base, S, run, [], 0, false⟩).2.2 = ⟨q, base, S, run, [], 0, false⟩ ∧ (Z.lmend ⟨q, base, S, run, [], 0, false⟩).2.1.es = [] := by
  refine mend_wi (ρ := fun _ => 1) hc ⟨hS, hf, hn, r1, r2, Nat.le_refl _, by simp⟩ rfl rfl (fun m a => ?_) (fun m => ?_) (fun m => by decide) (fun m _ => r1) (fun m a _ => ?_)
  · simp at a
  · unfold prv; split <;> exact Nat.le_refl _
  · show at4 (Z.get ((base + m : Nat) : Int)) < run
    rw [hz m a]
    exact r1
end Go.Sp
/- The log on a disk that nothing lets go: its calls. -/
namespace Go.Sp
open Go Go.Proofs
set_option linter.unusedSimpArgs false
set_option linter.unusedVariables false
set_option maxRecDepth 10000
theorem at4_nil : at4 (wh []) = 0 := by decide
theorem new_get {sb bb mb n j : Nat} (h : j < n) : (Dk.new sb bb mb n).get (j : Int) = wh [] := by
  unfold Dk.get Dk.new
  simp [gk, h]
/-- What a record that is appended makes of a log that is not dead. -/
theorem append_is {G : Lg} (hd : G.dead = false) (c : Rc) : G.append c = if c.frame.2 = 0 then (if G.all.length + c.frame.1.length ≤ 58 * G.sectors then ((((G.all.length + 1 : Nat) : Int), 0), { G with all := G.all ++ c.frame.1 }) else ((0, 7), G)) else ((0, c.frame.2), G) := by
  unfold Lg.append Lg.add
  rw [if_neg (by rw [hd]; decide)]
  by_cases h0 : c.frame.2 = 0
  · rw [if_pos h0, if_pos h0]
    by_cases hq : G.all.length + c.frame.1.length ≤ 58 * G.sectors
    · rw [if_pos hq, if_neg (by omega)]
    · rw [if_neg hq, if_pos (by omega)]
  · rw [if_neg h0, if_neg h0]
theorem Wi.app {Z : Dk} {sb n : Nat} {G : Lg} {ρ : Nat → Nat} (h : Wi Z sb n G ρ) (c : Rc) : Wi Z sb n (G.append c).2 ρ := by
  rw [append_is h.dead]
  split
  · split
    · exact h.append (by assumption)
    · exact h
  · exact h
end Go.Sp
/- The pool's law on a disk that nothing lets go: what its pages are behind Need, a page's write, a sync. -/
namespace Go.Sp
open Go Go.Proofs
set_option linter.unusedSimpArgs false
set_option linter.unusedVariables false
set_option maxRecDepth 10000
theorem Wi.mvl {Z Y : Dk} {sb n : Nat} {G : Lg} {ρ : Nat → Nat} (h : Wi Z sb n G ρ) (hc : Y.calm sb n) (hg : ∀ m, m < G.sectors → Y.get ((G.base + m : Nat) : Int) = Z.get ((G.base + m : Nat) : Int)) : Wi Y sb n G ρ := by
  refine ⟨hc, h.ok, h.dead, ⟨fun m a b => ?_, h.tells.mono, h.tells.lt, fun m a b => ?_, h.tells.le⟩, h.top, fun m a b => ?_, fun m a b => ?_⟩
  · rw [hg _ b]; exact h.tells.secs m a b
  · rw [hg _ a]; exact h.tells.stop m a b
  · rw [hg _ a]; exact h.fresh m a b
  · rw [hg _ a]; exact h.edge m a b
theorem lneed_calm {Z : Dk} {sb n : Nat} {G : Lg} {ρ : Nat → Nat} (h : Wi Z sb n G ρ) (lsn : Int) : ∃ (Y : Dk) (ρ' : Nat → Nat) (d : Nat), Z.lneed G lsn = (0, Y, { G with durable := d }) ∧ Wi Y sb n { G with durable := d } ρ' ∧ G.durable ≤ d ∧ d ≤ G.all.length ∧ (lsn ≤ (G.all.length : Int) → lsn ≤ (d : Int)) ∧
    ∀ j, G.base + G.sectors ≤ j → j < n → Y.get ((j : Nat) : Int) = Z.get ((j : Nat) : Int) := by
  have hdu := h.ok.du
  have hle := h.ok.le
  unfold Dk.lneed
  rw [if_neg (by rw [h.dead]; decide)]
  by_cases hc : lsn < (G.durable : Int) + 1
  · rw [if_pos hc]
    exact ⟨Z, ρ, G.durable, rfl, h, Nat.le_refl _, hdu, fun _ => by omega, fun j _ _ => rfl⟩
  · rw [if_neg hc]
    obtain ⟨ρ', hW⟩ := h.flush
    obtain ⟨l1, l2, l3, l4, l5, l6⟩ := lflush_calm h.calm h.ok h.dead
    refine ⟨(Z.lflush G).2.1, ρ', G.all.length, Prod.ext l1 (Prod.ext rfl l2), hW, hdu, Nat.le_refl _, fun x => x, fun j h1 h2 => ?_⟩
    rw [l6 j h2, if_neg (by omega)]
/-- A page is written. -/
theorem wpg_calm {Z : Dk} {sb n : Nat} (h : Z.calm sb n) {S : St} (hS : S.ok n) {p : Nat} (hp : p < S.pages) {text : List UInt8} (ht : text.length = 224) {lsn : Int} (h0 : 0 ≤ lsn) (h1 : lsn < 281474976710656) :
    (Z.wpg S (p : Int) text lsn).1 = 0 ∧ (Z.wpg S (p : Int) text lsn).2.calm sb n ∧ ∀ j : Nat, (Z.wpg S (p : Int) text lsn).2.get (j : Int) = if S.base + 4 * p ≤ j ∧ j < S.base + 4 * p + 4 then mk8 S.gen lsn ++ pt text (j - (S.base + 4 * p)) else Z.get (j : Int) := by
  have hc : S.chk (p : Int) = 0 := by unfold St.chk; rw [if_neg (by omega)]
  have hfit := hS.fit
  obtain ⟨a1, a2, a3, a4⟩ := h.wp (a := S.base + 4 * p) (by omega) (mk8_len S.gen lsn) ht 4 (Nat.le_refl _)
  have e : Z.wpg S (p : Int) text lsn = Z.wp (S.base + 4 * p) (mk8 S.gen lsn) text 4 := by
    unfold Dk.wpg
    rw [if_pos hc, if_pos ht, if_neg (by omega), Int.toNat_natCast]
  rw [e]
  refine ⟨a1, a2, fun j => ?_⟩
  unfold Dk.get
  rw [a4, a3]
  by_cases hj : S.base + 4 * p ≤ j ∧ j < S.base + 4 * p + 4
  · rw [if_pos hj, if_pos hj]
    rfl
  · rw [if_neg hj, if_neg hj]
/-- What is read of a page hangs on its sectors alone. -/
theorem rpg_same {Z Y : Dk} {S : St} {n p : Nat} (hS : S.ok n) (hp : p < S.pages) (hu : Y.up = Z.up) (hg : ∀ i, i < 4 → Y.get ((S.base + 4 * p + i : Nat) : Int) = Z.get ((S.base + 4 * p + i : Nat) : Int)) : Y.rpg S (p : Int) = Z.rpg S (p : Int) := by
  have h0 : Y.sc (S.base + 4 * p) 0 = Z.sc (S.base + 4 * p) 0 := hg 0 (by decide)
  have h1 : Y.sc (S.base + 4 * p) 1 = Z.sc (S.base + 4 * p) 1 := hg 1 (by decide)
  have h2 : Y.sc (S.base + 4 * p) 2 = Z.sc (S.base + 4 * p) 2 := hg 2 (by decide)
  have h3 : Y.sc (S.base + 4 * p) 3 = Z.sc (S.base + 4 * p) 3 := hg 3 (by decide)
  have e1 : Y.rsm (S.base + 4 * p) S.gen 4 = Z.rsm (S.base + 4 * p) S.gen 4 := by simp only [Dk.rsm, h0, h1, h2, h3]
  have e2 : Y.rwh (S.base + 4 * p) 4 = Z.rwh (S.base + 4 * p) 4 := by simp only [Dk.rwh, h0, h1, h2, h3]
  have e3 : Y.rtx (S.base + 4 * p) 4 = Z.rtx (S.base + 4 * p) 4 := by simp only [Dk.rtx, h0, h1, h2, h3]
  unfold Dk.rpg
  rw [Int.toNat_natCast, e1, e2, e3, h0, hu]
/-- A page of which nothing was written. -/
theorem rpg_none {Z : Dk} {S : St} {n p : Nat} (hS : S.ok n) (hp : p < S.pages) (hu : Z.up = true) (hg : ∀ i, i < 4 → Z.get ((S.base + 4 * p + i : Nat) : Int) = wh []) : Z.rpg S (p : Int) = ([], 0, 8) := by
  have hc : S.chk (p : Int) = 0 := by unfold St.chk; rw [if_neg (by omega)]
  have hg1 := hS.g1
  have h0 : Z.sc (S.base + 4 * p) 0 = wh [] := hg 0 (by decide)
  have h1 : Z.sc (S.base + 4 * p) 1 = wh [] := hg 1 (by decide)
  have h2 : Z.sc (S.base + 4 * p) 2 = wh [] := hg 2 (by decide)
  have h3 : Z.sc (S.base + 4 * p) 3 = wh [] := hg 3 (by decide)
  have e : be ((wh []).take 2) = 0 := by decide
  have e1 : Z.rsm (S.base + 4 * p) S.gen 4 = false := by
    simp only [Dk.rsm, h0, h1, h2, h3, e]
    simp
    omega
  unfold Dk.rpg
  rw [if_pos hc, hu, if_pos rfl, Int.toNat_natCast, e1, if_neg (by decide)]
/-- A frame's page is saved: its log lasts as far, the page is on the disk, all else is as it was. -/
theorem svp_calm {S : St} {sb : Nat} {w : Wo} {ρ : Nat → Nat} (h : w.ok S sb 80) (hw : Wi w.Z sb 80 w.G ρ) (hb : w.G.base + w.G.sectors ≤ S.base) {i : Nat} (hi : i < w.P.fs.length) {p : Nat} (hid : (w.P.at i).id = (p : Int)) (hp : p < S.pages)
    (hd : (w.P.at i).dirty = true) (ht : (w.P.at i).text.length = 224) (h0 : 1 ≤ (w.P.at i).lsn) (h1 : (w.P.at i).lsn ≤ (w.G.all.length : Int)) :
    ∃ (Y : Dk) (ρ' : Nat → Nat) (d : Nat), svp S w i = (0, ⟨w.P.cln i, { w.G with durable := d }, Y⟩) ∧ Wi Y sb 80 { w.G with durable := d } ρ' ∧ w.G.durable ≤ d ∧ (w.P.at i).lsn ≤ (d : Int) ∧ Y.rpg S (p : Int) = ((w.P.at i).text, (w.P.at i).lsn, 0) ∧
      ∀ q, q < S.pages → q ≠ p → Y.rpg S (q : Int) = w.Z.rpg S (q : Int) := by
  obtain ⟨P, G, Z⟩ := w
  dsimp only at hw hb hi hid hd ht h0 h1 ⊢
  have hS := h.s
  have hfit := hS.fit
  have hle := hw.ok.le
  have hf2 := hw.ok.fit
  obtain ⟨Y1, ρ1, d, e1, W1, d1, d2, d3, g1⟩ := lneed_calm hw (P.at i).lsn
  obtain ⟨a1, a2, a3⟩ := wpg_calm W1.calm hS hp ht (lsn := (P.at i).lsn) (by omega) (by omega)
  obtain ⟨b1, b2, b3, _, b5⟩ := a2.sync (by decide)
  have W2 : Wi (Y1.wpg S (p : Int) (P.at i).text (P.at i).lsn).2.sync.2 sb 80 { G with durable := d } ρ1 := by
    refine W1.mvl b2 fun m hm => ?_
    dsimp only at hm ⊢
    rw [b5 _ (by omega), a3, if_neg (by omega)]
  refine ⟨_, ρ1, d, ?_, W2, d1, d3 h1, ?_, fun q hq hne => ?_⟩
  · unfold svp
    dsimp only
    rw [if_neg (by rw [hd]; decide), e1]
    dsimp only
    rw [if_neg (by simp), hid]
    generalize hV : Y1.wpg S (p : Int) (P.at i).text (P.at i).lsn = V at *
    rw [if_neg (by rw [a1]; simp), if_neg (by rw [b1]; simp)]
  · refine rpg_of hS hp b2.up ht (by omega) (by omega) fun k hk => ?_
    show Dk.get _ _ = _
    rw [b5 _ (by omega), a3, if_pos (by omega), show S.base + 4 * p + k - (S.base + 4 * p) = k by omega]
  · refine rpg_same hS hq (b2.up.trans hw.calm.up.symm) fun k hk => ?_
    rw [b5 _ (by omega), a3, if_neg (by omega), g1 _ (by omega) (by omega)]
end Go.Sp
/- The pool: hold. -/
namespace Go.Sp
open Go Go.Proofs
set_option linter.unusedSimpArgs false
set_option linter.unusedVariables false
set_option maxRecDepth 10000
theorem ppt_fs (P : Po) (fs : List Fr) (hl : fs.length = P.fs.length) : ppt { P with fs := fs } = ppt P := by
  show ar P.q 96 [_, _, .slice (some ⟨P.fb, 0, none⟩) fs.length fs.length, _, _, _] = _
  rw [hl]
set_option maxHeartbeats 4000000 in
theorem g90 (S : St) (sb n : Nat) (w : Wo) (h : w.ok S sb n) (id : Int) : Fq (eT2 eP eI) Tryz.prog 90 #[w.P.p, .int .i64 id] (wos S sb w) (wos S sb (hld S w id).2) ((hld S w id).1.1.map w.P.f, (hld S w id).1.2) := fun L => by
  have FN := g91 w.P h.p id
  have RD := f49 S w.Z h.z (by rw [h.nn]; exact h.s) id
  have VC := g120 w.P h.p
  have VL := vic_like (2 * w.P.fs.length + 1) w.P h.p
  rw [h.sb] at RD
  generalize hR : hld S w id = R
  unfold hld at hR
  obtain ⟨P, G, Z⟩ := w
  obtain ⟨hp, hz, hsb, hn, hg, hs, hst, hlg⟩ := h
  dsimp only at hp hz hsb hn hg hst hlg FN RD VC VL hR
  unfold wos
  dsimp only
  refine c90_fn rfl rfl ?_
  cases hf : P.find id with
  | some i =>
    rw [hf] at FN hR
    dsimp only [Option.map] at FN hR
    have hi := find_lt hf
    have hx := at_get hi
    have hu : P.use i = { P with fs := P.fs.set i { P.at i with used := true } } := rfl
    generalize P.at i = f at *
    rw [hu] at hR
    subst hR
    repeat' ((fail_if_success with_reducible refine nph ?_); first | (with_reducible first | (refine d_seq ?_; intro K hK) | (refine hK _ _ ?_; clear hK K) | (refine SG.p ?_; try intro b)) | ((with_reducible refine SC.p ?_); refine And.intro ?_ ?_) <;> intro hc <;> try simp only [push_cast, Int.reduceEq, Int.reduceLT, Int.reduceLE, Int.reduceNe] at hc | with_reducible refine r_rq (by first | decide | omega) ?_ | ((with_reducible refine SL.p ?_); first | refine ⟨_, rfl, ?_⟩ | refine ⟨_, _, _, rfl, ?_⟩ | (refine ⟨?_, rfl, ?_⟩; focus (simp; done))) | ((with_reducible first | apply i_ldn | apply i_ldnq); exact rfl; exact rfl; exact rfl) | ((try with_reducible refine d_reg ?_); simp only [go_sem, Nat.reduceAdd, Nat.reduceEqDiff, Int.reduceToNat, Nat.reduceMul, Nat.reduceSub]) | clear hK K)
    refine i_clp FN ?_
    repeat' ((fail_if_success with_reducible refine nph ?_); first | (with_reducible first | (refine d_seq ?_; intro K hK) | (refine hK _ _ ?_; clear hK K) | (refine SG.p ?_; try intro b)) | ((with_reducible refine SC.p ?_); refine And.intro ?_ ?_) <;> intro hc <;> try simp only [push_cast, Int.reduceEq, Int.reduceLT, Int.reduceLE, Int.reduceNe] at hc | with_reducible refine r_rq (by first | decide | omega) ?_ | ((with_reducible refine SL.p ?_); first | refine ⟨_, rfl, ?_⟩ | refine ⟨_, _, _, rfl, ?_⟩ | (refine ⟨?_, rfl, ?_⟩; focus (simp; done))) | ((with_reducible first | apply i_ldn | apply i_ldnq); exact rfl; exact rfl; exact rfl) | ((try with_reducible refine d_reg ?_); simp only [go_sem, Nat.reduceAdd, Nat.reduceEqDiff, Int.reduceToNat, Nat.reduceMul, Nat.reduceSub]) | clear hK K)
    all_goals try contradiction
    refine i_fs (j := 6) (v := .bool true) cFr_len hx { f with used := true } rfl rfl rfl ?_
    repeat' ((fail_if_success with_reducible refine nph ?_); first | (with_reducible first | (refine d_seq ?_; intro K hK) | (refine hK _ _ ?_; clear hK K) | (refine SG.p ?_; try intro b)) | ((with_reducible refine SC.p ?_); refine And.intro ?_ ?_) <;> intro hc <;> try simp only [push_cast, Int.reduceEq, Int.reduceLT, Int.reduceLE, Int.reduceNe] at hc | with_reducible refine r_rq (by first | decide | omega) ?_ | ((with_reducible refine SL.p ?_); first | refine ⟨_, rfl, ?_⟩ | refine ⟨_, _, _, rfl, ?_⟩ | (refine ⟨?_, rfl, ?_⟩; focus (simp; done))) | ((with_reducible first | apply i_ldn | apply i_ldnq); exact rfl; exact rfl; exact rfl) | ((try with_reducible refine d_reg ?_); simp only [go_sem, Nat.reduceAdd, Nat.reduceEqDiff, Int.reduceToNat, Nat.reduceMul, Nat.reduceSub]) | clear hK K)
    have hl : (P.fs.set i { f with used := true }).length = P.fs.length := List.length_set
    generalize P.fs.set i { f with used := true } = fs' at *
    rw [ppt_fs P fs' hl]
    (with_reducible first | apply i_ret0 | apply i_ret2 | apply i_ret3 | apply i_ret); exact rfl
    rfl
  | none =>
    rw [hf] at FN hR
    dsimp only [Option.map] at FN hR
    generalize Z.rpg S id = r at *
    obtain ⟨text, lsn, e⟩ := r
    unfold hl1 at hR
    dsimp only at hR
    by_cases hc0 : e ≠ 0 ∧ e ≠ 8 ∧ e ≠ 10
    · rw [if_pos hc0] at hR
      subst hR
      repeat' ((fail_if_success with_reducible refine nph ?_); first | (with_reducible first | (refine d_seq ?_; intro K hK) | (refine hK _ _ ?_; clear hK K) | (refine SG.p ?_; try intro b)) | ((with_reducible refine SC.p ?_); refine And.intro ?_ ?_) <;> intro hc <;> try simp only [push_cast, Int.reduceEq, Int.reduceLT, Int.reduceLE, Int.reduceNe] at hc | with_reducible refine r_rq (by first | decide | omega) ?_ | ((with_reducible refine SL.p ?_); first | refine ⟨_, rfl, ?_⟩ | refine ⟨_, _, _, rfl, ?_⟩ | (refine ⟨?_, rfl, ?_⟩; focus (simp; done))) | ((with_reducible first | apply i_ldn | apply i_ldnq); exact rfl; exact rfl; exact rfl) | ((try with_reducible refine d_reg ?_); simp only [go_sem, Nat.reduceAdd, Nat.reduceEqDiff, Int.reduceToNat, Nat.reduceMul, Nat.reduceSub]) | clear hK K)
      refine i_clp FN ?_
      repeat' ((fail_if_success with_reducible refine nph ?_); first | (with_reducible first | (refine d_seq ?_; intro K hK) | (refine hK _ _ ?_; clear hK K) | (refine SG.p ?_; try intro b)) | ((with_reducible refine SC.p ?_); refine And.intro ?_ ?_) <;> intro hc <;> try simp only [push_cast, Int.reduceEq, Int.reduceLT, Int.reduceLE, Int.reduceNe] at hc | with_reducible refine r_rq (by first | decide | omega) ?_ | ((with_reducible refine SL.p ?_); first | refine ⟨_, rfl, ?_⟩ | refine ⟨_, _, _, rfl, ?_⟩ | (refine ⟨?_, rfl, ?_⟩; focus (simp; done))) | ((with_reducible first | apply i_ldn | apply i_ldnq); exact rfl; exact rfl; exact rfl) | ((try with_reducible refine d_reg ?_); simp only [go_sem, Nat.reduceAdd, Nat.reduceEqDiff, Int.reduceToNat, Nat.reduceMul, Nat.reduceSub]) | clear hK K)
      all_goals try contradiction
      rw [hst]
      refine i_clp RD ?_
      repeat' ((fail_if_success with_reducible refine nph ?_); first | (with_reducible first | (refine d_seq ?_; intro K hK) | (refine hK _ _ ?_; clear hK K) | (refine SG.p ?_; try intro b)) | ((with_reducible refine SC.p ?_); refine And.intro ?_ ?_) <;> intro hc <;> try simp only [push_cast, Int.reduceEq, Int.reduceLT, Int.reduceLE, Int.reduceNe] at hc | with_reducible refine r_rq (by first | decide | omega) ?_ | ((with_reducible refine SL.p ?_); first | refine ⟨_, rfl, ?_⟩ | refine ⟨_, _, _, rfl, ?_⟩ | (refine ⟨?_, rfl, ?_⟩; focus (simp; done))) | ((with_reducible first | apply i_ldn | apply i_ldnq); exact rfl; exact rfl; exact rfl) | ((try with_reducible refine d_reg ?_); simp only [go_sem, Nat.reduceAdd, Nat.reduceEqDiff, Int.reduceToNat, Nat.reduceMul, Nat.reduceSub]) | clear hK K)
      all_goals try (exfalso; omega)
      all_goals try contradiction
      (with_reducible first | apply i_ret0 | apply i_ret2 | apply i_ret3 | apply i_ret); exact rfl
      rfl
    · rw [if_neg hc0] at hR
      generalize vic (2 * P.fs.length + 1) P = v at *
      obtain ⟨o, ⟨vq, vfb, vst, vlg, vfs, vhd, vwr, vld⟩⟩ := v
      obtain ⟨⟨q1, q2, q3, q4, q5⟩, vok, vlt⟩ := VL
      dsimp only at q1 q2 q3 q4 q5 vlt VC
      subst q1 q2 q3 q4
      unfold hl2 at hR
      dsimp only at hR
      cases o with
      | none =>
        dsimp only [Option.map, Option.isSome] at hR VC
        subst hR
        repeat' ((fail_if_success with_reducible refine nph ?_); first | (with_reducible first | (refine d_seq ?_; intro K hK) | (refine hK _ _ ?_; clear hK K) | (refine SG.p ?_; try intro b)) | ((with_reducible refine SC.p ?_); refine And.intro ?_ ?_) <;> intro hc <;> try simp only [push_cast, Int.reduceEq, Int.reduceLT, Int.reduceLE, Int.reduceNe] at hc | with_reducible refine r_rq (by first | decide | omega) ?_ | ((with_reducible refine SL.p ?_); first | refine ⟨_, rfl, ?_⟩ | refine ⟨_, _, _, rfl, ?_⟩ | (refine ⟨?_, rfl, ?_⟩; focus (simp; done))) | ((with_reducible first | apply i_ldn | apply i_ldnq); exact rfl; exact rfl; exact rfl) | ((try with_reducible refine d_reg ?_); simp only [go_sem, Nat.reduceAdd, Nat.reduceEqDiff, Int.reduceToNat, Nat.reduceMul, Nat.reduceSub]) | clear hK K)
        refine i_clp FN ?_
        repeat' ((fail_if_success with_reducible refine nph ?_); first | (with_reducible first | (refine d_seq ?_; intro K hK) | (refine hK _ _ ?_; clear hK K) | (refine SG.p ?_; try intro b)) | ((with_reducible refine SC.p ?_); refine And.intro ?_ ?_) <;> intro hc <;> try simp only [push_cast, Int.reduceEq, Int.reduceLT, Int.reduceLE, Int.reduceNe] at hc | with_reducible refine r_rq (by first | decide | omega) ?_ | ((with_reducible refine SL.p ?_); first | refine ⟨_, rfl, ?_⟩ | refine ⟨_, _, _, rfl, ?_⟩ | (refine ⟨?_, rfl, ?_⟩; focus (simp; done))) | ((with_reducible first | apply i_ldn | apply i_ldnq); exact rfl; exact rfl; exact rfl) | ((try with_reducible refine d_reg ?_); simp only [go_sem, Nat.reduceAdd, Nat.reduceEqDiff, Int.reduceToNat, Nat.reduceMul, Nat.reduceSub]) | clear hK K)
        all_goals try contradiction
        rw [hst]
        refine i_clp RD ?_
        repeat' ((fail_if_success with_reducible refine nph ?_); first | (with_reducible first | (refine d_seq ?_; intro K hK) | (refine hK _ _ ?_; clear hK K) | (refine SG.p ?_; try intro b)) | ((with_reducible refine SC.p ?_); refine And.intro ?_ ?_) <;> intro hc <;> try simp only [push_cast, Int.reduceEq, Int.reduceLT, Int.reduceLE, Int.reduceNe] at hc | with_reducible refine r_rq (by first | decide | omega) ?_ | ((with_reducible refine SL.p ?_); first | refine ⟨_, rfl, ?_⟩ | refine ⟨_, _, _, rfl, ?_⟩ | (refine ⟨?_, rfl, ?_⟩; focus (simp; done))) | ((with_reducible first | apply i_ldn | apply i_ldnq); exact rfl; exact rfl; exact rfl) | ((try with_reducible refine d_reg ?_); simp only [go_sem, Nat.reduceAdd, Nat.reduceEqDiff, Int.reduceToNat, Nat.reduceMul, Nat.reduceSub]) | clear hK K)
        all_goals try (exfalso; omega)
        all_goals try contradiction
        all_goals
          refine i_clq VC ?_
          repeat' ((fail_if_success with_reducible refine nph ?_); first | (with_reducible first | (refine d_seq ?_; intro K hK) | (refine hK _ _ ?_; clear hK K) | (refine SG.p ?_; try intro b)) | ((with_reducible refine SC.p ?_); refine And.intro ?_ ?_) <;> intro hc <;> try simp only [push_cast, Int.reduceEq, Int.reduceLT, Int.reduceLE, Int.reduceNe] at hc | with_reducible refine r_rq (by first | decide | omega) ?_ | ((with_reducible refine SL.p ?_); first | refine ⟨_, rfl, ?_⟩ | refine ⟨_, _, _, rfl, ?_⟩ | (refine ⟨?_, rfl, ?_⟩; focus (simp; done))) | ((with_reducible first | apply i_ldn | apply i_ldnq); exact rfl; exact rfl; exact rfl) | ((try with_reducible refine d_reg ?_); simp only [go_sem, Nat.reduceAdd, Nat.reduceEqDiff, Int.reduceToNat, Nat.reduceMul, Nat.reduceSub]) | clear hK K)
          all_goals try contradiction
          (with_reducible first | apply i_ret0 | apply i_ret2 | apply i_ret3 | apply i_ret); exact rfl
          rfl
      | some i =>
        dsimp only [Option.map, Option.isSome] at hR VC
        have hi := vlt i rfl
        generalize hV : (⟨P.q, P.fb, P.st, P.lg, vfs, vhd, vwr, vld⟩ : Po) = V at *
        have hVq : V.q = P.q := by rw [← hV]
        have hVb : V.fb = P.fb := by rw [← hV]
        have hVf : V.fs = vfs := by rw [← hV]
        have hVs : V.st = P.st := by rw [← hV]
        have hVl : V.lg = P.lg := by rw [← hV]
        have hiV : i < V.fs.length := by rw [hVf]; omega
        have hfi : P.f i = V.f i := by show (⟨P.fb, _, _⟩ : Addr) = ⟨V.fb, _, _⟩; rw [hVb]
        rw [hfi] at VC
        have hx := at_get hiV
        have SV := g95 S sb n ⟨V, G, Z⟩ ⟨vok, hz, hsb, hn, hg, hs, hVs.trans hst, hVl.trans hlg⟩ i hiV
        obtain ⟨sok, slk, sg⟩ := svp_ok (w := ⟨V, G, Z⟩) ⟨vok, hz, hsb, hn, hg, hs, hVs.trans hst, hVl.trans hlg⟩ hiV
        generalize svp S ⟨V, G, Z⟩ i = sv at *
        obtain ⟨e2, ⟨P2, G2, Z2⟩⟩ := sv
        dsimp only at hR SV sok slk sg
        repeat' ((fail_if_success with_reducible refine nph ?_); first | (with_reducible first | (refine d_seq ?_; intro K hK) | (refine hK _ _ ?_; clear hK K) | (refine SG.p ?_; try intro b)) | ((with_reducible refine SC.p ?_); refine And.intro ?_ ?_) <;> intro hc <;> try simp only [push_cast, Int.reduceEq, Int.reduceLT, Int.reduceLE, Int.reduceNe] at hc | with_reducible refine r_rq (by first | decide | omega) ?_ | ((with_reducible refine SL.p ?_); first | refine ⟨_, rfl, ?_⟩ | refine ⟨_, _, _, rfl, ?_⟩ | (refine ⟨?_, rfl, ?_⟩; focus (simp; done))) | ((with_reducible first | apply i_ldn | apply i_ldnq); exact rfl; exact rfl; exact rfl) | ((try with_reducible refine d_reg ?_); simp only [go_sem, Nat.reduceAdd, Nat.reduceEqDiff, Int.reduceToNat, Nat.reduceMul, Nat.reduceSub]) | clear hK K)
        refine i_clp FN ?_
        repeat' ((fail_if_success with_reducible refine nph ?_); first | (with_reducible first | (refine d_seq ?_; intro K hK) | (refine hK _ _ ?_; clear hK K) | (refine SG.p ?_; try intro b)) | ((with_reducible refine SC.p ?_); refine And.intro ?_ ?_) <;> intro hc <;> try simp only [push_cast, Int.reduceEq, Int.reduceLT, Int.reduceLE, Int.reduceNe] at hc | with_reducible refine r_rq (by first | decide | omega) ?_ | ((with_reducible refine SL.p ?_); first | refine ⟨_, rfl, ?_⟩ | refine ⟨_, _, _, rfl, ?_⟩ | (refine ⟨?_, rfl, ?_⟩; focus (simp; done))) | ((with_reducible first | apply i_ldn | apply i_ldnq); exact rfl; exact rfl; exact rfl) | ((try with_reducible refine d_reg ?_); simp only [go_sem, Nat.reduceAdd, Nat.reduceEqDiff, Int.reduceToNat, Nat.reduceMul, Nat.reduceSub]) | clear hK K)
        all_goals try contradiction
        rw [hst]
        refine i_clp RD ?_
        repeat' ((fail_if_success with_reducible refine nph ?_); first | (with_reducible first | (refine d_seq ?_; intro K hK) | (refine hK _ _ ?_; clear hK K) | (refine SG.p ?_; try intro b)) | ((with_reducible refine SC.p ?_); refine And.intro ?_ ?_) <;> intro hc <;> try simp only [push_cast, Int.reduceEq, Int.reduceLT, Int.reduceLE, Int.reduceNe] at hc | with_reducible refine r_rq (by first | decide | omega) ?_ | ((with_reducible refine SL.p ?_); first | refine ⟨_, rfl, ?_⟩ | refine ⟨_, _, _, rfl, ?_⟩ | (refine ⟨?_, rfl, ?_⟩; focus (simp; done))) | ((with_reducible first | apply i_ldn | apply i_ldnq); exact rfl; exact rfl; exact rfl) | ((try with_reducible refine d_reg ?_); simp only [go_sem, Nat.reduceAdd, Nat.reduceEqDiff, Int.reduceToNat, Nat.reduceMul, Nat.reduceSub]) | clear hK K)
        all_goals try (exfalso; omega)
        all_goals try contradiction
        all_goals
          refine i_clq VC ?_
          rw [← hVq]
          repeat' ((fail_if_success with_reducible refine nph ?_); first | (with_reducible first | (refine d_seq ?_; intro K hK) | (refine hK _ _ ?_; clear hK K) | (refine SG.p ?_; try intro b)) | ((with_reducible refine SC.p ?_); refine And.intro ?_ ?_) <;> intro hc <;> try simp only [push_cast, Int.reduceEq, Int.reduceLT, Int.reduceLE, Int.reduceNe] at hc | with_reducible refine r_rq (by first | decide | omega) ?_ | ((with_reducible refine SL.p ?_); first | refine ⟨_, rfl, ?_⟩ | refine ⟨_, _, _, rfl, ?_⟩ | (refine ⟨?_, rfl, ?_⟩; focus (simp; done))) | ((with_reducible first | apply i_ldn | apply i_ldnq); exact rfl; exact rfl; exact rfl) | ((try with_reducible refine d_reg ?_); simp only [go_sem, Nat.reduceAdd, Nat.reduceEqDiff, Int.reduceToNat, Nat.reduceMul, Nat.reduceSub]) | clear hK K)
          all_goals try contradiction
          refine i_fl (e := eB) (y := (V.at i).filled) cFr_len hx rfl ?_
          by_cases c5 : (V.at i).filled = true
          · rw [c5]
            rw [if_pos c5] at hR
            repeat' ((fail_if_success with_reducible refine nph ?_); first | (with_reducible first | (refine d_seq ?_; intro K hK) | (refine hK _ _ ?_; clear hK K) | (refine SG.p ?_; try intro b)) | ((with_reducible refine SC.p ?_); refine And.intro ?_ ?_) <;> intro hc <;> try simp only [push_cast, Int.reduceEq, Int.reduceLT, Int.reduceLE, Int.reduceNe] at hc | with_reducible refine r_rq (by first | decide | omega) ?_ | ((with_reducible refine SL.p ?_); first | refine ⟨_, rfl, ?_⟩ | refine ⟨_, _, _, rfl, ?_⟩ | (refine ⟨?_, rfl, ?_⟩; focus (simp; done))) | ((with_reducible first | apply i_ldn | apply i_ldnq); exact rfl; exact rfl; exact rfl) | ((try with_reducible refine d_reg ?_); simp only [go_sem, Nat.reduceAdd, Nat.reduceEqDiff, Int.reduceToNat, Nat.reduceMul, Nat.reduceSub]) | clear hK K)
            all_goals try contradiction
            refine i_clq SV ?_
            by_cases c6 : e2 = 0
            · subst c6
              rw [if_pos rfl] at hR
              have hi2 : i < P2.fs.length := by rw [slk.n]; exact hiV
              have hx2 := at_get hi2
              have hfi2 : V.f i = P2.f i := by show (⟨V.fb, _, _⟩ : Addr) = ⟨P2.fb, _, _⟩; rw [slk.fb]
              have hu : P2.put i (nfr (text, lsn, e) id) = { P2 with fs := P2.fs.set i (nfr (text, lsn, e) id), loads := IntKind.wrap .i64 (P2.loads + 1) } := rfl
              rw [hu] at hR
              subst hR
              rw [← slk.q, hfi2]
              dsimp only
              repeat' ((fail_if_success with_reducible refine nph ?_); first | (with_reducible first | (refine d_seq ?_; intro K hK) | (refine hK _ _ ?_; clear hK K) | (refine SG.p ?_; try intro b)) | ((with_reducible refine SC.p ?_); refine And.intro ?_ ?_) <;> intro hc <;> try simp only [push_cast, Int.reduceEq, Int.reduceLT, Int.reduceLE, Int.reduceNe] at hc | with_reducible refine r_rq (by first | decide | omega) ?_ | ((with_reducible refine SL.p ?_); first | refine ⟨_, rfl, ?_⟩ | refine ⟨_, _, _, rfl, ?_⟩ | (refine ⟨?_, rfl, ?_⟩; focus (simp; done))) | ((with_reducible first | apply i_ldn | apply i_ldnq); exact rfl; exact rfl; exact rfl) | ((try with_reducible refine d_reg ?_); simp only [go_sem, Nat.reduceAdd, Nat.reduceEqDiff, Int.reduceToNat, Nat.reduceMul, Nat.reduceSub]) | clear hK K)
              all_goals try contradiction
              refine i_fsl (vs := cFr (nfr (text, lsn, e) id)) cFr_len hx2 (nfr (text, lsn, e) id) rfl rfl ?_
              repeat' ((fail_if_success with_reducible refine nph ?_); first | (with_reducible first | (refine d_seq ?_; intro K hK) | (refine hK _ _ ?_; clear hK K) | (refine SG.p ?_; try intro b)) | ((with_reducible refine SC.p ?_); refine And.intro ?_ ?_) <;> intro hc <;> try simp only [push_cast, Int.reduceEq, Int.reduceLT, Int.reduceLE, Int.reduceNe] at hc | with_reducible refine r_rq (by first | decide | omega) ?_ | ((with_reducible refine SL.p ?_); first | refine ⟨_, rfl, ?_⟩ | refine ⟨_, _, _, rfl, ?_⟩ | (refine ⟨?_, rfl, ?_⟩; focus (simp; done))) | ((with_reducible first | apply i_ldn | apply i_ldnq); exact rfl; exact rfl; exact rfl) | ((try with_reducible refine d_reg ?_); simp only [go_sem, Nat.reduceAdd, Nat.reduceEqDiff, Int.reduceToNat, Nat.reduceMul, Nat.reduceSub]) | clear hK K)
              have hl : (P2.fs.set i (nfr (text, lsn, e) id)).length = P2.fs.length := List.length_set
              generalize P2.fs.set i (nfr (text, lsn, e) id) = fs' at *
              rw [← hl]
              (with_reducible first | apply i_ret0 | apply i_ret2 | apply i_ret3 | apply i_ret); exact rfl
              dsimp only [Option.map]
              rw [hfi, hfi2]
            · rw [if_neg c6] at hR
              subst hR
              repeat' ((fail_if_success with_reducible refine nph ?_); first | (with_reducible first | (refine d_seq ?_; intro K hK) | (refine hK _ _ ?_; clear hK K) | (refine SG.p ?_; try intro b)) | ((with_reducible refine SC.p ?_); refine And.intro ?_ ?_) <;> intro hc <;> try simp only [push_cast, Int.reduceEq, Int.reduceLT, Int.reduceLE, Int.reduceNe] at hc | with_reducible refine r_rq (by first | decide | omega) ?_ | ((with_reducible refine SL.p ?_); first | refine ⟨_, rfl, ?_⟩ | refine ⟨_, _, _, rfl, ?_⟩ | (refine ⟨?_, rfl, ?_⟩; focus (simp; done))) | ((with_reducible first | apply i_ldn | apply i_ldnq); exact rfl; exact rfl; exact rfl) | ((try with_reducible refine d_reg ?_); simp only [go_sem, Nat.reduceAdd, Nat.reduceEqDiff, Int.reduceToNat, Nat.reduceMul, Nat.reduceSub]) | clear hK K)
              all_goals try contradiction
              (with_reducible first | apply i_ret0 | apply i_ret2 | apply i_ret3 | apply i_ret); exact rfl
              rfl
          · have c5' : (V.at i).filled = false := by simpa using c5
            rw [c5']
            rw [if_neg c5] at hR
            have hu : V.put i (nfr (text, lsn, e) id) = { V with fs := V.fs.set i (nfr (text, lsn, e) id), loads := IntKind.wrap .i64 (V.loads + 1) } := rfl
            rw [hu] at hR
            subst hR
            repeat' ((fail_if_success with_reducible refine nph ?_); first | (with_reducible first | (refine d_seq ?_; intro K hK) | (refine hK _ _ ?_; clear hK K) | (refine SG.p ?_; try intro b)) | ((with_reducible refine SC.p ?_); refine And.intro ?_ ?_) <;> intro hc <;> try simp only [push_cast, Int.reduceEq, Int.reduceLT, Int.reduceLE, Int.reduceNe] at hc | with_reducible refine r_rq (by first | decide | omega) ?_ | ((with_reducible refine SL.p ?_); first | refine ⟨_, rfl, ?_⟩ | refine ⟨_, _, _, rfl, ?_⟩ | (refine ⟨?_, rfl, ?_⟩; focus (simp; done))) | ((with_reducible first | apply i_ldn | apply i_ldnq); exact rfl; exact rfl; exact rfl) | ((try with_reducible refine d_reg ?_); simp only [go_sem, Nat.reduceAdd, Nat.reduceEqDiff, Int.reduceToNat, Nat.reduceMul, Nat.reduceSub]) | clear hK K)
            all_goals try contradiction
            refine i_fsl (vs := cFr (nfr (text, lsn, e) id)) cFr_len hx (nfr (text, lsn, e) id) rfl rfl ?_
            repeat' ((fail_if_success with_reducible refine nph ?_); first | (with_reducible first | (refine d_seq ?_; intro K hK) | (refine hK _ _ ?_; clear hK K) | (refine SG.p ?_; try intro b)) | ((with_reducible refine SC.p ?_); refine And.intro ?_ ?_) <;> intro hc <;> try simp only [push_cast, Int.reduceEq, Int.reduceLT, Int.reduceLE, Int.reduceNe] at hc | with_reducible refine r_rq (by first | decide | omega) ?_ | ((with_reducible refine SL.p ?_); first | refine ⟨_, rfl, ?_⟩ | refine ⟨_, _, _, rfl, ?_⟩ | (refine ⟨?_, rfl, ?_⟩; focus (simp; done))) | ((with_reducible first | apply i_ldn | apply i_ldnq); exact rfl; exact rfl; exact rfl) | ((try with_reducible refine d_reg ?_); simp only [go_sem, Nat.reduceAdd, Nat.reduceEqDiff, Int.reduceToNat, Nat.reduceMul, Nat.reduceSub]) | clear hK K)
            have hl : (V.fs.set i (nfr (text, lsn, e) id)).length = V.fs.length := List.length_set
            generalize V.fs.set i (nfr (text, lsn, e) id) = fs' at *
            rw [← hl]
            (with_reducible first | apply i_ret0 | apply i_ret2 | apply i_ret3 | apply i_ret); exact rfl
            dsimp only [Option.map]
            rw [hfi]
end Go.Sp
/- The pool: Get, Set, Pin, Unpin, Flush, Dirty, Pages. -/
namespace Go.Sp
open Go Go.Proofs
set_option linter.unusedSimpArgs false
set_option linter.unusedVariables false
set_option maxRecDepth 10000
theorem Wo.ok.mvP {S : St} {sb n : Nat} {w : Wo} (h : w.ok S sb n) {P' : Po} (l : w.P.like P') (hh : P'.hand < w.P.fs.length) : (⟨P', w.G, w.Z⟩ : Wo).ok S sb n := ⟨l.ok h.p hh, h.z, h.sb, h.nn, h.g, h.s, l.st.trans h.st, l.lg.trans h.lg⟩
theorem hl2_ok {S : St} {sb n : Nat} {w : Wo} (h : w.ok S sb n) (id : Int) (r : List UInt8 × Int × Int) {v : Option Nat × Po} (vl : w.P.like v.2) (vo : v.2.ok) (vi : ∀ i, v.1 = some i → i < w.P.fs.length) :
    (hl2 S w id r v).2.ok S sb n ∧ w.P.like (hl2 S w id r v).2.P ∧ (hl2 S w id r v).2.G.q = w.G.q ∧ (∀ i, (hl2 S w id r v).1.1 = some i → i < w.P.fs.length ∧ (hl2 S w id r v).1.2 = 0) ∧ ((hl2 S w id r v).1.1 = none → (hl2 S w id r v).1.2 ≠ 0) := by
  obtain ⟨o, V⟩ := v
  dsimp only at vl vo vi
  have hV : (⟨V, w.G, w.Z⟩ : Wo).ok S sb n := h.mvP vl (by have := vo.h; rw [vl.n] at this; exact this)
  unfold hl2
  dsimp only
  cases o with
  | none => exact ⟨hV, vl, rfl, fun i e => (by cases e), fun _ => (by show (7 : Int) ≠ 0; decide)⟩
  | some i =>
    have hi := vi i rfl
    dsimp only
    obtain ⟨s1, s2, s3⟩ := svp_ok hV (i := i) (by dsimp only; rw [vl.n]; exact hi)
    split
    · split
      · have l : (svp S ⟨V, w.G, w.Z⟩ i).2.P.like ((svp S ⟨V, w.G, w.Z⟩ i).2.P.put i (nfr r id)) := ⟨rfl, rfl, rfl, rfl, List.length_set⟩
        exact ⟨s1.mvP l s1.p.h, (vl.tr s2).tr l, s3, fun j e => by cases e; exact ⟨hi, rfl⟩, fun e => by cases e⟩
      · rename_i h0
        exact ⟨s1, vl.tr s2, s3, fun j e => (by cases e), fun _ => h0⟩
    · have l : V.like (V.put i (nfr r id)) := ⟨rfl, rfl, rfl, rfl, List.length_set⟩
      exact ⟨h.mvP (vl.tr l) (by have := vo.h; rw [vl.n] at this; exact this), vl.tr l, rfl, fun j e => by cases e; exact ⟨hi, rfl⟩, fun e => by cases e⟩
theorem hld_ok {S : St} {sb n : Nat} {w : Wo} (h : w.ok S sb n) (id : Int) :
    (hld S w id).2.ok S sb n ∧ w.P.like (hld S w id).2.P ∧ (hld S w id).2.G.q = w.G.q ∧ (∀ i, (hld S w id).1.1 = some i → i < w.P.fs.length ∧ (hld S w id).1.2 = 0) ∧ ((hld S w id).1.1 = none → (hld S w id).1.2 ≠ 0) := by
  unfold hld
  cases hf : w.P.find id with
  | some i =>
    have l : w.P.like (w.P.use i) := ⟨rfl, rfl, rfl, rfl, List.length_set⟩
    exact ⟨h.mvP l h.p.h, l, rfl, fun j e => by cases e; exact ⟨find_lt hf, rfl⟩, fun e => by cases e⟩
  | none =>
    dsimp only
    unfold hl1
    split
    · rename_i h0
      exact ⟨h, .rfl', rfl, fun i e => (by cases e), fun _ => h0.1⟩
    · obtain ⟨a, b, c⟩ := vic_like (2 * w.P.fs.length + 1) w.P h.p
      exact hl2_ok h id _ a b c
def Po.mod (P : Po) (i : Nat) (f : Fr) : Po := { P with fs := P.fs.set i f }
theorem mod_like (P : Po) (i : Nat) (f : Fr) : P.like (P.mod i f) := ⟨rfl, rfl, rfl, rfl, List.length_set⟩
theorem ppt_mod (P : Po) (i : Nat) (f : Fr) : ppt (P.mod i f) = ppt P := ppt_fs P _ List.length_set
def sfr (f : Fr) (text : List UInt8) (lsn : Int) : Fr := { f with text := text, lsn := lsn, dirty := true, first := if f.dirty then f.first else lsn }
def wset (S : St) (w : Wo) (id : Int) (text : List UInt8) (lsn : Int) : Int × Wo := if text.length ≠ 224 then (4, w) else if lsn < 1 then (1, w) else
  match (hld S w id).1.1 with
  | none => ((hld S w id).1.2, (hld S w id).2)
  | some i => (0, ⟨(hld S w id).2.P.mod i (sfr ((hld S w id).2.P.at i) text lsn), (hld S w id).2.G, (hld S w id).2.Z⟩)
def wget (S : St) (w : Wo) (id : Int) : List UInt8 × Int × Int := match (hld S w id).1.1 with
  | none => ([], 0, (hld S w id).1.2)
  | some i => (((hld S w id).2.P.at i).text, ((hld S w id).2.P.at i).lsn, 0)
def wpin (S : St) (w : Wo) (id : Int) : Int × Wo := match (hld S w id).1.1 with
  | none => ((hld S w id).1.2, (hld S w id).2)
  | some i => (0, ⟨(hld S w id).2.P.mod i { (hld S w id).2.P.at i with pins := IntKind.wrap .i64 (((hld S w id).2.P.at i).pins + 1) }, (hld S w id).2.G, (hld S w id).2.Z⟩)
set_option maxHeartbeats 1000000 in
theorem g49 (S : St) (sb n : Nat) (w : Wo) (h : w.ok S sb n) (id : Int) : Fq (eT3 eS eI eI) Tryz.prog 49 #[w.P.p, .int .i64 id] (wos S sb w) (wos S sb (hld S w id).2) (wget S w id) := fun L => by
  have N := g89 w.P h.p
  have H := g90 S sb n w h id
  obtain ⟨h1, h2, h3, h4, h5⟩ := hld_ok h id
  unfold wget
  generalize hld S w id = r at *
  obtain ⟨⟨o, e⟩, w2⟩ := r
  dsimp only at H h1 h2 h3 h4 h5 ⊢
  refine c49_fn rfl rfl ?_
  cases o with
  | none =>
    have he := h5 rfl
    dsimp only [Option.map] at H ⊢
    repeat' ((fail_if_success with_reducible refine nph ?_); first | (with_reducible first | (refine d_seq ?_; intro K hK) | (refine hK _ _ ?_; clear hK K) | (refine SG.p ?_; try intro b)) | ((with_reducible refine SC.p ?_); refine And.intro ?_ ?_) <;> intro hc <;> try simp only [push_cast, Int.reduceEq, Int.reduceLT, Int.reduceLE, Int.reduceNe] at hc | with_reducible refine r_rq (by first | decide | omega) ?_ | ((with_reducible refine SL.p ?_); first | refine ⟨_, rfl, ?_⟩ | refine ⟨_, _, _, rfl, ?_⟩ | (refine ⟨?_, rfl, ?_⟩; focus (simp; done))) | ((with_reducible first | apply i_ldn | apply i_ldnq); exact rfl; exact rfl; exact rfl) | ((try with_reducible refine d_reg ?_); simp only [go_sem, Nat.reduceAdd, Nat.reduceEqDiff, Int.reduceToNat, Nat.reduceMul, Nat.reduceSub]) | clear hK K)
    refine i_clp N ?_
    repeat' ((fail_if_success with_reducible refine nph ?_); first | (with_reducible first | (refine d_seq ?_; intro K hK) | (refine hK _ _ ?_; clear hK K) | (refine SG.p ?_; try intro b)) | ((with_reducible refine SC.p ?_); refine And.intro ?_ ?_) <;> intro hc <;> try simp only [push_cast, Int.reduceEq, Int.reduceLT, Int.reduceLE, Int.reduceNe] at hc | with_reducible refine r_rq (by first | decide | omega) ?_ | ((with_reducible refine SL.p ?_); first | refine ⟨_, rfl, ?_⟩ | refine ⟨_, _, _, rfl, ?_⟩ | (refine ⟨?_, rfl, ?_⟩; focus (simp; done))) | ((with_reducible first | apply i_ldn | apply i_ldnq); exact rfl; exact rfl; exact rfl) | ((try with_reducible refine d_reg ?_); simp only [go_sem, Nat.reduceAdd, Nat.reduceEqDiff, Int.reduceToNat, Nat.reduceMul, Nat.reduceSub]) | clear hK K)
    all_goals try contradiction
    refine i_clq H ?_
    repeat' ((fail_if_success with_reducible refine nph ?_); first | (with_reducible first | (refine d_seq ?_; intro K hK) | (refine hK _ _ ?_; clear hK K) | (refine SG.p ?_; try intro b)) | ((with_reducible refine SC.p ?_); refine And.intro ?_ ?_) <;> intro hc <;> try simp only [push_cast, Int.reduceEq, Int.reduceLT, Int.reduceLE, Int.reduceNe] at hc | with_reducible refine r_rq (by first | decide | omega) ?_ | ((with_reducible refine SL.p ?_); first | refine ⟨_, rfl, ?_⟩ | refine ⟨_, _, _, rfl, ?_⟩ | (refine ⟨?_, rfl, ?_⟩; focus (simp; done))) | ((with_reducible first | apply i_ldn | apply i_ldnq); exact rfl; exact rfl; exact rfl) | ((try with_reducible refine d_reg ?_); simp only [go_sem, Nat.reduceAdd, Nat.reduceEqDiff, Int.reduceToNat, Nat.reduceMul, Nat.reduceSub]) | clear hK K)
    all_goals try contradiction
    (with_reducible first | apply i_ret0 | apply i_ret2 | apply i_ret3 | apply i_ret); exact rfl
    rfl
  | some i =>
    obtain ⟨hi, rfl⟩ := h4 i rfl
    dsimp only [Option.map] at H ⊢
    have hx := at_get (P := w2.P) (i := i) (by rw [h2.n]; exact hi)
    have hfi : w.P.f i = w2.P.f i := by show (⟨w.P.fb, _, _⟩ : Addr) = ⟨w2.P.fb, _, _⟩; rw [h2.fb]
    rw [hfi] at H
    repeat' ((fail_if_success with_reducible refine nph ?_); first | (with_reducible first | (refine d_seq ?_; intro K hK) | (refine hK _ _ ?_; clear hK K) | (refine SG.p ?_; try intro b)) | ((with_reducible refine SC.p ?_); refine And.intro ?_ ?_) <;> intro hc <;> try simp only [push_cast, Int.reduceEq, Int.reduceLT, Int.reduceLE, Int.reduceNe] at hc | with_reducible refine r_rq (by first | decide | omega) ?_ | ((with_reducible refine SL.p ?_); first | refine ⟨_, rfl, ?_⟩ | refine ⟨_, _, _, rfl, ?_⟩ | (refine ⟨?_, rfl, ?_⟩; focus (simp; done))) | ((with_reducible first | apply i_ldn | apply i_ldnq); exact rfl; exact rfl; exact rfl) | ((try with_reducible refine d_reg ?_); simp only [go_sem, Nat.reduceAdd, Nat.reduceEqDiff, Int.reduceToNat, Nat.reduceMul, Nat.reduceSub]) | clear hK K)
    refine i_clp N ?_
    repeat' ((fail_if_success with_reducible refine nph ?_); first | (with_reducible first | (refine d_seq ?_; intro K hK) | (refine hK _ _ ?_; clear hK K) | (refine SG.p ?_; try intro b)) | ((with_reducible refine SC.p ?_); refine And.intro ?_ ?_) <;> intro hc <;> try simp only [push_cast, Int.reduceEq, Int.reduceLT, Int.reduceLE, Int.reduceNe] at hc | with_reducible refine r_rq (by first | decide | omega) ?_ | ((with_reducible refine SL.p ?_); first | refine ⟨_, rfl, ?_⟩ | refine ⟨_, _, _, rfl, ?_⟩ | (refine ⟨?_, rfl, ?_⟩; focus (simp; done))) | ((with_reducible first | apply i_ldn | apply i_ldnq); exact rfl; exact rfl; exact rfl) | ((try with_reducible refine d_reg ?_); simp only [go_sem, Nat.reduceAdd, Nat.reduceEqDiff, Int.reduceToNat, Nat.reduceMul, Nat.reduceSub]) | clear hK K)
    all_goals try contradiction
    refine i_clq H ?_
    repeat' ((fail_if_success with_reducible refine nph ?_); first | (with_reducible first | (refine d_seq ?_; intro K hK) | (refine hK _ _ ?_; clear hK K) | (refine SG.p ?_; try intro b)) | ((with_reducible refine SC.p ?_); refine And.intro ?_ ?_) <;> intro hc <;> try simp only [push_cast, Int.reduceEq, Int.reduceLT, Int.reduceLE, Int.reduceNe] at hc | with_reducible refine r_rq (by first | decide | omega) ?_ | ((with_reducible refine SL.p ?_); first | refine ⟨_, rfl, ?_⟩ | refine ⟨_, _, _, rfl, ?_⟩ | (refine ⟨?_, rfl, ?_⟩; focus (simp; done))) | ((with_reducible first | apply i_ldn | apply i_ldnq); exact rfl; exact rfl; exact rfl) | ((try with_reducible refine d_reg ?_); simp only [go_sem, Nat.reduceAdd, Nat.reduceEqDiff, Int.reduceToNat, Nat.reduceMul, Nat.reduceSub]) | clear hK K)
    all_goals try contradiction
    refine r_ph0 ?_
    repeat' ((fail_if_success with_reducible refine nph ?_); first | (with_reducible first | (refine d_seq ?_; intro K hK) | (refine hK _ _ ?_; clear hK K) | (refine SG.p ?_; try intro b)) | ((with_reducible refine SC.p ?_); refine And.intro ?_ ?_) <;> intro hc <;> try simp only [push_cast, Int.reduceEq, Int.reduceLT, Int.reduceLE, Int.reduceNe] at hc | with_reducible refine r_rq (by first | decide | omega) ?_ | ((with_reducible refine SL.p ?_); first | refine ⟨_, rfl, ?_⟩ | refine ⟨_, _, _, rfl, ?_⟩ | (refine ⟨?_, rfl, ?_⟩; focus (simp; done))) | ((with_reducible first | apply i_ldn | apply i_ldnq); exact rfl; exact rfl; exact rfl) | ((try with_reducible refine d_reg ?_); simp only [go_sem, Nat.reduceAdd, Nat.reduceEqDiff, Int.reduceToNat, Nat.reduceMul, Nat.reduceSub]) | clear hK K)
    refine i_fl0q (e := eS) (y := (w2.P.at i).text) cFr_len hx rfl ?_
    refine i_flq (e := eI) (y := (w2.P.at i).lsn) cFr_len hx rfl ?_
    repeat' ((fail_if_success with_reducible refine nph ?_); first | (with_reducible first | (refine d_seq ?_; intro K hK) | (refine hK _ _ ?_; clear hK K) | (refine SG.p ?_; try intro b)) | ((with_reducible refine SC.p ?_); refine And.intro ?_ ?_) <;> intro hc <;> try simp only [push_cast, Int.reduceEq, Int.reduceLT, Int.reduceLE, Int.reduceNe] at hc | with_reducible refine r_rq (by first | decide | omega) ?_ | ((with_reducible refine SL.p ?_); first | refine ⟨_, rfl, ?_⟩ | refine ⟨_, _, _, rfl, ?_⟩ | (refine ⟨?_, rfl, ?_⟩; focus (simp; done))) | ((with_reducible first | apply i_ldn | apply i_ldnq); exact rfl; exact rfl; exact rfl) | ((try with_reducible refine d_reg ?_); simp only [go_sem, Nat.reduceAdd, Nat.reduceEqDiff, Int.reduceToNat, Nat.reduceMul, Nat.reduceSub]) | clear hK K)
    (with_reducible first | apply i_ret0 | apply i_ret2 | apply i_ret3 | apply i_ret); exact rfl
    rfl
set_option maxHeartbeats 1000000 in
theorem g43 (S : St) (sb n : Nat) (w : Wo) (h : w.ok S sb n) (id : Int) (text : List UInt8) (lsn : Int) : Fq eI Tryz.prog 43 #[w.P.p, .int .i64 id, str text, .int .i64 lsn] (wos S sb w) (wos S sb (wset S w id text lsn).2) (wset S w id text lsn).1 := fun L => by
  have N := g89 w.P h.p
  have H := g90 S sb n w h id
  obtain ⟨h1, h2, h3, h4, h5⟩ := hld_ok h id
  unfold wset
  generalize hld S w id = r at *
  obtain ⟨⟨o, e⟩, w2⟩ := r
  dsimp only at H h1 h2 h3 h4 h5 ⊢
  refine c43_fn rfl rfl ?_
  by_cases c1 : text.length ≠ 224
  · rw [if_pos c1]
    repeat' ((fail_if_success with_reducible refine nph ?_); first | (with_reducible first | (refine d_seq ?_; intro K hK) | (refine hK _ _ ?_; clear hK K) | (refine SG.p ?_; try intro b)) | ((with_reducible refine SC.p ?_); refine And.intro ?_ ?_) <;> intro hc <;> try simp only [push_cast, Int.reduceEq, Int.reduceLT, Int.reduceLE, Int.reduceNe] at hc | with_reducible refine r_rq (by first | decide | omega) ?_ | ((with_reducible refine SL.p ?_); first | refine ⟨_, rfl, ?_⟩ | refine ⟨_, _, _, rfl, ?_⟩ | (refine ⟨?_, rfl, ?_⟩; focus (simp; done))) | ((with_reducible first | apply i_ldn | apply i_ldnq); exact rfl; exact rfl; exact rfl) | ((try with_reducible refine d_reg ?_); simp only [go_sem, Nat.reduceAdd, Nat.reduceEqDiff, Int.reduceToNat, Nat.reduceMul, Nat.reduceSub]) | clear hK K)
    refine i_clp N ?_
    repeat' ((fail_if_success with_reducible refine nph ?_); first | (with_reducible first | (refine d_seq ?_; intro K hK) | (refine hK _ _ ?_; clear hK K) | (refine SG.p ?_; try intro b)) | ((with_reducible refine SC.p ?_); refine And.intro ?_ ?_) <;> intro hc <;> try simp only [push_cast, Int.reduceEq, Int.reduceLT, Int.reduceLE, Int.reduceNe] at hc | with_reducible refine r_rq (by first | decide | omega) ?_ | ((with_reducible refine SL.p ?_); first | refine ⟨_, rfl, ?_⟩ | refine ⟨_, _, _, rfl, ?_⟩ | (refine ⟨?_, rfl, ?_⟩; focus (simp; done))) | ((with_reducible first | apply i_ldn | apply i_ldnq); exact rfl; exact rfl; exact rfl) | ((try with_reducible refine d_reg ?_); simp only [go_sem, Nat.reduceAdd, Nat.reduceEqDiff, Int.reduceToNat, Nat.reduceMul, Nat.reduceSub]) | clear hK K)
    all_goals try (exfalso; omega)
    all_goals try contradiction
    (with_reducible first | apply i_ret0 | apply i_ret2 | apply i_ret3 | apply i_ret); exact rfl
    rfl
  rw [if_neg c1]
  by_cases c2 : lsn < 1
  · rw [if_pos c2]
    repeat' ((fail_if_success with_reducible refine nph ?_); first | (with_reducible first | (refine d_seq ?_; intro K hK) | (refine hK _ _ ?_; clear hK K) | (refine SG.p ?_; try intro b)) | ((with_reducible refine SC.p ?_); refine And.intro ?_ ?_) <;> intro hc <;> try simp only [push_cast, Int.reduceEq, Int.reduceLT, Int.reduceLE, Int.reduceNe] at hc | with_reducible refine r_rq (by first | decide | omega) ?_ | ((with_reducible refine SL.p ?_); first | refine ⟨_, rfl, ?_⟩ | refine ⟨_, _, _, rfl, ?_⟩ | (refine ⟨?_, rfl, ?_⟩; focus (simp; done))) | ((with_reducible first | apply i_ldn | apply i_ldnq); exact rfl; exact rfl; exact rfl) | ((try with_reducible refine d_reg ?_); simp only [go_sem, Nat.reduceAdd, Nat.reduceEqDiff, Int.reduceToNat, Nat.reduceMul, Nat.reduceSub]) | clear hK K)
    refine i_clp N ?_
    repeat' ((fail_if_success with_reducible refine nph ?_); first | (with_reducible first | (refine d_seq ?_; intro K hK) | (refine hK _ _ ?_; clear hK K) | (refine SG.p ?_; try intro b)) | ((with_reducible refine SC.p ?_); refine And.intro ?_ ?_) <;> intro hc <;> try simp only [push_cast, Int.reduceEq, Int.reduceLT, Int.reduceLE, Int.reduceNe] at hc | with_reducible refine r_rq (by first | decide | omega) ?_ | ((with_reducible refine SL.p ?_); first | refine ⟨_, rfl, ?_⟩ | refine ⟨_, _, _, rfl, ?_⟩ | (refine ⟨?_, rfl, ?_⟩; focus (simp; done))) | ((with_reducible first | apply i_ldn | apply i_ldnq); exact rfl; exact rfl; exact rfl) | ((try with_reducible refine d_reg ?_); simp only [go_sem, Nat.reduceAdd, Nat.reduceEqDiff, Int.reduceToNat, Nat.reduceMul, Nat.reduceSub]) | clear hK K)
    all_goals try (exfalso; omega)
    all_goals try contradiction
    (with_reducible first | apply i_ret0 | apply i_ret2 | apply i_ret3 | apply i_ret); exact rfl
    rfl
  rw [if_neg c2]
  cases o with
  | none =>
    have he := h5 rfl
    dsimp only [Option.map] at H ⊢
    repeat' ((fail_if_success with_reducible refine nph ?_); first | (with_reducible first | (refine d_seq ?_; intro K hK) | (refine hK _ _ ?_; clear hK K) | (refine SG.p ?_; try intro b)) | ((with_reducible refine SC.p ?_); refine And.intro ?_ ?_) <;> intro hc <;> try simp only [push_cast, Int.reduceEq, Int.reduceLT, Int.reduceLE, Int.reduceNe] at hc | with_reducible refine r_rq (by first | decide | omega) ?_ | ((with_reducible refine SL.p ?_); first | refine ⟨_, rfl, ?_⟩ | refine ⟨_, _, _, rfl, ?_⟩ | (refine ⟨?_, rfl, ?_⟩; focus (simp; done))) | ((with_reducible first | apply i_ldn | apply i_ldnq); exact rfl; exact rfl; exact rfl) | ((try with_reducible refine d_reg ?_); simp only [go_sem, Nat.reduceAdd, Nat.reduceEqDiff, Int.reduceToNat, Nat.reduceMul, Nat.reduceSub]) | clear hK K)
    refine i_clp N ?_
    repeat' ((fail_if_success with_reducible refine nph ?_); first | (with_reducible first | (refine d_seq ?_; intro K hK) | (refine hK _ _ ?_; clear hK K) | (refine SG.p ?_; try intro b)) | ((with_reducible refine SC.p ?_); refine And.intro ?_ ?_) <;> intro hc <;> try simp only [push_cast, Int.reduceEq, Int.reduceLT, Int.reduceLE, Int.reduceNe] at hc | with_reducible refine r_rq (by first | decide | omega) ?_ | ((with_reducible refine SL.p ?_); first | refine ⟨_, rfl, ?_⟩ | refine ⟨_, _, _, rfl, ?_⟩ | (refine ⟨?_, rfl, ?_⟩; focus (simp; done))) | ((with_reducible first | apply i_ldn | apply i_ldnq); exact rfl; exact rfl; exact rfl) | ((try with_reducible refine d_reg ?_); simp only [go_sem, Nat.reduceAdd, Nat.reduceEqDiff, Int.reduceToNat, Nat.reduceMul, Nat.reduceSub]) | clear hK K)
    all_goals try (exfalso; omega)
    all_goals try contradiction
    refine i_clq H ?_
    repeat' ((fail_if_success with_reducible refine nph ?_); first | (with_reducible first | (refine d_seq ?_; intro K hK) | (refine hK _ _ ?_; clear hK K) | (refine SG.p ?_; try intro b)) | ((with_reducible refine SC.p ?_); refine And.intro ?_ ?_) <;> intro hc <;> try simp only [push_cast, Int.reduceEq, Int.reduceLT, Int.reduceLE, Int.reduceNe] at hc | with_reducible refine r_rq (by first | decide | omega) ?_ | ((with_reducible refine SL.p ?_); first | refine ⟨_, rfl, ?_⟩ | refine ⟨_, _, _, rfl, ?_⟩ | (refine ⟨?_, rfl, ?_⟩; focus (simp; done))) | ((with_reducible first | apply i_ldn | apply i_ldnq); exact rfl; exact rfl; exact rfl) | ((try with_reducible refine d_reg ?_); simp only [go_sem, Nat.reduceAdd, Nat.reduceEqDiff, Int.reduceToNat, Nat.reduceMul, Nat.reduceSub]) | clear hK K)
    all_goals try contradiction
    (with_reducible first | apply i_ret0 | apply i_ret2 | apply i_ret3 | apply i_ret); exact rfl
    rfl
  | some i =>
    obtain ⟨hi, rfl⟩ := h4 i rfl
    dsimp only [Option.map] at H ⊢
    have hi2 : i < w2.P.fs.length := by rw [h2.n]; exact hi
    have hx := at_get hi2
    have hfi : w.P.f i = w2.P.f i := by show (⟨w.P.fb, _, _⟩ : Addr) = ⟨w2.P.fb, _, _⟩; rw [h2.fb]
    rw [hfi] at H
    unfold wos
    dsimp only
    rw [ppt_mod]
    unfold Po.mod sfr
    generalize w2.P.at i = f at *
    obtain ⟨ft, fl, fi, fd, ff, fp, fu, fz⟩ := f
    cases fd
    · simp only [Bool.false_eq_true, if_false]
      repeat' ((fail_if_success with_reducible refine nph ?_); first | (with_reducible first | (refine d_seq ?_; intro K hK) | (refine hK _ _ ?_; clear hK K) | (refine SG.p ?_; try intro b)) | ((with_reducible refine SC.p ?_); refine And.intro ?_ ?_) <;> intro hc <;> try simp only [push_cast, Int.reduceEq, Int.reduceLT, Int.reduceLE, Int.reduceNe] at hc | with_reducible refine r_rq (by first | decide | omega) ?_ | ((with_reducible refine SL.p ?_); first | refine ⟨_, rfl, ?_⟩ | refine ⟨_, _, _, rfl, ?_⟩ | (refine ⟨?_, rfl, ?_⟩; focus (simp; done))) | ((with_reducible first | apply i_ldn | apply i_ldnq); exact rfl; exact rfl; exact rfl) | ((try with_reducible refine d_reg ?_); simp only [go_sem, Nat.reduceAdd, Nat.reduceEqDiff, Int.reduceToNat, Nat.reduceMul, Nat.reduceSub]) | clear hK K)
      refine i_clp N ?_
      repeat' ((fail_if_success with_reducible refine nph ?_); first | (with_reducible first | (refine d_seq ?_; intro K hK) | (refine hK _ _ ?_; clear hK K) | (refine SG.p ?_; try intro b)) | ((with_reducible refine SC.p ?_); refine And.intro ?_ ?_) <;> intro hc <;> try simp only [push_cast, Int.reduceEq, Int.reduceLT, Int.reduceLE, Int.reduceNe] at hc | with_reducible refine r_rq (by first | decide | omega) ?_ | ((with_reducible refine SL.p ?_); first | refine ⟨_, rfl, ?_⟩ | refine ⟨_, _, _, rfl, ?_⟩ | (refine ⟨?_, rfl, ?_⟩; focus (simp; done))) | ((with_reducible first | apply i_ldn | apply i_ldnq); exact rfl; exact rfl; exact rfl) | ((try with_reducible refine d_reg ?_); simp only [go_sem, Nat.reduceAdd, Nat.reduceEqDiff, Int.reduceToNat, Nat.reduceMul, Nat.reduceSub]) | clear hK K)
      all_goals try (exfalso; omega)
      all_goals try contradiction
      refine i_clq H ?_
      repeat' ((fail_if_success with_reducible refine nph ?_); first | (with_reducible first | (refine d_seq ?_; intro K hK) | (refine hK _ _ ?_; clear hK K) | (refine SG.p ?_; try intro b)) | ((with_reducible refine SC.p ?_); refine And.intro ?_ ?_) <;> intro hc <;> try simp only [push_cast, Int.reduceEq, Int.reduceLT, Int.reduceLE, Int.reduceNe] at hc | with_reducible refine r_rq (by first | decide | omega) ?_ | ((with_reducible refine SL.p ?_); first | refine ⟨_, rfl, ?_⟩ | refine ⟨_, _, _, rfl, ?_⟩ | (refine ⟨?_, rfl, ?_⟩; focus (simp; done))) | ((with_reducible first | apply i_ldn | apply i_ldnq); exact rfl; exact rfl; exact rfl) | ((try with_reducible refine d_reg ?_); simp only [go_sem, Nat.reduceAdd, Nat.reduceEqDiff, Int.reduceToNat, Nat.reduceMul, Nat.reduceSub]) | clear hK K)
      all_goals try contradiction
      refine i_fl (e := eB) (y := false) cFr_len hx rfl ?_
      repeat' ((fail_if_success with_reducible refine nph ?_); first | (with_reducible first | (refine d_seq ?_; intro K hK) | (refine hK _ _ ?_; clear hK K) | (refine SG.p ?_; try intro b)) | ((with_reducible refine SC.p ?_); refine And.intro ?_ ?_) <;> intro hc <;> try simp only [push_cast, Int.reduceEq, Int.reduceLT, Int.reduceLE, Int.reduceNe] at hc | with_reducible refine r_rq (by first | decide | omega) ?_ | ((with_reducible refine SL.p ?_); first | refine ⟨_, rfl, ?_⟩ | refine ⟨_, _, _, rfl, ?_⟩ | (refine ⟨?_, rfl, ?_⟩; focus (simp; done))) | ((with_reducible first | apply i_ldn | apply i_ldnq); exact rfl; exact rfl; exact rfl) | ((try with_reducible refine d_reg ?_); simp only [go_sem, Nat.reduceAdd, Nat.reduceEqDiff, Int.reduceToNat, Nat.reduceMul, Nat.reduceSub]) | clear hK K)
      all_goals try contradiction
      have hg : ∀ f : Fr, (w2.P.fs.set i f)[i]? = some f := fun f => by simp [hi2]
      refine i_fs (j := 3) (v := .bool true) cFr_len hx ⟨ft, fl, fi, true, ff, fp, fu, fz⟩ rfl rfl rfl ?_
      refine i_fs (j := 4) (v := .int .i64 lsn) cFr_len (hg ⟨ft, fl, fi, true, ff, fp, fu, fz⟩) ⟨ft, fl, fi, true, lsn, fp, fu, fz⟩ rfl rfl rfl ?_
      rw [List.set_set]
      repeat' ((fail_if_success with_reducible refine nph ?_); first | (with_reducible first | (refine d_seq ?_; intro K hK) | (refine hK _ _ ?_; clear hK K) | (refine SG.p ?_; try intro b)) | ((with_reducible refine SC.p ?_); refine And.intro ?_ ?_) <;> intro hc <;> try simp only [push_cast, Int.reduceEq, Int.reduceLT, Int.reduceLE, Int.reduceNe] at hc | with_reducible refine r_rq (by first | decide | omega) ?_ | ((with_reducible refine SL.p ?_); first | refine ⟨_, rfl, ?_⟩ | refine ⟨_, _, _, rfl, ?_⟩ | (refine ⟨?_, rfl, ?_⟩; focus (simp; done))) | ((with_reducible first | apply i_ldn | apply i_ldnq); exact rfl; exact rfl; exact rfl) | ((try with_reducible refine d_reg ?_); simp only [go_sem, Nat.reduceAdd, Nat.reduceEqDiff, Int.reduceToNat, Nat.reduceMul, Nat.reduceSub]) | clear hK K)
      refine i_fs0 (v := str text) cFr_len (hg ⟨ft, fl, fi, true, lsn, fp, fu, fz⟩) ⟨text, fl, fi, true, lsn, fp, fu, fz⟩ rfl rfl rfl ?_
      rw [List.set_set]
      refine i_fs (j := 1) (v := .int .i64 lsn) cFr_len (hg ⟨text, fl, fi, true, lsn, fp, fu, fz⟩) ⟨text, lsn, fi, true, lsn, fp, fu, fz⟩ rfl rfl rfl ?_
      rw [List.set_set]
      repeat' ((fail_if_success with_reducible refine nph ?_); first | (with_reducible first | (refine d_seq ?_; intro K hK) | (refine hK _ _ ?_; clear hK K) | (refine SG.p ?_; try intro b)) | ((with_reducible refine SC.p ?_); refine And.intro ?_ ?_) <;> intro hc <;> try simp only [push_cast, Int.reduceEq, Int.reduceLT, Int.reduceLE, Int.reduceNe] at hc | with_reducible refine r_rq (by first | decide | omega) ?_ | ((with_reducible refine SL.p ?_); first | refine ⟨_, rfl, ?_⟩ | refine ⟨_, _, _, rfl, ?_⟩ | (refine ⟨?_, rfl, ?_⟩; focus (simp; done))) | ((with_reducible first | apply i_ldn | apply i_ldnq); exact rfl; exact rfl; exact rfl) | ((try with_reducible refine d_reg ?_); simp only [go_sem, Nat.reduceAdd, Nat.reduceEqDiff, Int.reduceToNat, Nat.reduceMul, Nat.reduceSub]) | clear hK K)
      (with_reducible first | apply i_ret0 | apply i_ret2 | apply i_ret3 | apply i_ret); exact rfl
      rfl
    · simp only [if_true]
      repeat' ((fail_if_success with_reducible refine nph ?_); first | (with_reducible first | (refine d_seq ?_; intro K hK) | (refine hK _ _ ?_; clear hK K) | (refine SG.p ?_; try intro b)) | ((with_reducible refine SC.p ?_); refine And.intro ?_ ?_) <;> intro hc <;> try simp only [push_cast, Int.reduceEq, Int.reduceLT, Int.reduceLE, Int.reduceNe] at hc | with_reducible refine r_rq (by first | decide | omega) ?_ | ((with_reducible refine SL.p ?_); first | refine ⟨_, rfl, ?_⟩ | refine ⟨_, _, _, rfl, ?_⟩ | (refine ⟨?_, rfl, ?_⟩; focus (simp; done))) | ((with_reducible first | apply i_ldn | apply i_ldnq); exact rfl; exact rfl; exact rfl) | ((try with_reducible refine d_reg ?_); simp only [go_sem, Nat.reduceAdd, Nat.reduceEqDiff, Int.reduceToNat, Nat.reduceMul, Nat.reduceSub]) | clear hK K)
      refine i_clp N ?_
      repeat' ((fail_if_success with_reducible refine nph ?_); first | (with_reducible first | (refine d_seq ?_; intro K hK) | (refine hK _ _ ?_; clear hK K) | (refine SG.p ?_; try intro b)) | ((with_reducible refine SC.p ?_); refine And.intro ?_ ?_) <;> intro hc <;> try simp only [push_cast, Int.reduceEq, Int.reduceLT, Int.reduceLE, Int.reduceNe] at hc | with_reducible refine r_rq (by first | decide | omega) ?_ | ((with_reducible refine SL.p ?_); first | refine ⟨_, rfl, ?_⟩ | refine ⟨_, _, _, rfl, ?_⟩ | (refine ⟨?_, rfl, ?_⟩; focus (simp; done))) | ((with_reducible first | apply i_ldn | apply i_ldnq); exact rfl; exact rfl; exact rfl) | ((try with_reducible refine d_reg ?_); simp only [go_sem, Nat.reduceAdd, Nat.reduceEqDiff, Int.reduceToNat, Nat.reduceMul, Nat.reduceSub]) | clear hK K)
      all_goals try (exfalso; omega)
      all_goals try contradiction
      refine i_clq H ?_
      repeat' ((fail_if_success with_reducible refine nph ?_); first | (with_reducible first | (refine d_seq ?_; intro K hK) | (refine hK _ _ ?_; clear hK K) | (refine SG.p ?_; try intro b)) | ((with_reducible refine SC.p ?_); refine And.intro ?_ ?_) <;> intro hc <;> try simp only [push_cast, Int.reduceEq, Int.reduceLT, Int.reduceLE, Int.reduceNe] at hc | with_reducible refine r_rq (by first | decide | omega) ?_ | ((with_reducible refine SL.p ?_); first | refine ⟨_, rfl, ?_⟩ | refine ⟨_, _, _, rfl, ?_⟩ | (refine ⟨?_, rfl, ?_⟩; focus (simp; done))) | ((with_reducible first | apply i_ldn | apply i_ldnq); exact rfl; exact rfl; exact rfl) | ((try with_reducible refine d_reg ?_); simp only [go_sem, Nat.reduceAdd, Nat.reduceEqDiff, Int.reduceToNat, Nat.reduceMul, Nat.reduceSub]) | clear hK K)
      all_goals try contradiction
      refine i_fl (e := eB) (y := true) cFr_len hx rfl ?_
      repeat' ((fail_if_success with_reducible refine nph ?_); first | (with_reducible first | (refine d_seq ?_; intro K hK) | (refine hK _ _ ?_; clear hK K) | (refine SG.p ?_; try intro b)) | ((with_reducible refine SC.p ?_); refine And.intro ?_ ?_) <;> intro hc <;> try simp only [push_cast, Int.reduceEq, Int.reduceLT, Int.reduceLE, Int.reduceNe] at hc | with_reducible refine r_rq (by first | decide | omega) ?_ | ((with_reducible refine SL.p ?_); first | refine ⟨_, rfl, ?_⟩ | refine ⟨_, _, _, rfl, ?_⟩ | (refine ⟨?_, rfl, ?_⟩; focus (simp; done))) | ((with_reducible first | apply i_ldn | apply i_ldnq); exact rfl; exact rfl; exact rfl) | ((try with_reducible refine d_reg ?_); simp only [go_sem, Nat.reduceAdd, Nat.reduceEqDiff, Int.reduceToNat, Nat.reduceMul, Nat.reduceSub]) | clear hK K)
      all_goals try contradiction
      have hg : ∀ f : Fr, (w2.P.fs.set i f)[i]? = some f := fun f => by simp [hi2]
      refine i_fs0 (v := str text) cFr_len hx ⟨text, fl, fi, true, ff, fp, fu, fz⟩ rfl rfl rfl ?_
      refine i_fs (j := 1) (v := .int .i64 lsn) cFr_len (hg ⟨text, fl, fi, true, ff, fp, fu, fz⟩) ⟨text, lsn, fi, true, ff, fp, fu, fz⟩ rfl rfl rfl ?_
      rw [List.set_set]
      repeat' ((fail_if_success with_reducible refine nph ?_); first | (with_reducible first | (refine d_seq ?_; intro K hK) | (refine hK _ _ ?_; clear hK K) | (refine SG.p ?_; try intro b)) | ((with_reducible refine SC.p ?_); refine And.intro ?_ ?_) <;> intro hc <;> try simp only [push_cast, Int.reduceEq, Int.reduceLT, Int.reduceLE, Int.reduceNe] at hc | with_reducible refine r_rq (by first | decide | omega) ?_ | ((with_reducible refine SL.p ?_); first | refine ⟨_, rfl, ?_⟩ | refine ⟨_, _, _, rfl, ?_⟩ | (refine ⟨?_, rfl, ?_⟩; focus (simp; done))) | ((with_reducible first | apply i_ldn | apply i_ldnq); exact rfl; exact rfl; exact rfl) | ((try with_reducible refine d_reg ?_); simp only [go_sem, Nat.reduceAdd, Nat.reduceEqDiff, Int.reduceToNat, Nat.reduceMul, Nat.reduceSub]) | clear hK K)
      (with_reducible first | apply i_ret0 | apply i_ret2 | apply i_ret3 | apply i_ret); exact rfl
      rfl
end Go.Sp
/- The pool: New, Pin, Unpin, Flush, Dirty, Pages, Counts. -/
namespace Go.Sp
open Go Go.Proofs
set_option linter.unusedSimpArgs false
set_option linter.unusedVariables false
set_option maxRecDepth 10000
def zf : Fr := ⟨[], 0, 0, false, 0, 0, false, false⟩
abbrev zfv : Array Value := ⟨cFr zf⟩
theorem made_fr (n : Nat) : (madeCells zfv (n * 8)).toList = (List.replicate n zf).flatMap cFr := by
  apply List.ext_getElem?
  intro j
  rcases Nat.lt_or_ge j (n * 8) with h | h
  · have h1 : j / 8 < n := Nat.div_lt_of_lt_mul (by omega)
    have h2 : j % 8 < 8 := Nat.mod_lt _ (by decide)
    have hx : (List.replicate n zf)[j / 8]? = some zf := by simp [h1]
    have e1 : (cFr zf)[j % 8]? = some (cFr zf)[j % 8] := List.getElem?_eq_getElem h2
    have e2 := flat_get cFr_len _ _ _ hx _ _ e1
    rw [show j / 8 * 8 + j % 8 = j by omega] at e2
    rw [e2]
    unfold madeCells
    simp only [Array.toList_map, Array.toList_range, List.getElem?_map, List.getElem?_range h, Option.map_some]
    congr 1
    have : (zfv).size = 8 := rfl
    rw [this]
    exact getElem!_pos zfv (j % 8) h2
  · rw [List.getElem?_eq_none (by simp [madeCells]; exact h), List.getElem?_eq_none (by rw [flat_len cFr_len, List.length_replicate]; exact h)]
theorem r_mkfr {L : List HP} {k : SlV → W} (n : Nat) (hn : n ≤ 64) (h : ∀ b, E (ar b 134 ((List.replicate n zf).flatMap cFr) :: L) (k (some ⟨b, 0, none⟩, n, n))) :
    E L (val eSl Tryz.prog (oMake 94 (.int .i64 (n : Int)) (.int .i64 (n : Int))) k) := by
  have h1 : Tryz.prog.underlying 94 = some (.slice 134) := by kernel_rfl
  have s1 : (Tryz.prog.info? 134).map (·.size) = some 8 := by kernel_rfl
  have s2 : (Tryz.prog.info? 134).map (·.bytes) = some 64 := by kernel_rfl
  have s3 : (Tryz.prog.info? 134).bind (·.zero) = some (.agg zfv) := by kernel_rfl
  cases hi : Tryz.prog.info? 134 with
  | none => rw [hi] at s1; cases s1
  | some i =>
    rw [hi] at s1 s2 s3
    simp only [Option.map_some, Option.some.injEq, Option.bind_some] at s1 s2 s3
    intro w hw
    have := run_makeSlice (P := Tryz.prog) w 94 134 i (.agg zfv) h1 hi s3 .i64 .i64 (n : Int) (n : Int) (by omega) (by omega) (by rw [s1]; simp; omega) (by rw [s2]; omega) (by omega)
    rw [s1] at this
    simp only [Int.toNat_natCast] at this
    have e : madeCells (Value.agg zfv).cells (n * 8) = ⟨(List.replicate n zf).flatMap cFr⟩ := by
      apply Array.toList_inj.1
      exact made_fr n
    rw [e] at this
    exact ⟨(some ⟨w.heap.size, 0, none⟩, n, n), _, this, h _ _ (Holds.push hw (.cells ⟨(List.replicate n zf).flatMap cFr⟩ 134 (0, 0)) rfl)⟩
def Po.new (q fb st lg n : Nat) : Po := ⟨q, fb, st, lg, List.replicate n zf, 0, 0, 0⟩
theorem new_okP {q fb st lg n : Nat} (h1 : 2 ≤ n) (h2 : n ≤ 64) : (Po.new q fb st lg n).ok := ⟨by simpa [Po.new] using h1, by simpa [Po.new] using h2, by simp [Po.new]; omega⟩
theorem g42 (s l : Nat) (n : Nat) (h1 : 2 ≤ n) (h2 : n ≤ 64) : Fn (eT2 eP eI) Tryz.prog 42 #[.pointer (some ⟨s, 0, none⟩), .pointer (some ⟨l, 0, none⟩), .int .i64 (n : Int)] [] fun y X => ∃ q fb, y = (some ⟨q, 0, none⟩, 0) ∧ X = [ppt (Po.new q fb s l n), pfs (Po.new q fb s l n)] := fun L => by
  refine c42_fn rfl rfl ?_
  repeat' ((fail_if_success with_reducible refine nph ?_); first | (with_reducible first | (refine d_seq ?_; intro K hK) | (refine hK _ _ ?_; clear hK K) | (refine SG.p ?_; try intro b)) | ((with_reducible refine SC.p ?_); refine And.intro ?_ ?_) <;> intro hc <;> try simp only [push_cast, Int.reduceEq, Int.reduceLT, Int.reduceLE, Int.reduceNe] at hc | with_reducible refine r_rq (by first | decide | omega) ?_ | ((with_reducible refine SL.p ?_); first | refine ⟨_, rfl, ?_⟩ | refine ⟨_, _, _, rfl, ?_⟩ | (refine ⟨?_, rfl, ?_⟩; focus (simp; done))) | ((with_reducible first | apply i_ldn | apply i_ldnq); exact rfl; exact rfl; exact rfl) | ((try with_reducible refine d_reg ?_); simp only [go_sem, Nat.reduceAdd, Nat.reduceEqDiff, Int.reduceToNat, Nat.reduceMul, Nat.reduceSub]) | clear hK K)
  all_goals try (exfalso; omega)
  all_goals try contradiction
  refine r_mkfr n h2 fun fb => ?_
  refine r_nwc ?_
  intro q
  repeat' ((fail_if_success with_reducible refine nph ?_); first | (with_reducible first | (refine d_seq ?_; intro K hK) | (refine hK _ _ ?_; clear hK K) | (refine SG.p ?_; try intro b)) | ((with_reducible refine SC.p ?_); refine And.intro ?_ ?_) <;> intro hc <;> try simp only [push_cast, Int.reduceEq, Int.reduceLT, Int.reduceLE, Int.reduceNe] at hc | with_reducible refine r_rq (by first | decide | omega) ?_ | ((with_reducible refine SL.p ?_); first | refine ⟨_, rfl, ?_⟩ | refine ⟨_, _, _, rfl, ?_⟩ | (refine ⟨?_, rfl, ?_⟩; focus (simp; done))) | ((with_reducible first | apply i_ldn | apply i_ldnq); exact rfl; exact rfl; exact rfl) | ((try with_reducible refine d_reg ?_); simp only [go_sem, Nat.reduceAdd, Nat.reduceEqDiff, Int.reduceToNat, Nat.reduceMul, Nat.reduceSub]) | clear hK K)
  refine i_done (e := eT2 eP eI) (some ⟨q, 0, none⟩, 0) [ppt (Po.new q fb s l n), pfs (Po.new q fb s l n)] (hs := ?_) rfl ⟨q, fb, rfl, rfl⟩
  have e : ppt (Po.new q fb s l n) = ar q 96 [.pointer (some ⟨s, 0, none⟩), .pointer (some ⟨l, 0, none⟩), .slice (some ⟨fb, 0, none⟩) n n, .int .i64 0, .int .i64 0, .int .i64 0] := by
    show ar q 96 [_, _, .slice _ (List.replicate n zf).length (List.replicate n zf).length, _, _, _] = _
    rw [List.length_replicate]
    rfl
  rw [e, show pfs (Po.new q fb s l n) = ar fb 134 ((List.replicate n zf).flatMap cFr) from rfl]
  exact ⟨SX.p⟩
def Po.dirt (P : Po) (id : Int) : Bool := match P.find id with
  | none => false
  | some i => (P.at i).dirty
theorem g45 (P : Po) (h : P.ok) (id : Int) : Fp eB Tryz.prog 45 #[P.p, .int .i64 id] [ppt P, pfs P] (P.dirt id) := fun L => by
  have F := g91 P h id
  unfold Po.dirt
  refine c45_fn rfl rfl ?_
  cases hf : P.find id with
  | none =>
    rw [hf] at F
    dsimp only [Option.map] at F ⊢
    repeat' (first | refine i_clp (g89 P h) ?_ | refine i_clp F ?_ | (fail_if_success with_reducible refine nph ?_); first | (with_reducible first | (refine d_seq ?_; intro K hK) | (refine hK _ _ ?_; clear hK K) | (refine SG.p ?_; try intro b)) | ((with_reducible refine SC.p ?_); refine And.intro ?_ ?_) <;> intro hc <;> try simp only [push_cast, Int.reduceEq, Int.reduceLT, Int.reduceLE, Int.reduceNe] at hc | with_reducible refine r_rq (by first | decide | omega) ?_ | ((with_reducible refine SL.p ?_); first | refine ⟨_, rfl, ?_⟩ | refine ⟨_, _, _, rfl, ?_⟩ | (refine ⟨?_, rfl, ?_⟩; focus (simp; done))) | ((with_reducible first | apply i_ldn | apply i_ldnq); exact rfl; exact rfl; exact rfl) | ((try with_reducible refine d_reg ?_); simp only [go_sem, Nat.reduceAdd, Nat.reduceEqDiff, Int.reduceToNat, Nat.reduceMul, Nat.reduceSub]) | clear hK K)
    all_goals try contradiction
    (with_reducible first | apply i_ret0 | apply i_ret2 | apply i_ret3 | apply i_ret); exact rfl
    rfl
  | some i =>
    rw [hf] at F
    dsimp only [Option.map] at F ⊢
    have hx := at_get (find_lt hf)
    repeat' (first | refine i_clp (g89 P h) ?_ | refine i_clp F ?_ | (fail_if_success with_reducible refine nph ?_); first | (with_reducible first | (refine d_seq ?_; intro K hK) | (refine hK _ _ ?_; clear hK K) | (refine SG.p ?_; try intro b)) | ((with_reducible refine SC.p ?_); refine And.intro ?_ ?_) <;> intro hc <;> try simp only [push_cast, Int.reduceEq, Int.reduceLT, Int.reduceLE, Int.reduceNe] at hc | with_reducible refine r_rq (by first | decide | omega) ?_ | ((with_reducible refine SL.p ?_); first | refine ⟨_, rfl, ?_⟩ | refine ⟨_, _, _, rfl, ?_⟩ | (refine ⟨?_, rfl, ?_⟩; focus (simp; done))) | ((with_reducible first | apply i_ldn | apply i_ldnq); exact rfl; exact rfl; exact rfl) | ((try with_reducible refine d_reg ?_); simp only [go_sem, Nat.reduceAdd, Nat.reduceEqDiff, Int.reduceToNat, Nat.reduceMul, Nat.reduceSub]) | clear hK K)
    all_goals try contradiction
    refine i_fl (e := eB) (y := (P.at i).dirty) cFr_len hx rfl ?_
    repeat' ((fail_if_success with_reducible refine nph ?_); first | (with_reducible first | (refine d_seq ?_; intro K hK) | (refine hK _ _ ?_; clear hK K) | (refine SG.p ?_; try intro b)) | ((with_reducible refine SC.p ?_); refine And.intro ?_ ?_) <;> intro hc <;> try simp only [push_cast, Int.reduceEq, Int.reduceLT, Int.reduceLE, Int.reduceNe] at hc | with_reducible refine r_rq (by first | decide | omega) ?_ | ((with_reducible refine SL.p ?_); first | refine ⟨_, rfl, ?_⟩ | refine ⟨_, _, _, rfl, ?_⟩ | (refine ⟨?_, rfl, ?_⟩; focus (simp; done))) | ((with_reducible first | apply i_ldn | apply i_ldnq); exact rfl; exact rfl; exact rfl) | ((try with_reducible refine d_reg ?_); simp only [go_sem, Nat.reduceAdd, Nat.reduceEqDiff, Int.reduceToNat, Nat.reduceMul, Nat.reduceSub]) | clear hK K)
    (with_reducible first | apply i_ret0 | apply i_ret2 | apply i_ret3 | apply i_ret); exact rfl
    rfl
def Po.unp (P : Po) (id : Int) : Int × Po := match P.find id with
  | none => (8, P)
  | some i => if (P.at i).pins = 0 then (8, P) else (0, P.mod i { P.at i with pins := IntKind.wrap .i64 ((P.at i).pins - 1) })
theorem g50 (P : Po) (h : P.ok) (id : Int) : Fq eI Tryz.prog 50 #[P.p, .int .i64 id] [ppt P, pfs P] [ppt (P.unp id).2, pfs (P.unp id).2] (P.unp id).1 := fun L => by
  have F := g91 P h id
  unfold Po.unp
  refine c50_fn rfl rfl ?_
  cases hf : P.find id with
  | none =>
    rw [hf] at F
    dsimp only [Option.map] at F ⊢
    repeat' (first | refine i_clp (g89 P h) ?_ | refine i_clp F ?_ | (fail_if_success with_reducible refine nph ?_); first | (with_reducible first | (refine d_seq ?_; intro K hK) | (refine hK _ _ ?_; clear hK K) | (refine SG.p ?_; try intro b)) | ((with_reducible refine SC.p ?_); refine And.intro ?_ ?_) <;> intro hc <;> try simp only [push_cast, Int.reduceEq, Int.reduceLT, Int.reduceLE, Int.reduceNe] at hc | with_reducible refine r_rq (by first | decide | omega) ?_ | ((with_reducible refine SL.p ?_); first | refine ⟨_, rfl, ?_⟩ | refine ⟨_, _, _, rfl, ?_⟩ | (refine ⟨?_, rfl, ?_⟩; focus (simp; done))) | ((with_reducible first | apply i_ldn | apply i_ldnq); exact rfl; exact rfl; exact rfl) | ((try with_reducible refine d_reg ?_); simp only [go_sem, Nat.reduceAdd, Nat.reduceEqDiff, Int.reduceToNat, Nat.reduceMul, Nat.reduceSub]) | clear hK K)
    all_goals try contradiction
    (with_reducible first | apply i_ret0 | apply i_ret2 | apply i_ret3 | apply i_ret); exact rfl
    rfl
  | some i =>
    rw [hf] at F
    dsimp only [Option.map] at F ⊢
    have hx := at_get (find_lt hf)
    generalize P.at i = f at *
    by_cases hp : f.pins = 0
    · rw [if_pos hp]
      repeat' (first | refine i_clp (g89 P h) ?_ | refine i_clp F ?_ | (fail_if_success with_reducible refine nph ?_); first | (with_reducible first | (refine d_seq ?_; intro K hK) | (refine hK _ _ ?_; clear hK K) | (refine SG.p ?_; try intro b)) | ((with_reducible refine SC.p ?_); refine And.intro ?_ ?_) <;> intro hc <;> try simp only [push_cast, Int.reduceEq, Int.reduceLT, Int.reduceLE, Int.reduceNe] at hc | with_reducible refine r_rq (by first | decide | omega) ?_ | ((with_reducible refine SL.p ?_); first | refine ⟨_, rfl, ?_⟩ | refine ⟨_, _, _, rfl, ?_⟩ | (refine ⟨?_, rfl, ?_⟩; focus (simp; done))) | ((with_reducible first | apply i_ldn | apply i_ldnq); exact rfl; exact rfl; exact rfl) | ((try with_reducible refine d_reg ?_); simp only [go_sem, Nat.reduceAdd, Nat.reduceEqDiff, Int.reduceToNat, Nat.reduceMul, Nat.reduceSub]) | clear hK K)
      all_goals try contradiction
      refine i_fl (e := eI) (y := f.pins) cFr_len hx rfl ?_
      repeat' ((fail_if_success with_reducible refine nph ?_); first | (with_reducible first | (refine d_seq ?_; intro K hK) | (refine hK _ _ ?_; clear hK K) | (refine SG.p ?_; try intro b)) | ((with_reducible refine SC.p ?_); refine And.intro ?_ ?_) <;> intro hc <;> try simp only [push_cast, Int.reduceEq, Int.reduceLT, Int.reduceLE, Int.reduceNe] at hc | with_reducible refine r_rq (by first | decide | omega) ?_ | ((with_reducible refine SL.p ?_); first | refine ⟨_, rfl, ?_⟩ | refine ⟨_, _, _, rfl, ?_⟩ | (refine ⟨?_, rfl, ?_⟩; focus (simp; done))) | ((with_reducible first | apply i_ldn | apply i_ldnq); exact rfl; exact rfl; exact rfl) | ((try with_reducible refine d_reg ?_); simp only [go_sem, Nat.reduceAdd, Nat.reduceEqDiff, Int.reduceToNat, Nat.reduceMul, Nat.reduceSub]) | clear hK K)
      all_goals try contradiction
      (with_reducible first | apply i_ret0 | apply i_ret2 | apply i_ret3 | apply i_ret); exact rfl
      rfl
    · rw [if_neg hp]
      dsimp only
      rw [ppt_mod]
      unfold Po.mod
      repeat' (first | refine i_clp (g89 P h) ?_ | refine i_clp F ?_ | (fail_if_success with_reducible refine nph ?_); first | (with_reducible first | (refine d_seq ?_; intro K hK) | (refine hK _ _ ?_; clear hK K) | (refine SG.p ?_; try intro b)) | ((with_reducible refine SC.p ?_); refine And.intro ?_ ?_) <;> intro hc <;> try simp only [push_cast, Int.reduceEq, Int.reduceLT, Int.reduceLE, Int.reduceNe] at hc | with_reducible refine r_rq (by first | decide | omega) ?_ | ((with_reducible refine SL.p ?_); first | refine ⟨_, rfl, ?_⟩ | refine ⟨_, _, _, rfl, ?_⟩ | (refine ⟨?_, rfl, ?_⟩; focus (simp; done))) | ((with_reducible first | apply i_ldn | apply i_ldnq); exact rfl; exact rfl; exact rfl) | ((try with_reducible refine d_reg ?_); simp only [go_sem, Nat.reduceAdd, Nat.reduceEqDiff, Int.reduceToNat, Nat.reduceMul, Nat.reduceSub]) | clear hK K)
      all_goals try contradiction
      refine i_fl (e := eI) (y := f.pins) cFr_len hx rfl ?_
      repeat' ((fail_if_success with_reducible refine nph ?_); first | (with_reducible first | (refine d_seq ?_; intro K hK) | (refine hK _ _ ?_; clear hK K) | (refine SG.p ?_; try intro b)) | ((with_reducible refine SC.p ?_); refine And.intro ?_ ?_) <;> intro hc <;> try simp only [push_cast, Int.reduceEq, Int.reduceLT, Int.reduceLE, Int.reduceNe] at hc | with_reducible refine r_rq (by first | decide | omega) ?_ | ((with_reducible refine SL.p ?_); first | refine ⟨_, rfl, ?_⟩ | refine ⟨_, _, _, rfl, ?_⟩ | (refine ⟨?_, rfl, ?_⟩; focus (simp; done))) | ((with_reducible first | apply i_ldn | apply i_ldnq); exact rfl; exact rfl; exact rfl) | ((try with_reducible refine d_reg ?_); simp only [go_sem, Nat.reduceAdd, Nat.reduceEqDiff, Int.reduceToNat, Nat.reduceMul, Nat.reduceSub]) | clear hK K)
      all_goals try contradiction
      refine i_fl (e := eI) (y := f.pins) cFr_len hx rfl ?_
      refine i_fs (j := 5) (v := .int .i64 (IntKind.wrap .i64 (f.pins - 1))) cFr_len hx { f with pins := IntKind.wrap .i64 (f.pins - 1) } rfl rfl rfl ?_
      repeat' ((fail_if_success with_reducible refine nph ?_); first | (with_reducible first | (refine d_seq ?_; intro K hK) | (refine hK _ _ ?_; clear hK K) | (refine SG.p ?_; try intro b)) | ((with_reducible refine SC.p ?_); refine And.intro ?_ ?_) <;> intro hc <;> try simp only [push_cast, Int.reduceEq, Int.reduceLT, Int.reduceLE, Int.reduceNe] at hc | with_reducible refine r_rq (by first | decide | omega) ?_ | ((with_reducible refine SL.p ?_); first | refine ⟨_, rfl, ?_⟩ | refine ⟨_, _, _, rfl, ?_⟩ | (refine ⟨?_, rfl, ?_⟩; focus (simp; done))) | ((with_reducible first | apply i_ldn | apply i_ldnq); exact rfl; exact rfl; exact rfl) | ((try with_reducible refine d_reg ?_); simp only [go_sem, Nat.reduceAdd, Nat.reduceEqDiff, Int.reduceToNat, Nat.reduceMul, Nat.reduceSub]) | clear hK K)
      (with_reducible first | apply i_ret0 | apply i_ret2 | apply i_ret3 | apply i_ret); exact rfl
      rfl
end Go.Sp
/- The pool: Pin, Flush, FlushAll, Table, Redo. -/
namespace Go.Sp
open Go Go.Proofs
set_option linter.unusedSimpArgs false
set_option linter.unusedVariables false
set_option maxRecDepth 10000
set_option maxHeartbeats 1000000 in
theorem g48 (S : St) (sb n : Nat) (w : Wo) (h : w.ok S sb n) (id : Int) : Fq eI Tryz.prog 48 #[w.P.p, .int .i64 id] (wos S sb w) (wos S sb (wpin S w id).2) (wpin S w id).1 := fun L => by
  have N := g89 w.P h.p
  have H := g90 S sb n w h id
  obtain ⟨h1, h2, h3, h4, h5⟩ := hld_ok h id
  unfold wpin
  generalize hld S w id = r at *
  obtain ⟨⟨o, e⟩, w2⟩ := r
  dsimp only at H h1 h2 h3 h4 h5 ⊢
  refine c48_fn rfl rfl ?_
  cases o with
  | none =>
    have he := h5 rfl
    dsimp only [Option.map] at H ⊢
    repeat' ((fail_if_success with_reducible refine nph ?_); first | (with_reducible first | (refine d_seq ?_; intro K hK) | (refine hK _ _ ?_; clear hK K) | (refine SG.p ?_; try intro b)) | ((with_reducible refine SC.p ?_); refine And.intro ?_ ?_) <;> intro hc <;> try simp only [push_cast, Int.reduceEq, Int.reduceLT, Int.reduceLE, Int.reduceNe] at hc | with_reducible refine r_rq (by first | decide | omega) ?_ | ((with_reducible refine SL.p ?_); first | refine ⟨_, rfl, ?_⟩ | refine ⟨_, _, _, rfl, ?_⟩ | (refine ⟨?_, rfl, ?_⟩; focus (simp; done))) | ((with_reducible first | apply i_ldn | apply i_ldnq); exact rfl; exact rfl; exact rfl) | ((try with_reducible refine d_reg ?_); simp only [go_sem, Nat.reduceAdd, Nat.reduceEqDiff, Int.reduceToNat, Nat.reduceMul, Nat.reduceSub]) | clear hK K)
    refine i_clp N ?_
    repeat' ((fail_if_success with_reducible refine nph ?_); first | (with_reducible first | (refine d_seq ?_; intro K hK) | (refine hK _ _ ?_; clear hK K) | (refine SG.p ?_; try intro b)) | ((with_reducible refine SC.p ?_); refine And.intro ?_ ?_) <;> intro hc <;> try simp only [push_cast, Int.reduceEq, Int.reduceLT, Int.reduceLE, Int.reduceNe] at hc | with_reducible refine r_rq (by first | decide | omega) ?_ | ((with_reducible refine SL.p ?_); first | refine ⟨_, rfl, ?_⟩ | refine ⟨_, _, _, rfl, ?_⟩ | (refine ⟨?_, rfl, ?_⟩; focus (simp; done))) | ((with_reducible first | apply i_ldn | apply i_ldnq); exact rfl; exact rfl; exact rfl) | ((try with_reducible refine d_reg ?_); simp only [go_sem, Nat.reduceAdd, Nat.reduceEqDiff, Int.reduceToNat, Nat.reduceMul, Nat.reduceSub]) | clear hK K)
    all_goals try contradiction
    refine i_clq H ?_
    repeat' ((fail_if_success with_reducible refine nph ?_); first | (with_reducible first | (refine d_seq ?_; intro K hK) | (refine hK _ _ ?_; clear hK K) | (refine SG.p ?_; try intro b)) | ((with_reducible refine SC.p ?_); refine And.intro ?_ ?_) <;> intro hc <;> try simp only [push_cast, Int.reduceEq, Int.reduceLT, Int.reduceLE, Int.reduceNe] at hc | with_reducible refine r_rq (by first | decide | omega) ?_ | ((with_reducible refine SL.p ?_); first | refine ⟨_, rfl, ?_⟩ | refine ⟨_, _, _, rfl, ?_⟩ | (refine ⟨?_, rfl, ?_⟩; focus (simp; done))) | ((with_reducible first | apply i_ldn | apply i_ldnq); exact rfl; exact rfl; exact rfl) | ((try with_reducible refine d_reg ?_); simp only [go_sem, Nat.reduceAdd, Nat.reduceEqDiff, Int.reduceToNat, Nat.reduceMul, Nat.reduceSub]) | clear hK K)
    all_goals try contradiction
    (with_reducible first | apply i_ret0 | apply i_ret2 | apply i_ret3 | apply i_ret); exact rfl
    rfl
  | some i =>
    obtain ⟨hi, rfl⟩ := h4 i rfl
    dsimp only [Option.map] at H ⊢
    have hx := at_get (P := w2.P) (i := i) (by rw [h2.n]; exact hi)
    have hfi : w.P.f i = w2.P.f i := by show (⟨w.P.fb, _, _⟩ : Addr) = ⟨w2.P.fb, _, _⟩; rw [h2.fb]
    rw [hfi] at H
    unfold wos
    dsimp only
    rw [ppt_mod]
    unfold Po.mod
    generalize w2.P.at i = f at *
    repeat' ((fail_if_success with_reducible refine nph ?_); first | (with_reducible first | (refine d_seq ?_; intro K hK) | (refine hK _ _ ?_; clear hK K) | (refine SG.p ?_; try intro b)) | ((with_reducible refine SC.p ?_); refine And.intro ?_ ?_) <;> intro hc <;> try simp only [push_cast, Int.reduceEq, Int.reduceLT, Int.reduceLE, Int.reduceNe] at hc | with_reducible refine r_rq (by first | decide | omega) ?_ | ((with_reducible refine SL.p ?_); first | refine ⟨_, rfl, ?_⟩ | refine ⟨_, _, _, rfl, ?_⟩ | (refine ⟨?_, rfl, ?_⟩; focus (simp; done))) | ((with_reducible first | apply i_ldn | apply i_ldnq); exact rfl; exact rfl; exact rfl) | ((try with_reducible refine d_reg ?_); simp only [go_sem, Nat.reduceAdd, Nat.reduceEqDiff, Int.reduceToNat, Nat.reduceMul, Nat.reduceSub]) | clear hK K)
    refine i_clp N ?_
    repeat' ((fail_if_success with_reducible refine nph ?_); first | (with_reducible first | (refine d_seq ?_; intro K hK) | (refine hK _ _ ?_; clear hK K) | (refine SG.p ?_; try intro b)) | ((with_reducible refine SC.p ?_); refine And.intro ?_ ?_) <;> intro hc <;> try simp only [push_cast, Int.reduceEq, Int.reduceLT, Int.reduceLE, Int.reduceNe] at hc | with_reducible refine r_rq (by first | decide | omega) ?_ | ((with_reducible refine SL.p ?_); first | refine ⟨_, rfl, ?_⟩ | refine ⟨_, _, _, rfl, ?_⟩ | (refine ⟨?_, rfl, ?_⟩; focus (simp; done))) | ((with_reducible first | apply i_ldn | apply i_ldnq); exact rfl; exact rfl; exact rfl) | ((try with_reducible refine d_reg ?_); simp only [go_sem, Nat.reduceAdd, Nat.reduceEqDiff, Int.reduceToNat, Nat.reduceMul, Nat.reduceSub]) | clear hK K)
    all_goals try contradiction
    refine i_clq H ?_
    repeat' ((fail_if_success with_reducible refine nph ?_); first | (with_reducible first | (refine d_seq ?_; intro K hK) | (refine hK _ _ ?_; clear hK K) | (refine SG.p ?_; try intro b)) | ((with_reducible refine SC.p ?_); refine And.intro ?_ ?_) <;> intro hc <;> try simp only [push_cast, Int.reduceEq, Int.reduceLT, Int.reduceLE, Int.reduceNe] at hc | with_reducible refine r_rq (by first | decide | omega) ?_ | ((with_reducible refine SL.p ?_); first | refine ⟨_, rfl, ?_⟩ | refine ⟨_, _, _, rfl, ?_⟩ | (refine ⟨?_, rfl, ?_⟩; focus (simp; done))) | ((with_reducible first | apply i_ldn | apply i_ldnq); exact rfl; exact rfl; exact rfl) | ((try with_reducible refine d_reg ?_); simp only [go_sem, Nat.reduceAdd, Nat.reduceEqDiff, Int.reduceToNat, Nat.reduceMul, Nat.reduceSub]) | clear hK K)
    all_goals try contradiction
    refine i_fl (e := eI) (y := f.pins) cFr_len hx rfl ?_
    refine i_fs (j := 5) (v := .int .i64 (IntKind.wrap .i64 (f.pins + 1))) cFr_len hx { f with pins := IntKind.wrap .i64 (f.pins + 1) } rfl rfl rfl ?_
    repeat' ((fail_if_success with_reducible refine nph ?_); first | (with_reducible first | (refine d_seq ?_; intro K hK) | (refine hK _ _ ?_; clear hK K) | (refine SG.p ?_; try intro b)) | ((with_reducible refine SC.p ?_); refine And.intro ?_ ?_) <;> intro hc <;> try simp only [push_cast, Int.reduceEq, Int.reduceLT, Int.reduceLE, Int.reduceNe] at hc | with_reducible refine r_rq (by first | decide | omega) ?_ | ((with_reducible refine SL.p ?_); first | refine ⟨_, rfl, ?_⟩ | refine ⟨_, _, _, rfl, ?_⟩ | (refine ⟨?_, rfl, ?_⟩; focus (simp; done))) | ((with_reducible first | apply i_ldn | apply i_ldnq); exact rfl; exact rfl; exact rfl) | ((try with_reducible refine d_reg ?_); simp only [go_sem, Nat.reduceAdd, Nat.reduceEqDiff, Int.reduceToNat, Nat.reduceMul, Nat.reduceSub]) | clear hK K)
    (with_reducible first | apply i_ret0 | apply i_ret2 | apply i_ret3 | apply i_ret); exact rfl
    rfl
end Go.Sp
/- The log: Open on a disk of which the sectors have nothing, without what reads records. -/
namespace Go.Sp
open Go Go.Proofs
set_option linter.unusedSimpArgs false
set_option linter.unusedVariables false
set_option maxRecDepth 10000
abbrev rzz : api_Rec := ⟨0, 0, 0, 0, 0, [], [], [], 0, (none, 0, 0), (none, 0, 0), 0, 0⟩
theorem g26e : Fp (eT3 e_api_Rec eI eI) Tryz.prog 26 #[str [], .int .i64 0] [] (rzz, 0, 2) := fun L => by
  refine c26_fn rfl rfl ?_
  repeat' ((fail_if_success with_reducible refine nph ?_); first | (with_reducible first | (refine d_seq ?_; intro K hK) | (refine hK _ _ ?_; clear hK K) | (refine SG.p ?_; try intro b)) | ((with_reducible refine SC.p ?_); refine And.intro ?_ ?_) <;> intro hc <;> try simp only [push_cast, Int.reduceEq, Int.reduceLT, Int.reduceLE, Int.reduceNe] at hc | with_reducible refine r_rq (by first | decide | omega) ?_ | ((with_reducible refine SL.p ?_); first | refine ⟨_, rfl, ?_⟩ | refine ⟨_, _, _, rfl, ?_⟩ | (refine ⟨?_, rfl, ?_⟩; focus (simp; done))) | ((with_reducible first | apply i_ldn | apply i_ldnq); exact rfl; exact rfl; exact rfl) | ((try with_reducible refine d_reg ?_); simp only [go_sem, Nat.reduceAdd, Nat.reduceEqDiff, Int.reduceToNat, Nat.reduceMul, Nat.reduceSub]) | clear hK K)
  all_goals try contradiction
  refine i_ldn (e := e_api_Rec) (x := rzz) rfl rfl rfl ?_
  (with_reducible first | apply i_ret0 | apply i_ret2 | apply i_ret3 | apply i_ret); exact rfl
  rfl
theorem g69e : Fp eI Tryz.prog 69 #[str []] [] 0 := fun L => by
  refine c69_fn rfl rfl ?_
  repeat' ((fail_if_success with_reducible refine nph ?_); first | (with_reducible first | (refine d_seq ?_; intro K hK) | (refine hK _ _ ?_; clear hK K) | (refine SG.p ?_; try intro b)) | ((with_reducible refine SC.p ?_); refine And.intro ?_ ?_) <;> intro hc <;> try simp only [push_cast, Int.reduceEq, Int.reduceLT, Int.reduceLE, Int.reduceNe] at hc | with_reducible refine r_rq (by first | decide | omega) ?_ | ((with_reducible refine SL.p ?_); first | refine ⟨_, rfl, ?_⟩ | refine ⟨_, _, _, rfl, ?_⟩ | (refine ⟨?_, rfl, ?_⟩; focus (simp; done))) | ((with_reducible first | apply i_ldn | apply i_ldnq); exact rfl; exact rfl; exact rfl) | ((try with_reducible refine d_reg ?_); simp only [go_sem, Nat.reduceAdd, Nat.reduceEqDiff, Int.reduceToNat, Nat.reduceMul, Nat.reduceSub]) | clear hK K)
  refine d_lp [0, 3] (fun _ : Nat => [(0, str []), (3, .int .i64 0)]) (fun _ => L) (fun _ => True) (fun t => t) 0 rfl SX.p trivial ?_
  intro t _
  repeat' ((fail_if_success with_reducible refine nph ?_); first | (with_reducible first | (refine d_seq ?_; intro K hK) | (refine hK _ _ ?_; clear hK K) | (refine SG.p ?_; try intro b)) | ((with_reducible refine SC.p ?_); refine And.intro ?_ ?_) <;> intro hc <;> try simp only [push_cast, Int.reduceEq, Int.reduceLT, Int.reduceLE, Int.reduceNe] at hc | with_reducible refine r_rq (by first | decide | omega) ?_ | ((with_reducible refine SL.p ?_); first | refine ⟨_, rfl, ?_⟩ | refine ⟨_, _, _, rfl, ?_⟩ | (refine ⟨?_, rfl, ?_⟩; focus (simp; done))) | ((with_reducible first | apply i_ldn | apply i_ldnq); exact rfl; exact rfl; exact rfl) | ((try with_reducible refine d_reg ?_); simp only [go_sem, Nat.reduceAdd, Nat.reduceEqDiff, Int.reduceToNat, Nat.reduceMul, Nat.reduceSub]) | clear hK K)
  refine i_clp g26e ?_
  repeat' ((fail_if_success with_reducible refine nph ?_); first | (with_reducible first | (refine d_seq ?_; intro K hK) | (refine hK _ _ ?_; clear hK K) | (refine SG.p ?_; try intro b)) | ((with_reducible refine SC.p ?_); refine And.intro ?_ ?_) <;> intro hc <;> try simp only [push_cast, Int.reduceEq, Int.reduceLT, Int.reduceLE, Int.reduceNe] at hc | with_reducible refine r_rq (by first | decide | omega) ?_ | ((with_reducible refine SL.p ?_); first | refine ⟨_, rfl, ?_⟩ | refine ⟨_, _, _, rfl, ?_⟩ | (refine ⟨?_, rfl, ?_⟩; focus (simp; done))) | ((with_reducible first | apply i_ldn | apply i_ldnq); exact rfl; exact rfl; exact rfl) | ((try with_reducible refine d_reg ?_); simp only [go_sem, Nat.reduceAdd, Nat.reduceEqDiff, Int.reduceToNat, Nat.reduceMul, Nat.reduceSub]) | clear hK K)
  all_goals try contradiction
  (with_reducible first | apply i_ret0 | apply i_ret2 | apply i_ret3 | apply i_ret); exact rfl
  rfl
set_option maxHeartbeats 1000000 in
theorem wopenz {Z : Dk} {sb n : Nat} (hcm : Z.calm sb n) {base S run : Nat} (hz : ∀ m, m < S → at4 (Z.get ((base + m : Nat) : Int)) = 0) (hS : 1 ≤ S) (hf : base + S ≤ n) (hn : n ≤ 8192) (r1 : 1 ≤ run) (r2 : run < 4294967296) :
    Fn (eT2 eP eI) Tryz.prog 17 #[.pointer (some ⟨sb, 0, none⟩), .int .i64 (base : Int), .int .i64 (S : Int), .int .i64 (run : Int)] [dk Z] fun y X => ∃ (q : Nat) (Y : Dk) (ρ : Nat → Nat), y = (some ⟨q, 0, none⟩, 0) ∧ X = [lgp ⟨q, base, S, run, [], 0, false⟩ sb, dk Y] ∧ Wi Y sb n ⟨q, base, S, run, [], 0, false⟩ ρ ∧ Y.es = [] ∧
      ∀ j : Nat, j < n → Y.get (j : Int) = if j = base then wh (secb run []) else Z.get (j : Int) := fun L => by
  have C := g67 Z hcm.ok (base : Int) (S : Int) (run : Int) (by unfold wf64; omega)
  have e0 : lchk Z.sure.length (base : Int) (S : Int) (run : Int) = 0 := by
    unfold lchk
    rw [hcm.n, if_neg (by omega), if_neg (by omega)]
  rw [e0, hcm.sb] at C
  refine c17_fn rfl rfl ?_
  repeat' ((fail_if_success with_reducible refine nph ?_); first | (with_reducible first | (refine d_seq ?_; intro K hK) | (refine hK _ _ ?_; clear hK K) | (refine SG.p ?_; try intro b)) | ((with_reducible refine SC.p ?_); refine And.intro ?_ ?_) <;> intro hc <;> try simp only [push_cast, Int.reduceEq, Int.reduceLT, Int.reduceLE, Int.reduceNe] at hc | with_reducible refine r_rq (by first | decide | omega) ?_ | ((with_reducible refine SL.p ?_); first | refine ⟨_, rfl, ?_⟩ | refine ⟨_, _, _, rfl, ?_⟩ | (refine ⟨?_, rfl, ?_⟩; focus (simp; done))) | ((with_reducible first | apply i_ldn | apply i_ldnq); exact rfl; exact rfl; exact rfl) | ((try with_reducible refine d_reg ?_); simp only [go_sem, Nat.reduceAdd, Nat.reduceEqDiff, Int.reduceToNat, Nat.reduceMul, Nat.reduceSub]) | clear hK K)
  refine i_clp C ?_
  repeat' ((fail_if_success with_reducible refine nph ?_); first | (with_reducible first | (refine d_seq ?_; intro K hK) | (refine hK _ _ ?_; clear hK K) | (refine SG.p ?_; try intro b)) | ((with_reducible refine SC.p ?_); refine And.intro ?_ ?_) <;> intro hc <;> try simp only [push_cast, Int.reduceEq, Int.reduceLT, Int.reduceLE, Int.reduceNe] at hc | with_reducible refine r_rq (by first | decide | omega) ?_ | ((with_reducible refine SL.p ?_); first | refine ⟨_, rfl, ?_⟩ | refine ⟨_, _, _, rfl, ?_⟩ | (refine ⟨?_, rfl, ?_⟩; focus (simp; done))) | ((with_reducible first | apply i_ldn | apply i_ldnq); exact rfl; exact rfl; exact rfl) | ((try with_reducible refine d_reg ?_); simp only [go_sem, Nat.reduceAdd, Nat.reduceEqDiff, Int.reduceToNat, Nat.reduceMul, Nat.reduceSub]) | clear hK K)
  all_goals try (first | contradiction | (simp only [ reduceCtorEq] at *; done) | (exfalso; omega))
  rename Nat => q
  have hG : (⟨q, base, S, run, [], 0, false⟩ : Lg).ok n := ⟨hS, hf, hn, r1, r2, Nat.le_refl _, by simp⟩
  have SN := g68 ⟨q, base, S, run, [], 0, false⟩ Z hcm.ok (by rw [hcm.n]; exact hG)
  have e1 : Z.scn base run S 0 1 = [] := by
    obtain ⟨k, rfl⟩ : ∃ k, S = k + 1 := ⟨S - 1, by omega⟩
    have := hz 0 (by omega)
    unfold at4 at this
    unfold Dk.scn
    rw [this, if_pos (by omega)]
  dsimp only at SN
  rw [hcm.sb, hcm.up, e1] at SN
  obtain ⟨ρ, m1, m2, m3, m4⟩ := mend_zero (q := q) hcm hz hS hf hn r1 r2
  obtain ⟨_, _, _, _, l5⟩ := lmend_calm hcm hG
  have MD := g70 ⟨q, base, S, run, [], 0, false⟩ Z hcm.ok (by rw [hcm.n]; exact hG)
  rw [m2, m3, hcm.sb] at MD
  have hgt : ∀ j : Nat, j < n → (Z.lmend ⟨q, base, S, run, [], 0, false⟩).2.1.get (j : Int) = if j = base then wh (secb run []) else Z.get (j : Int) := fun j hj => by
    rw [l5 j hj]
    by_cases e : j = base
    · rw [if_pos e, if_pos ⟨by dsimp only; omega, by dsimp only; omega⟩, sec_b]
      simp [part]
    · rw [if_neg e, if_neg (by dsimp only; omega)]
  generalize (Z.lmend ⟨q, base, S, run, [], 0, false⟩).2.1 = Y at *
  refine i_cal SN ?_
  rintro y X ⟨rfl, hy⟩
  rw [if_pos rfl] at hy
  subst hy
  dsimp only [List.cons_append, List.nil_append]
  repeat' ((fail_if_success with_reducible refine nph ?_); first | (with_reducible first | (refine d_seq ?_; intro K hK) | (refine hK _ _ ?_; clear hK K) | (refine SG.p ?_; try intro b)) | ((with_reducible refine SC.p ?_); refine And.intro ?_ ?_) <;> intro hc <;> try simp only [push_cast, Int.reduceEq, Int.reduceLT, Int.reduceLE, Int.reduceNe] at hc | with_reducible refine r_rq (by first | decide | omega) ?_ | ((with_reducible refine SL.p ?_); first | refine ⟨_, rfl, ?_⟩ | refine ⟨_, _, _, rfl, ?_⟩ | (refine ⟨?_, rfl, ?_⟩; focus (simp; done))) | ((with_reducible first | apply i_ldn | apply i_ldnq); exact rfl; exact rfl; exact rfl) | ((try with_reducible refine d_reg ?_); simp only [go_sem, Nat.reduceAdd, Nat.reduceEqDiff, Int.reduceToNat, Nat.reduceMul, Nat.reduceSub]) | clear hK K)
  all_goals try (first | contradiction | (simp only [ reduceCtorEq] at *; done) | (exfalso; omega))
  refine i_clp g69e ?_
  repeat' ((fail_if_success with_reducible refine nph ?_); first | (with_reducible first | (refine d_seq ?_; intro K hK) | (refine hK _ _ ?_; clear hK K) | (refine SG.p ?_; try intro b)) | ((with_reducible refine SC.p ?_); refine And.intro ?_ ?_) <;> intro hc <;> try simp only [push_cast, Int.reduceEq, Int.reduceLT, Int.reduceLE, Int.reduceNe] at hc | with_reducible refine r_rq (by first | decide | omega) ?_ | ((with_reducible refine SL.p ?_); first | refine ⟨_, rfl, ?_⟩ | refine ⟨_, _, _, rfl, ?_⟩ | (refine ⟨?_, rfl, ?_⟩; focus (simp; done))) | ((with_reducible first | apply i_ldn | apply i_ldnq); exact rfl; exact rfl; exact rfl) | ((try with_reducible refine d_reg ?_); simp only [go_sem, Nat.reduceAdd, Nat.reduceEqDiff, Int.reduceToNat, Nat.reduceMul, Nat.reduceSub]) | clear hK K)
  rw [show ss ([] : List UInt8) 0 0 = [] from rfl]
  repeat' ((fail_if_success with_reducible refine nph ?_); first | (with_reducible first | (refine d_seq ?_; intro K hK) | (refine hK _ _ ?_; clear hK K) | (refine SG.p ?_; try intro b)) | ((with_reducible refine SC.p ?_); refine And.intro ?_ ?_) <;> intro hc <;> try simp only [push_cast, Int.reduceEq, Int.reduceLT, Int.reduceLE, Int.reduceNe] at hc | with_reducible refine r_rq (by first | decide | omega) ?_ | ((with_reducible refine SL.p ?_); first | refine ⟨_, rfl, ?_⟩ | refine ⟨_, _, _, rfl, ?_⟩ | (refine ⟨?_, rfl, ?_⟩; focus (simp; done))) | ((with_reducible first | apply i_ldn | apply i_ldnq); exact rfl; exact rfl; exact rfl) | ((try with_reducible refine d_reg ?_); simp only [go_sem, Nat.reduceAdd, Nat.reduceEqDiff, Int.reduceToNat, Nat.reduceMul, Nat.reduceSub]) | clear hK K)
  refine i_clq MD ?_
  repeat' ((fail_if_success with_reducible refine nph ?_); first | (with_reducible first | (refine d_seq ?_; intro K hK) | (refine hK _ _ ?_; clear hK K) | (refine SG.p ?_; try intro b)) | ((with_reducible refine SC.p ?_); refine And.intro ?_ ?_) <;> intro hc <;> try simp only [push_cast, Int.reduceEq, Int.reduceLT, Int.reduceLE, Int.reduceNe] at hc | with_reducible refine r_rq (by first | decide | omega) ?_ | ((with_reducible refine SL.p ?_); first | refine ⟨_, rfl, ?_⟩ | refine ⟨_, _, _, rfl, ?_⟩ | (refine ⟨?_, rfl, ?_⟩; focus (simp; done))) | ((with_reducible first | apply i_ldn | apply i_ldnq); exact rfl; exact rfl; exact rfl) | ((try with_reducible refine d_reg ?_); simp only [go_sem, Nat.reduceAdd, Nat.reduceEqDiff, Int.reduceToNat, Nat.reduceMul, Nat.reduceSub]) | clear hK K)
  all_goals try (first | contradiction | (simp only [ reduceCtorEq] at *; done) | (exfalso; omega))
  exact i_done (e := eT2 eP eI) (some ⟨q, 0, none⟩, 0) [lgp ⟨q, base, S, run, [], 0, false⟩ sb, dk Y] rfl ⟨q, Y, ρ, rfl, rfl, m1, m4, hgt⟩
end Go.Sp
/- The pool's law: its world. -/
namespace Go.Sp
open Go Go.Proofs
set_option linter.unusedSimpArgs false
set_option linter.unusedVariables false
set_option maxRecDepth 10000
/-- What the pages should be. -/
structure Gh where
  txt : List (List UInt8)
  lsn : List Int
  pin : List Int
structure Gh.ok (g : Gh) : Prop where
  t : g.txt.length = 8
  l : g.lsn.length = 8
  p : g.pin.length = 8
abbrev gcl (sb sq lq pq : Nat) (g : Gh) : List Value := .pointer (some ⟨sb, 0, none⟩) :: .pointer (some ⟨sq, 0, none⟩) :: .pointer (some ⟨lq, 0, none⟩) :: .pointer (some ⟨pq, 0, none⟩) :: (g.txt.map (fun t => str t) ++ (g.lsn.map (fun n => Value.int .i64 n) ++ g.pin.map (fun n => Value.int .i64 n)))
abbrev wld (wb sb sq lq pq : Nat) (g : Gh) : HP := ar wb 81 (gcl sb sq lq pq g)
section
variable {sb sq lq pq : Nat} {g : Gh} (h : g.ok)
include h
theorem gcl_lsn {i : Nat} (hi : i < 8) : (gcl sb sq lq pq g)[12 + i]? = some (.int .i64 (g.lsn.getD i 0)) := by
  have h1 := h.t
  have h2 := h.l
  rw [show 12 + i = (8 + i) + 4 by omega]
  show (g.txt.map (fun t => str t) ++ _)[8 + i]? = _
  rw [List.getElem?_append_right (by rw [List.length_map]; omega), List.length_map, h1, show 8 + i - 8 = i by omega, List.getElem?_append_left (by rw [List.length_map]; omega), List.getElem?_map, List.getD_eq_getElem?_getD, List.getElem?_eq_getElem (by omega)]
  rfl
theorem gcl_pin {i : Nat} (hi : i < 8) : (gcl sb sq lq pq g)[20 + i]? = some (.int .i64 (g.pin.getD i 0)) := by
  have h1 := h.t
  have h2 := h.l
  have h3 := h.p
  rw [show 20 + i = (16 + i) + 4 by omega]
  show (g.txt.map (fun t => str t) ++ _)[16 + i]? = _
  rw [List.getElem?_append_right (by rw [List.length_map]; omega), List.length_map, h1, show 16 + i - 8 = 8 + i by omega, List.getElem?_append_right (by rw [List.length_map]; omega), List.length_map, h2, show 8 + i - 8 = i by omega, List.getElem?_map, List.getD_eq_getElem?_getD, List.getElem?_eq_getElem (by omega)]
  rfl
theorem gcl_len : (gcl sb sq lq pq g).length = 28 := by
  simp [h.t, h.l, h.p]
theorem set_txt {i : Nat} (hi : i < 8) (t : List UInt8) : (gcl sb sq lq pq g).set (4 + i) (str t) = gcl sb sq lq pq { g with txt := g.txt.set i t } := by
  have h1 := h.t
  rw [Nat.add_comm]
  show _ :: _ :: _ :: _ :: (g.txt.map (fun t => str t) ++ _).set i _ = _
  rw [List.set_append_left _ _ (by rw [List.length_map]; omega)]
  simp only [gcl, List.map_set]
theorem set_lsn {i : Nat} (hi : i < 8) (n : Int) : (gcl sb sq lq pq g).set (12 + i) (.int .i64 n) = gcl sb sq lq pq { g with lsn := g.lsn.set i n } := by
  have h1 := h.t
  have h2 := h.l
  rw [show 12 + i = (8 + i) + 4 by omega]
  show _ :: _ :: _ :: _ :: (g.txt.map (fun t => str t) ++ _).set (8 + i) _ = _
  rw [List.set_append_right _ _ (by rw [List.length_map]; omega), List.length_map, h1, show 8 + i - 8 = i by omega, List.set_append_left _ _ (by rw [List.length_map]; omega)]
  simp only [gcl, List.map_set]
end
def g0 : Gh := ⟨List.replicate 8 [], List.replicate 8 0, List.replicate 8 0⟩
theorem g0_ok : g0.ok := ⟨rfl, rfl, rfl⟩
/-- How many pages are pinned. -/
def npn (l : List Int) : Nat → Nat
  | 0 => 0
  | i + 1 => if 0 < l.getD i 0 then npn l i + 1 else npn l i
theorem npn_le (l : List Int) : ∀ i, npn l i ≤ i
  | 0 => Nat.le_refl _
  | i + 1 => by
    have := npn_le l i
    unfold npn
    split <;> omega
theorem g93 (wb sb sq lq pq : Nat) (g : Gh) (h : g.ok) : Fp eI Tryz.prog 93 #[.pointer (some ⟨wb, 0, none⟩)] [wld wb sb sq lq pq g] ((npn g.pin 8 : Nat) : Int) := fun L => by
  refine c93_fn rfl rfl ?_
  repeat' ((fail_if_success with_reducible refine nph ?_); first | (with_reducible first | (refine d_seq ?_; intro K hK) | (refine hK _ _ ?_; clear hK K) | (refine SG.p ?_; try intro b)) | ((with_reducible refine SC.p ?_); refine And.intro ?_ ?_) <;> intro hc <;> try simp only [push_cast, Int.reduceEq, Int.reduceLT, Int.reduceLE, Int.reduceNe] at hc | with_reducible refine r_rq (by first | decide | omega) ?_ | ((with_reducible refine SL.p ?_); first | refine ⟨_, rfl, ?_⟩ | refine ⟨_, _, _, rfl, ?_⟩ | (refine ⟨?_, rfl, ?_⟩; focus (simp; done))) | ((with_reducible first | apply i_ldn | apply i_ldnq); exact rfl; exact rfl; exact rfl) | ((try with_reducible refine d_reg ?_); simp only [go_sem, Nat.reduceAdd, Nat.reduceEqDiff, Int.reduceToNat, Nat.reduceMul, Nat.reduceSub]) | clear hK K)
  refine d_lp [0, 3, 4] (fun i : Nat => [(0, .pointer (some ⟨wb, 0, none⟩)), (3, .int .i64 ((npn g.pin i : Nat) : Int)), (4, .int .i64 (i : Int))])
    (fun _ => wld wb sb sq lq pq g :: L) (fun i => i ≤ 8) (fun i => 8 - i) 0 rfl SX.p (by omega) ?_
  intro i hi
  by_cases h8 : i < 8
  · have hp := gcl_pin (sb := sb) (sq := sq) (lq := lq) (pq := pq) h h8
    have hn := npn_le g.pin i
    by_cases hc0 : 0 < g.pin.getD i 0
    · have e : npn g.pin (i + 1) = npn g.pin i + 1 := if_pos hc0
      repeat' ((fail_if_success with_reducible refine nph ?_); first | (with_reducible first | (refine d_seq ?_; intro K hK) | (refine hK _ _ ?_; clear hK K) | (refine SG.p ?_; try intro b)) | ((with_reducible refine SC.p ?_); refine And.intro ?_ ?_) <;> intro hc <;> try simp only [push_cast, Int.reduceEq, Int.reduceLT, Int.reduceLE, Int.reduceNe] at hc | with_reducible refine r_rq (by first | decide | omega) ?_ | ((with_reducible refine SL.p ?_); first | refine ⟨_, rfl, ?_⟩ | refine ⟨_, _, _, rfl, ?_⟩ | (refine ⟨?_, rfl, ?_⟩; focus (simp; done))) | ((with_reducible first | apply i_ldn | apply i_ldnq); exact rfl; exact rfl; exact rfl) | ((try with_reducible refine d_reg ?_); simp only [go_sem, Nat.reduceAdd, Nat.reduceEqDiff, Int.reduceToNat, Nat.reduceMul, Nat.reduceSub]) | clear hK K)
      all_goals try (exfalso; omega)
      refine i_ld (e := eI) hp ?_
      repeat' ((fail_if_success with_reducible refine nph ?_); first | (with_reducible first | (refine d_seq ?_; intro K hK) | (refine hK _ _ ?_; clear hK K) | (refine SG.p ?_; try intro b)) | ((with_reducible refine SC.p ?_); refine And.intro ?_ ?_) <;> intro hc <;> try simp only [push_cast, Int.reduceEq, Int.reduceLT, Int.reduceLE, Int.reduceNe] at hc | with_reducible refine r_rq (by first | decide | omega) ?_ | ((with_reducible refine SL.p ?_); first | refine ⟨_, rfl, ?_⟩ | refine ⟨_, _, _, rfl, ?_⟩ | (refine ⟨?_, rfl, ?_⟩; focus (simp; done))) | ((with_reducible first | apply i_ldn | apply i_ldnq); exact rfl; exact rfl; exact rfl) | ((try with_reducible refine d_reg ?_); simp only [go_sem, Nat.reduceAdd, Nat.reduceEqDiff, Int.reduceToNat, Nat.reduceMul, Nat.reduceSub]) | clear hK K)
      all_goals try (exfalso; omega)
      rw [w64 (by omega) (by omega), w64 (by omega) (by omega)]
      exact i_bk (i + 1) (by rw [e]; rfl) (by omega) (by omega)
    · have e : npn g.pin (i + 1) = npn g.pin i := if_neg hc0
      repeat' ((fail_if_success with_reducible refine nph ?_); first | (with_reducible first | (refine d_seq ?_; intro K hK) | (refine hK _ _ ?_; clear hK K) | (refine SG.p ?_; try intro b)) | ((with_reducible refine SC.p ?_); refine And.intro ?_ ?_) <;> intro hc <;> try simp only [push_cast, Int.reduceEq, Int.reduceLT, Int.reduceLE, Int.reduceNe] at hc | with_reducible refine r_rq (by first | decide | omega) ?_ | ((with_reducible refine SL.p ?_); first | refine ⟨_, rfl, ?_⟩ | refine ⟨_, _, _, rfl, ?_⟩ | (refine ⟨?_, rfl, ?_⟩; focus (simp; done))) | ((with_reducible first | apply i_ldn | apply i_ldnq); exact rfl; exact rfl; exact rfl) | ((try with_reducible refine d_reg ?_); simp only [go_sem, Nat.reduceAdd, Nat.reduceEqDiff, Int.reduceToNat, Nat.reduceMul, Nat.reduceSub]) | clear hK K)
      all_goals try (exfalso; omega)
      refine i_ld (e := eI) hp ?_
      repeat' ((fail_if_success with_reducible refine nph ?_); first | (with_reducible first | (refine d_seq ?_; intro K hK) | (refine hK _ _ ?_; clear hK K) | (refine SG.p ?_; try intro b)) | ((with_reducible refine SC.p ?_); refine And.intro ?_ ?_) <;> intro hc <;> try simp only [push_cast, Int.reduceEq, Int.reduceLT, Int.reduceLE, Int.reduceNe] at hc | with_reducible refine r_rq (by first | decide | omega) ?_ | ((with_reducible refine SL.p ?_); first | refine ⟨_, rfl, ?_⟩ | refine ⟨_, _, _, rfl, ?_⟩ | (refine ⟨?_, rfl, ?_⟩; focus (simp; done))) | ((with_reducible first | apply i_ldn | apply i_ldnq); exact rfl; exact rfl; exact rfl) | ((try with_reducible refine d_reg ?_); simp only [go_sem, Nat.reduceAdd, Nat.reduceEqDiff, Int.reduceToNat, Nat.reduceMul, Nat.reduceSub]) | clear hK K)
      all_goals try (exfalso; omega)
      rw [w64 (by omega) (by omega)]
      exact i_bk (i + 1) (by rw [e]; rfl) (by omega) (by omega)
  · obtain rfl : i = 8 := by omega
    repeat' ((fail_if_success with_reducible refine nph ?_); first | (with_reducible first | (refine d_seq ?_; intro K hK) | (refine hK _ _ ?_; clear hK K) | (refine SG.p ?_; try intro b)) | ((with_reducible refine SC.p ?_); refine And.intro ?_ ?_) <;> intro hc <;> try simp only [push_cast, Int.reduceEq, Int.reduceLT, Int.reduceLE, Int.reduceNe] at hc | with_reducible refine r_rq (by first | decide | omega) ?_ | ((with_reducible refine SL.p ?_); first | refine ⟨_, rfl, ?_⟩ | refine ⟨_, _, _, rfl, ?_⟩ | (refine ⟨?_, rfl, ?_⟩; focus (simp; done))) | ((with_reducible first | apply i_ldn | apply i_ldnq); exact rfl; exact rfl; exact rfl) | ((try with_reducible refine d_reg ?_); simp only [go_sem, Nat.reduceAdd, Nat.reduceEqDiff, Int.reduceToNat, Nat.reduceMul, Nat.reduceSub]) | clear hK K)
    all_goals try contradiction
    (with_reducible first | apply i_ret0 | apply i_ret2 | apply i_ret3 | apply i_ret); exact rfl
    rfl
/-- A world that is new. -/
structure Wnew (S : St) (sb n : Nat) (w : Wo) : Prop where
  ok : w.ok S sb 80
  wi : ∃ ρ, Wi w.Z sb 80 w.G ρ
  g : w.G = ⟨w.G.q, 0, 40, 1, [], 0, false⟩
  s : S = ⟨S.q, 40, 8, 1⟩
  p : w.P = Po.new w.P.q w.P.fb S.q w.G.q n
  z : ∀ j, 40 ≤ j → j < 80 → w.Z.get ((j : Nat) : Int) = wh []
set_option maxHeartbeats 1000000 in
theorem g41 (n : Nat) (h1 : 2 ≤ n) (h2 : n ≤ 64) : Fn eP Tryz.prog 41 #[.int .i64 (n : Int)] [] fun y X => ∃ (wb sb : Nat) (S : St) (w : Wo), y = some ⟨wb, 0, none⟩ ∧ X = wld wb sb S.q w.G.q w.P.q g0 :: wos S sb w ∧ Wnew S sb n w := fun L => by
  refine c41_fn rfl rfl ?_
  repeat' ((fail_if_success with_reducible refine nph ?_); first | (with_reducible first | (refine d_seq ?_; intro K hK) | (refine hK _ _ ?_; clear hK K) | (refine SG.p ?_; try intro b)) | ((with_reducible refine SC.p ?_); refine And.intro ?_ ?_) <;> intro hc <;> try simp only [push_cast, Int.reduceEq, Int.reduceLT, Int.reduceLE, Int.reduceNe] at hc | with_reducible refine r_rq (by first | decide | omega) ?_ | ((with_reducible refine SL.p ?_); first | refine ⟨_, rfl, ?_⟩ | refine ⟨_, _, _, rfl, ?_⟩ | (refine ⟨?_, rfl, ?_⟩; focus (simp; done))) | ((with_reducible first | apply i_ldn | apply i_ldnq); exact rfl; exact rfl; exact rfl) | ((try with_reducible refine d_reg ?_); simp only [go_sem, Nat.reduceAdd, Nat.reduceEqDiff, Int.reduceToNat, Nat.reduceMul, Nat.reduceSub]) | clear hK K)
  refine i_cal (F25 80 (by decide) (by decide)) ?_
  rintro y X ⟨sb, bb, mb, rfl, rfl⟩
  have hc0 : (Dk.new sb bb mb 80).calm sb 80 := Dk.calm.new (by decide) (by decide)
  have hz : ∀ m, m < 40 → at4 ((Dk.new sb bb mb 80).get ((0 + m : Nat) : Int)) = 0 := fun m hm => by rw [new_get (by omega)]; exact at4_nil
  have hz2 : ∀ j, j < 80 → (Dk.new sb bb mb 80).get ((j : Nat) : Int) = wh [] := fun j hj => new_get hj
  generalize Dk.new sb bb mb 80 = Z at *
  repeat' ((fail_if_success with_reducible refine nph ?_); first | (with_reducible first | (refine d_seq ?_; intro K hK) | (refine hK _ _ ?_; clear hK K) | (refine SG.p ?_; try intro b)) | ((with_reducible refine SC.p ?_); refine And.intro ?_ ?_) <;> intro hc <;> try simp only [push_cast, Int.reduceEq, Int.reduceLT, Int.reduceLE, Int.reduceNe] at hc | with_reducible refine r_rq (by first | decide | omega) ?_ | ((with_reducible refine SL.p ?_); first | refine ⟨_, rfl, ?_⟩ | refine ⟨_, _, _, rfl, ?_⟩ | (refine ⟨?_, rfl, ?_⟩; focus (simp; done))) | ((with_reducible first | apply i_ldn | apply i_ldnq); exact rfl; exact rfl; exact rfl) | ((try with_reducible refine d_reg ?_); simp only [go_sem, Nat.reduceAdd, Nat.reduceEqDiff, Int.reduceToNat, Nat.reduceMul, Nat.reduceSub]) | clear hK K)
  all_goals try contradiction
  refine i_cal (wopenz hc0 hz (by decide) (by decide) (by decide) (by decide : 1 ≤ 1) (by decide)) ?_
  rintro y X ⟨q, Y, ρ, rfl, rfl, hW, hE, hG⟩
  repeat' ((fail_if_success with_reducible refine nph ?_); first | (with_reducible first | (refine d_seq ?_; intro K hK) | (refine hK _ _ ?_; clear hK K) | (refine SG.p ?_; try intro b)) | ((with_reducible refine SC.p ?_); refine And.intro ?_ ?_) <;> intro hc <;> try simp only [push_cast, Int.reduceEq, Int.reduceLT, Int.reduceLE, Int.reduceNe] at hc | with_reducible refine r_rq (by first | decide | omega) ?_ | ((with_reducible refine SL.p ?_); first | refine ⟨_, rfl, ?_⟩ | refine ⟨_, _, _, rfl, ?_⟩ | (refine ⟨?_, rfl, ?_⟩; focus (simp; done))) | ((with_reducible first | apply i_ldn | apply i_ldnq); exact rfl; exact rfl; exact rfl) | ((try with_reducible refine d_reg ?_); simp only [go_sem, Nat.reduceAdd, Nat.reduceEqDiff, Int.reduceToNat, Nat.reduceMul, Nat.reduceSub]) | clear hK K)
  have ST := f51 Y hW.calm.ok 40 8 1 (by unfold wf64; decide) (by unfold wf64; decide) (by unfold wf64; decide)
  rw [hW.calm.sb, hW.calm.n] at ST
  refine i_cal ST ?_
  rintro y X hX
  rw [if_neg (by decide), if_neg (by decide)] at hX
  obtain ⟨⟨Sq, Sb, Sp, Sg⟩, e1, e2, e3, hS, rfl, rfl⟩ := hX
  obtain rfl : Sb = 40 := by dsimp only at e1; omega
  obtain rfl : Sp = 8 := by dsimp only at e2; omega
  obtain rfl : Sg = 1 := by dsimp only at e3; omega
  repeat' ((fail_if_success with_reducible refine nph ?_); first | (with_reducible first | (refine d_seq ?_; intro K hK) | (refine hK _ _ ?_; clear hK K) | (refine SG.p ?_; try intro b)) | ((with_reducible refine SC.p ?_); refine And.intro ?_ ?_) <;> intro hc <;> try simp only [push_cast, Int.reduceEq, Int.reduceLT, Int.reduceLE, Int.reduceNe] at hc | with_reducible refine r_rq (by first | decide | omega) ?_ | ((with_reducible refine SL.p ?_); first | refine ⟨_, rfl, ?_⟩ | refine ⟨_, _, _, rfl, ?_⟩ | (refine ⟨?_, rfl, ?_⟩; focus (simp; done))) | ((with_reducible first | apply i_ldn | apply i_ldnq); exact rfl; exact rfl; exact rfl) | ((try with_reducible refine d_reg ?_); simp only [go_sem, Nat.reduceAdd, Nat.reduceEqDiff, Int.reduceToNat, Nat.reduceMul, Nat.reduceSub]) | clear hK K)
  refine i_cal (g42 Sq q n h1 h2) ?_
  rintro y X ⟨pq, fb, rfl, rfl⟩
  repeat' ((fail_if_success with_reducible refine nph ?_); first | (with_reducible first | (refine d_seq ?_; intro K hK) | (refine hK _ _ ?_; clear hK K) | (refine SG.p ?_; try intro b)) | ((with_reducible refine SC.p ?_); refine And.intro ?_ ?_) <;> intro hc <;> try simp only [push_cast, Int.reduceEq, Int.reduceLT, Int.reduceLE, Int.reduceNe] at hc | with_reducible refine r_rq (by first | decide | omega) ?_ | ((with_reducible refine SL.p ?_); first | refine ⟨_, rfl, ?_⟩ | refine ⟨_, _, _, rfl, ?_⟩ | (refine ⟨?_, rfl, ?_⟩; focus (simp; done))) | ((with_reducible first | apply i_ldn | apply i_ldnq); exact rfl; exact rfl; exact rfl) | ((try with_reducible refine d_reg ?_); simp only [go_sem, Nat.reduceAdd, Nat.reduceEqDiff, Int.reduceToNat, Nat.reduceMul, Nat.reduceSub]) | clear hK K)
  all_goals try contradiction
  rename Nat => wb
  refine i_done (e := eP) (some ⟨wb, 0, none⟩) (wld wb sb Sq q pq g0 :: wos ⟨Sq, 40, 8, 1⟩ sb ⟨Po.new pq fb Sq q n, ⟨q, 0, 40, 1, [], 0, false⟩, Y⟩) (hs := ?_) rfl ⟨wb, sb, ⟨Sq, 40, 8, 1⟩, ⟨Po.new pq fb Sq q n, ⟨q, 0, 40, 1, [], 0, false⟩, Y⟩, rfl, rfl, ?_⟩
  · have e : wld wb sb Sq q pq g0 = ar wb 81 [.pointer (some ⟨sb, 0, none⟩), .pointer (some ⟨Sq, 0, none⟩), .pointer (some ⟨q, 0, none⟩), .pointer (some ⟨pq, 0, none⟩), str [], str [], str [], str [], str [], str [], str [], str [], .int .i64 0, .int .i64 0, .int .i64 0, .int .i64 0, .int .i64 0, .int .i64 0, .int .i64 0, .int .i64 0, .int .i64 0, .int .i64 0, .int .i64 0, .int .i64 0, .int .i64 0, .int .i64 0, .int .i64 0, .int .i64 0] := rfl
    rw [e]
    exact ⟨SX.p⟩
  · refine ⟨⟨new_okP h1 h2, hW.calm.ok, hW.calm.sb, hW.calm.n, hW.ok, hS, rfl, rfl⟩, ⟨ρ, hW⟩, rfl, rfl, rfl, fun j h3 h4 => ?_⟩
    rw [hG j h4, if_neg (show ¬ j = 0 by omega)]
    exact hz2 j h4
end Go.Sp
/- Records as arguments. -/
namespace Go.Sp
open Go Go.Proofs
set_option linter.unusedSimpArgs false
set_option linter.unusedVariables false
end Go.Sp
/- The pool's law: set. -/
namespace Go.Sp
open Go Go.Proofs
set_option linter.unusedSimpArgs false
set_option linter.unusedVariables false
set_option maxRecDepth 10000
theorem wset_ok {S : St} {sb n : Nat} {w : Wo} (h : w.ok S sb n) (id : Int) (text : List UInt8) (lsn : Int) : (wset S w id text lsn).2.ok S sb n ∧ w.P.like (wset S w id text lsn).2.P ∧ (wset S w id text lsn).2.G.q = w.G.q := by
  obtain ⟨a, b, c, d, e⟩ := hld_ok h id
  unfold wset
  split
  · exact ⟨h, .rfl', rfl⟩
  · split
    · exact ⟨h, .rfl', rfl⟩
    · generalize hld S w id = r at *
      obtain ⟨⟨o, e2⟩, w2⟩ := r
      dsimp only at a b c d e ⊢
      cases o with
      | none => exact ⟨a, b, c⟩
      | some i => exact ⟨a.mvP (mod_like _ _ _) a.p.h, b.tr (mod_like _ _ _), c⟩
def Gh.put (g : Gh) (id : Nat) (t : List UInt8) (n : Int) : Gh := { g with txt := g.txt.set id t, lsn := g.lsn.set id n }
theorem Gh.put_ok {g : Gh} (h : g.ok) (id : Nat) (t : List UInt8) (n : Int) : (g.put id t n).ok := ⟨by simpa [Gh.put] using h.t, by simpa [Gh.put] using h.l, h.p⟩
def wst2 (g : Gh) (id : Int) (c : UInt8) (at' : Int) (b : Int × Wo) : Bool × Wo × Gh :=
  if id < 0 ∨ 8 ≤ id then (decide (b.1 = 6), b.2, g) else if b.1 = 7 then (decide (2 ≤ npn g.pin 8), b.2, g) else (decide (b.1 = 0), b.2, g.put id.toNat (fl c) at')
def wst (S : St) (w : Wo) (g : Gh) (id : Int) (c : UInt8) : Bool × Wo × Gh :=
  if (w.G.append (cm (c.toNat : Int))).1.2 = 0 then wst2 g id c (w.G.append (cm (c.toNat : Int))).1.1 (wset S ⟨w.P, (w.G.append (cm (c.toNat : Int))).2, w.Z⟩ id (fl c) (w.G.append (cm (c.toNat : Int))).1.1)
  else (decide ((w.G.append (cm (c.toNat : Int))).1.2 = 7), ⟨w.P, (w.G.append (cm (c.toNat : Int))).2, w.Z⟩, g)
theorem append_okG {G : Lg} {n : Nat} (hG : G.ok n) (c : Rc) : (G.append c).2.ok n ∧ (G.append c).2.q = G.q := by
  unfold Lg.append Lg.add
  split
  · exact ⟨hG, rfl⟩
  · split
    · split
      · exact ⟨hG, rfl⟩
      · have hdu := hG.du
        exact ⟨⟨hG.s1, hG.fit, hG.n1, hG.r1, hG.r2, by dsimp only; rw [List.length_append]; omega, by dsimp only; rw [List.length_append]; omega⟩, rfl⟩
    · exact ⟨hG, rfl⟩
theorem wst_ok {S : St} {sb n : Nat} {w : Wo} (h : w.ok S sb n) {g : Gh} (hg : g.ok) (id : Int) (c : UInt8) : (wst S w g id c).2.1.ok S sb n ∧ w.P.like (wst S w g id c).2.1.P ∧ (wst S w g id c).2.1.G.q = w.G.q ∧ (wst S w g id c).2.2.ok := by
  obtain ⟨a1, a2⟩ := append_okG h.g (cm (c.toNat : Int))
  unfold wst
  generalize w.G.append (cm (c.toNat : Int)) = a at *
  obtain ⟨⟨at', e⟩, G2⟩ := a
  dsimp only at a1 a2 ⊢
  have h2 : (⟨w.P, G2, w.Z⟩ : Wo).ok S sb n := ⟨h.p, h.z, h.sb, h.nn, a1, h.s, h.st, h.lg.trans a2.symm⟩
  split
  · obtain ⟨b1, b2, b3⟩ := wset_ok h2 id (fl c) at'
    generalize wset S ⟨w.P, G2, w.Z⟩ id (fl c) at' = b at *
    unfold wst2
    split
    · exact ⟨b1, b2, b3.trans a2, hg⟩
    · split
      · exact ⟨b1, b2, b3.trans a2, hg⟩
      · exact ⟨b1, b2, b3.trans a2, Gh.put_ok hg _ _ _⟩
  · exact ⟨h2, .rfl', a2, hg⟩
set_option maxHeartbeats 400000 in
theorem g47 (wb : Nat) (S : St) (sb n : Nat) (w : Wo) (h : w.ok S sb n) (g : Gh) (hg : g.ok) (id : Int) (c : UInt8) : Fq eB Tryz.prog 47 #[.pointer (some ⟨wb, 0, none⟩), .int .i64 id, .int .u8 (c.toNat : Int)] (wld wb sb S.q w.G.q w.P.q g :: wos S sb w) (wld wb sb S.q w.G.q w.P.q (wst S w g id c).2.2 :: wos S sb (wst S w g id c).2.1) (wst S w g id c).1 := fun L => by
  have hfit := h.g.fit
  have hn1 := h.g.n1
  have AP := g20 w.G sb h.g.le (by omega) (dk w.Z) ⟨7, (c.toNat : Int), 1, 0, 0, [], [], [], 0, (none, 0, 0), (none, 0, 0), 0, 0⟩ (cm (c.toNat : Int)) (cm_at _ _)
  obtain ⟨a1, a2⟩ := append_okG h.g (cm (c.toNat : Int))
  have PN := g93 wb sb S.q w.G.q w.P.q g hg
  have FL := f47 c
  have hc8 := c.toNat_lt
  have ew : IntKind.wrap .i64 (c.toNat : Int) = (c.toNat : Int) := w64 (by omega) (by omega)
  generalize hR : wst S w g id c = R
  unfold wst at hR
  generalize w.G.append (cm (c.toNat : Int)) = a at *
  obtain ⟨⟨at', e⟩, G2⟩ := a
  dsimp only at a1 a2 AP hR
  have h2 : (⟨w.P, G2, w.Z⟩ : Wo).ok S sb n := ⟨h.p, h.z, h.sb, h.nn, a1, h.s, h.st, h.lg.trans a2.symm⟩
  refine c47_fn rfl rfl ?_
  by_cases he : e = 0
  · subst he
    rw [if_pos rfl] at hR
    have WS := g43 S sb n ⟨w.P, G2, w.Z⟩ h2 id (fl c) at'
    generalize wset S ⟨w.P, G2, w.Z⟩ id (fl c) at' = b at *
    obtain ⟨e2, w2⟩ := b
    unfold wst2 at hR
    dsimp only at WS hR
    repeat' (first | rw [ew] | (fail_if_success with_reducible refine nph ?_); first | (with_reducible first | (refine d_seq ?_; intro K hK) | (refine hK _ _ ?_; clear hK K) | (refine SG.p ?_; try intro b)) | ((with_reducible refine SC.p ?_); refine And.intro ?_ ?_) <;> intro hc <;> try simp only [push_cast, Int.reduceEq, Int.reduceLT, Int.reduceLE, Int.reduceNe] at hc | with_reducible refine r_rq (by first | decide | omega) ?_ | ((with_reducible refine SL.p ?_); first | refine ⟨_, rfl, ?_⟩ | refine ⟨_, _, _, rfl, ?_⟩ | (refine ⟨?_, rfl, ?_⟩; focus (simp; done))) | ((with_reducible first | apply i_ldn | apply i_ldnq); exact rfl; exact rfl; exact rfl) | ((try with_reducible refine d_reg ?_); simp only [go_sem, Nat.reduceAdd, Nat.reduceEqDiff, Int.reduceToNat, Nat.reduceMul, Nat.reduceSub]) | clear hK K)
    refine i_clq AP ?_
    repeat' ((fail_if_success with_reducible refine nph ?_); first | (with_reducible first | (refine d_seq ?_; intro K hK) | (refine hK _ _ ?_; clear hK K) | (refine SG.p ?_; try intro b)) | ((with_reducible refine SC.p ?_); refine And.intro ?_ ?_) <;> intro hc <;> try simp only [push_cast, Int.reduceEq, Int.reduceLT, Int.reduceLE, Int.reduceNe] at hc | with_reducible refine r_rq (by first | decide | omega) ?_ | ((with_reducible refine SL.p ?_); first | refine ⟨_, rfl, ?_⟩ | refine ⟨_, _, _, rfl, ?_⟩ | (refine ⟨?_, rfl, ?_⟩; focus (simp; done))) | ((with_reducible first | apply i_ldn | apply i_ldnq); exact rfl; exact rfl; exact rfl) | ((try with_reducible refine d_reg ?_); simp only [go_sem, Nat.reduceAdd, Nat.reduceEqDiff, Int.reduceToNat, Nat.reduceMul, Nat.reduceSub]) | clear hK K)
    all_goals try contradiction
    refine r_ph0 ?_
    repeat' ((fail_if_success with_reducible refine nph ?_); first | (with_reducible first | (refine d_seq ?_; intro K hK) | (refine hK _ _ ?_; clear hK K) | (refine SG.p ?_; try intro b)) | ((with_reducible refine SC.p ?_); refine And.intro ?_ ?_) <;> intro hc <;> try simp only [push_cast, Int.reduceEq, Int.reduceLT, Int.reduceLE, Int.reduceNe] at hc | with_reducible refine r_rq (by first | decide | omega) ?_ | ((with_reducible refine SL.p ?_); first | refine ⟨_, rfl, ?_⟩ | refine ⟨_, _, _, rfl, ?_⟩ | (refine ⟨?_, rfl, ?_⟩; focus (simp; done))) | ((with_reducible first | apply i_ldn | apply i_ldnq); exact rfl; exact rfl; exact rfl) | ((try with_reducible refine d_reg ?_); simp only [go_sem, Nat.reduceAdd, Nat.reduceEqDiff, Int.reduceToNat, Nat.reduceMul, Nat.reduceSub]) | clear hK K)
    refine i_clp FL ?_
    repeat' ((fail_if_success with_reducible refine nph ?_); first | (with_reducible first | (refine d_seq ?_; intro K hK) | (refine hK _ _ ?_; clear hK K) | (refine SG.p ?_; try intro b)) | ((with_reducible refine SC.p ?_); refine And.intro ?_ ?_) <;> intro hc <;> try simp only [push_cast, Int.reduceEq, Int.reduceLT, Int.reduceLE, Int.reduceNe] at hc | with_reducible refine r_rq (by first | decide | omega) ?_ | ((with_reducible refine SL.p ?_); first | refine ⟨_, rfl, ?_⟩ | refine ⟨_, _, _, rfl, ?_⟩ | (refine ⟨?_, rfl, ?_⟩; focus (simp; done))) | ((with_reducible first | apply i_ldn | apply i_ldnq); exact rfl; exact rfl; exact rfl) | ((try with_reducible refine d_reg ?_); simp only [go_sem, Nat.reduceAdd, Nat.reduceEqDiff, Int.reduceToNat, Nat.reduceMul, Nat.reduceSub]) | clear hK K)
    refine i_clq WS ?_
    by_cases hr : id < 0 ∨ 8 ≤ id
    · rw [if_pos hr] at hR
      subst hR
      repeat' ((fail_if_success with_reducible refine nph ?_); first | (with_reducible first | (refine d_seq ?_; intro K hK) | (refine hK _ _ ?_; clear hK K) | (refine SG.p ?_; try intro b)) | ((with_reducible refine SC.p ?_); refine And.intro ?_ ?_) <;> intro hc <;> try simp only [push_cast, Int.reduceEq, Int.reduceLT, Int.reduceLE, Int.reduceNe] at hc | with_reducible refine r_rq (by first | decide | omega) ?_ | ((with_reducible refine SL.p ?_); first | refine ⟨_, rfl, ?_⟩ | refine ⟨_, _, _, rfl, ?_⟩ | (refine ⟨?_, rfl, ?_⟩; focus (simp; done))) | ((with_reducible first | apply i_ldn | apply i_ldnq); exact rfl; exact rfl; exact rfl) | ((try with_reducible refine d_reg ?_); simp only [go_sem, Nat.reduceAdd, Nat.reduceEqDiff, Int.reduceToNat, Nat.reduceMul, Nat.reduceSub]) | clear hK K)
      all_goals try (exfalso; omega)
      all_goals try contradiction
      all_goals
        (with_reducible first | apply i_ret0 | apply i_ret2 | apply i_ret3 | apply i_ret); exact rfl
        rfl
    · rw [if_neg hr] at hR
      by_cases h7 : e2 = 7
      · subst h7
        rw [if_pos rfl] at hR
        subst hR
        repeat' ((fail_if_success with_reducible refine nph ?_); first | (with_reducible first | (refine d_seq ?_; intro K hK) | (refine hK _ _ ?_; clear hK K) | (refine SG.p ?_; try intro b)) | ((with_reducible refine SC.p ?_); refine And.intro ?_ ?_) <;> intro hc <;> try simp only [push_cast, Int.reduceEq, Int.reduceLT, Int.reduceLE, Int.reduceNe] at hc | with_reducible refine r_rq (by first | decide | omega) ?_ | ((with_reducible refine SL.p ?_); first | refine ⟨_, rfl, ?_⟩ | refine ⟨_, _, _, rfl, ?_⟩ | (refine ⟨?_, rfl, ?_⟩; focus (simp; done))) | ((with_reducible first | apply i_ldn | apply i_ldnq); exact rfl; exact rfl; exact rfl) | ((try with_reducible refine d_reg ?_); simp only [go_sem, Nat.reduceAdd, Nat.reduceEqDiff, Int.reduceToNat, Nat.reduceMul, Nat.reduceSub]) | clear hK K)
        all_goals try (exfalso; omega)
        all_goals try contradiction
        refine i_clp PN ?_
        repeat' ((fail_if_success with_reducible refine nph ?_); first | (with_reducible first | (refine d_seq ?_; intro K hK) | (refine hK _ _ ?_; clear hK K) | (refine SG.p ?_; try intro b)) | ((with_reducible refine SC.p ?_); refine And.intro ?_ ?_) <;> intro hc <;> try simp only [push_cast, Int.reduceEq, Int.reduceLT, Int.reduceLE, Int.reduceNe] at hc | with_reducible refine r_rq (by first | decide | omega) ?_ | ((with_reducible refine SL.p ?_); first | refine ⟨_, rfl, ?_⟩ | refine ⟨_, _, _, rfl, ?_⟩ | (refine ⟨?_, rfl, ?_⟩; focus (simp; done))) | ((with_reducible first | apply i_ldn | apply i_ldnq); exact rfl; exact rfl; exact rfl) | ((try with_reducible refine d_reg ?_); simp only [go_sem, Nat.reduceAdd, Nat.reduceEqDiff, Int.reduceToNat, Nat.reduceMul, Nat.reduceSub]) | clear hK K)
        (with_reducible first | apply i_ret0 | apply i_ret2 | apply i_ret3 | apply i_ret); exact rfl
        dsimp only
        rw [decide_eq_decide]
        omega
      · rw [if_neg h7] at hR
        unfold Gh.put at hR
        subst hR
        obtain ⟨m, rfl⟩ : ∃ m : Nat, id = (m : Int) := ⟨id.toNat, by omega⟩
        have hm : m < 8 := by omega
        have ST := set_txt (sb := sb) (sq := S.q) (lq := w.G.q) (pq := w.P.q) hg hm (fl c)
        have hg2 : ({ g with txt := g.txt.set m (fl c) } : Gh).ok := ⟨by simpa using hg.t, hg.l, hg.p⟩
        have SL := set_lsn (sb := sb) (sq := S.q) (lq := w.G.q) (pq := w.P.q) hg2 hm at'
        have gl := gcl_len (sb := sb) (sq := S.q) (lq := w.G.q) (pq := w.P.q) hg
        have gl2 := gcl_len (sb := sb) (sq := S.q) (lq := w.G.q) (pq := w.P.q) hg2
        repeat' ((fail_if_success with_reducible refine nph ?_); first | (with_reducible first | (refine d_seq ?_; intro K hK) | (refine hK _ _ ?_; clear hK K) | (refine SG.p ?_; try intro b)) | ((with_reducible refine SC.p ?_); refine And.intro ?_ ?_) <;> intro hc <;> try simp only [push_cast, Int.reduceEq, Int.reduceLT, Int.reduceLE, Int.reduceNe] at hc | with_reducible refine r_rq (by first | decide | omega) ?_ | ((with_reducible refine SL.p ?_); first | refine ⟨_, rfl, ?_⟩ | refine ⟨_, _, _, rfl, ?_⟩ | (refine ⟨?_, rfl, ?_⟩; focus (simp; done))) | ((with_reducible first | apply i_ldn | apply i_ldnq); exact rfl; exact rfl; exact rfl) | ((try with_reducible refine d_reg ?_); simp only [go_sem, Nat.reduceAdd, Nat.reduceEqDiff, Int.reduceToNat, Nat.reduceMul, Nat.reduceSub]) | clear hK K)
        all_goals try (exfalso; omega)
        all_goals try contradiction
        refine i_clp FL ?_
        repeat' ((fail_if_success with_reducible refine nph ?_); first | (with_reducible first | (refine d_seq ?_; intro K hK) | (refine hK _ _ ?_; clear hK K) | (refine SG.p ?_; try intro b)) | ((with_reducible refine SC.p ?_); refine And.intro ?_ ?_) <;> intro hc <;> try simp only [push_cast, Int.reduceEq, Int.reduceLT, Int.reduceLE, Int.reduceNe] at hc | with_reducible refine r_rq (by first | decide | omega) ?_ | ((with_reducible refine SL.p ?_); first | refine ⟨_, rfl, ?_⟩ | refine ⟨_, _, _, rfl, ?_⟩ | (refine ⟨?_, rfl, ?_⟩; focus (simp; done))) | ((with_reducible first | apply i_ldn | apply i_ldnq); exact rfl; exact rfl; exact rfl) | ((try with_reducible refine d_reg ?_); simp only [go_sem, Nat.reduceAdd, Nat.reduceEqDiff, Int.reduceToNat, Nat.reduceMul, Nat.reduceSub]) | clear hK K)
        refine i_st (by rw [gl]; omega) rfl ?_
        rw [ST]
        repeat' ((fail_if_success with_reducible refine nph ?_); first | (with_reducible first | (refine d_seq ?_; intro K hK) | (refine hK _ _ ?_; clear hK K) | (refine SG.p ?_; try intro b)) | ((with_reducible refine SC.p ?_); refine And.intro ?_ ?_) <;> intro hc <;> try simp only [push_cast, Int.reduceEq, Int.reduceLT, Int.reduceLE, Int.reduceNe] at hc | with_reducible refine r_rq (by first | decide | omega) ?_ | ((with_reducible refine SL.p ?_); first | refine ⟨_, rfl, ?_⟩ | refine ⟨_, _, _, rfl, ?_⟩ | (refine ⟨?_, rfl, ?_⟩; focus (simp; done))) | ((with_reducible first | apply i_ldn | apply i_ldnq); exact rfl; exact rfl; exact rfl) | ((try with_reducible refine d_reg ?_); simp only [go_sem, Nat.reduceAdd, Nat.reduceEqDiff, Int.reduceToNat, Nat.reduceMul, Nat.reduceSub]) | clear hK K)
        refine i_st (by rw [gl2]; omega) rfl ?_
        rw [SL]
        repeat' ((fail_if_success with_reducible refine nph ?_); first | (with_reducible first | (refine d_seq ?_; intro K hK) | (refine hK _ _ ?_; clear hK K) | (refine SG.p ?_; try intro b)) | ((with_reducible refine SC.p ?_); refine And.intro ?_ ?_) <;> intro hc <;> try simp only [push_cast, Int.reduceEq, Int.reduceLT, Int.reduceLE, Int.reduceNe] at hc | with_reducible refine r_rq (by first | decide | omega) ?_ | ((with_reducible refine SL.p ?_); first | refine ⟨_, rfl, ?_⟩ | refine ⟨_, _, _, rfl, ?_⟩ | (refine ⟨?_, rfl, ?_⟩; focus (simp; done))) | ((with_reducible first | apply i_ldn | apply i_ldnq); exact rfl; exact rfl; exact rfl) | ((try with_reducible refine d_reg ?_); simp only [go_sem, Nat.reduceAdd, Nat.reduceEqDiff, Int.reduceToNat, Nat.reduceMul, Nat.reduceSub]) | clear hK K)
        (with_reducible first | apply i_ret0 | apply i_ret2 | apply i_ret3 | apply i_ret); exact rfl
        rfl
  · rw [if_neg he] at hR
    subst hR
    repeat' (first | rw [ew] | (fail_if_success with_reducible refine nph ?_); first | (with_reducible first | (refine d_seq ?_; intro K hK) | (refine hK _ _ ?_; clear hK K) | (refine SG.p ?_; try intro b)) | ((with_reducible refine SC.p ?_); refine And.intro ?_ ?_) <;> intro hc <;> try simp only [push_cast, Int.reduceEq, Int.reduceLT, Int.reduceLE, Int.reduceNe] at hc | with_reducible refine r_rq (by first | decide | omega) ?_ | ((with_reducible refine SL.p ?_); first | refine ⟨_, rfl, ?_⟩ | refine ⟨_, _, _, rfl, ?_⟩ | (refine ⟨?_, rfl, ?_⟩; focus (simp; done))) | ((with_reducible first | apply i_ldn | apply i_ldnq); exact rfl; exact rfl; exact rfl) | ((try with_reducible refine d_reg ?_); simp only [go_sem, Nat.reduceAdd, Nat.reduceEqDiff, Int.reduceToNat, Nat.reduceMul, Nat.reduceSub]) | clear hK K)
    refine i_clq AP ?_
    repeat' ((fail_if_success with_reducible refine nph ?_); first | (with_reducible first | (refine d_seq ?_; intro K hK) | (refine hK _ _ ?_; clear hK K) | (refine SG.p ?_; try intro b)) | ((with_reducible refine SC.p ?_); refine And.intro ?_ ?_) <;> intro hc <;> try simp only [push_cast, Int.reduceEq, Int.reduceLT, Int.reduceLE, Int.reduceNe] at hc | with_reducible refine r_rq (by first | decide | omega) ?_ | ((with_reducible refine SL.p ?_); first | refine ⟨_, rfl, ?_⟩ | refine ⟨_, _, _, rfl, ?_⟩ | (refine ⟨?_, rfl, ?_⟩; focus (simp; done))) | ((with_reducible first | apply i_ldn | apply i_ldnq); exact rfl; exact rfl; exact rfl) | ((try with_reducible refine d_reg ?_); simp only [go_sem, Nat.reduceAdd, Nat.reduceEqDiff, Int.reduceToNat, Nat.reduceMul, Nat.reduceSub]) | clear hK K)
    all_goals try contradiction
    (with_reducible first | apply i_ret0 | apply i_ret2 | apply i_ret3 | apply i_ret); exact rfl
    rfl
end Go.Sp
/- The pool's law, in plain words: which frame goes. -/
namespace Go.Sp
open Go Go.Proofs
set_option linter.unusedSimpArgs false
set_option linter.unusedVariables false
set_option maxRecDepth 10000
theorem at_set {P : Po} {i j : Nat} {f : Fr} (hi : i < P.fs.length) : (P.mod i f).at j = if i = j then f else P.at j := by
  unfold Po.at Po.mod
  dsimp only
  rw [List.getD_eq_getElem?_getD, List.getD_eq_getElem?_getD, List.getElem?_set]
  by_cases h : i = j
  · subst h
    rw [if_pos rfl, if_pos rfl, if_pos hi]
    rfl
  · rw [if_neg h, if_neg h]
/-- Frames that are alike but for the mark of use. -/
def ulk (P P' : Po) : Prop := ∀ i, i < P.fs.length → ∃ u, P'.at i = { P.at i with used := u }
theorem ulk.rf {P : Po} : ulk P P := fun i _ => ⟨(P.at i).used, rfl⟩
theorem ulk.tr {P P' P2 : Po} (a : ulk P P') (hl : P'.fs.length = P.fs.length) (b : ulk P' P2) : ulk P P2 := fun i hi => by
  obtain ⟨u, h1⟩ := a i hi
  obtain ⟨v, h2⟩ := b i (by rw [hl]; exact hi)
  exact ⟨v, by rw [h2, h1]⟩
theorem ulk_use {P : Po} {i : Nat} (hi : i < P.fs.length) (u : Bool) (h : Nat) : ulk P { P with fs := P.fs.set i { P.at i with used := u }, hand := h } := fun j hj => by
  have e : ({ P with fs := P.fs.set i { P.at i with used := u }, hand := h } : Po).at j = (P.mod i { P.at i with used := u }).at j := rfl
  rw [e, at_set hi]
  by_cases hc : i = j
  · subst hc
    exact ⟨u, if_pos rfl⟩
  · rw [if_neg hc]
    exact ⟨(P.at j).used, rfl⟩
theorem vic_ulk : ∀ (k : Nat) (P : Po), P.ok → ulk P (vic k P).2 ∧ ∀ i, (vic k P).1 = some i → (P.at i).filled = false ∨ (P.at i).pins ≤ 0
  | 0, P, h => ⟨.rf, fun i e => by cases e⟩
  | k + 1, P, h => by
    have t1 : ulk P P.turn := fun i _ => ⟨(P.at i).used, rfl⟩
    unfold vic
    split
    · rename_i h0
      exact ⟨t1, fun i e => by cases e; exact .inl h0⟩
    · split
      · obtain ⟨a, b⟩ := vic_ulk k P.turn (turn_ok h)
        exact ⟨t1.tr rfl a, fun i e => b i e⟩
      · rename_i h1
        split
        · have hl : P.like { P.turn with fs := P.fs.set P.hand { P.at P.hand with used := false } } := ⟨rfl, rfl, rfl, rfl, List.length_set⟩
          obtain ⟨a, b⟩ := vic_ulk k _ (hl.ok h (turn_ok h).h)
          obtain ⟨_, _, c⟩ := vic_like k _ (hl.ok h (turn_ok h).h)
          have t2 : ulk P { P.turn with fs := P.fs.set P.hand { P.at P.hand with used := false } } := ulk_use h.h false _
          refine ⟨t2.tr hl.n a, fun i e => ?_⟩
          have hi := c i e
          rw [hl.n] at hi
          obtain ⟨u, hu⟩ := t2 i hi
          have := b i e
          rw [hu] at this
          exact this
        · exact ⟨t1, fun i e => by cases e; exact .inr (by omega)⟩
/-- How far the hand is from a place. -/
def dst (n h j : Nat) : Nat := if h ≤ j then j - h else n + j - h
/-- A frame that may go is found in time. -/
theorem vic_some : ∀ (k : Nat) (P : Po) (j : Nat), P.ok → j < P.fs.length → ((P.at j).filled = false ∨ (P.at j).pins ≤ 0) → dst P.fs.length P.hand j + (if (P.at j).used = true then P.fs.length else 0) < k → (vic k P).1 ≠ none
  | 0, P, j, h, hj, hf, hk => by omega
  | k + 1, P, j, h, hj, hf, hk => by
    have hh := h.h
    have h2 := h.n2
    have hd : ∀ x, P.hand ≠ j → dst P.fs.length ((P.hand + 1) % P.fs.length) j + 1 = dst P.fs.length P.hand j ∨ x = (0 : Nat) ∧ False := fun x hne => by
      left
      unfold dst
      rcases Nat.lt_or_ge (P.hand + 1) P.fs.length with y | y
      · rw [Nat.mod_eq_of_lt y]
        split <;> split <;> omega
      · have : P.hand + 1 = P.fs.length := by omega
        rw [this, Nat.mod_self]
        split <;> split <;> omega
    unfold vic
    split
    · simp
    · rename_i c1
      split
      · rename_i c2
        have hne : P.hand ≠ j := fun e => by
          subst e
          rcases hf with x | x
          · exact c1 x
          · omega
        refine vic_some k P.turn j (turn_ok h) hj hf ?_
        rcases hd 0 hne with x | x
        · show dst P.fs.length ((P.hand + 1) % P.fs.length) j + (if (P.at j).used = true then P.fs.length else 0) < k
          omega
        · exact x.2.elim
      · split
        · rename_i c2 c3
          have hl : P.like { P.turn with fs := P.fs.set P.hand { P.at P.hand with used := false } } := ⟨rfl, rfl, rfl, rfl, List.length_set⟩
          have e : ({ P.turn with fs := P.fs.set P.hand { P.at P.hand with used := false } } : Po).at j = if P.hand = j then { P.at P.hand with used := false } else P.at j := at_set hh
          by_cases hne : P.hand = j
          · rw [if_pos hne] at e
            subst hne
            refine vic_some k _ P.hand (hl.ok h (turn_ok h).h) (by rw [hl.n]; exact hj) (by rw [e]; exact hf) ?_
            rw [e, hl.n]
            dsimp only
            rw [if_pos c3] at hk
            have hx : dst P.fs.length ((P.hand + 1) % P.fs.length) P.hand < P.fs.length := by
              unfold dst
              rcases Nat.lt_or_ge (P.hand + 1) P.fs.length with y | y
              · rw [Nat.mod_eq_of_lt y]
                split <;> omega
              · have : P.hand + 1 = P.fs.length := by omega
                rw [this, Nat.mod_self]
                split <;> omega
            have hz : dst P.fs.length P.hand P.hand = 0 := by unfold dst; rw [if_pos (Nat.le_refl _)]; omega
            show dst P.fs.length ((P.hand + 1) % P.fs.length) P.hand + (if false = true then P.fs.length else 0) < k
            rw [if_neg (by decide)]
            omega
          · rw [if_neg hne] at e
            refine vic_some k _ j (hl.ok h (turn_ok h).h) (by rw [hl.n]; exact hj) (by rw [e]; exact hf) ?_
            rw [e, hl.n]
            rcases hd 0 hne with x | x
            · show dst P.fs.length ((P.hand + 1) % P.fs.length) j + (if (P.at j).used = true then P.fs.length else 0) < k
              omega
            · exact x.2.elim
        · simp
theorem vic_none {P : Po} (h : P.ok) (hv : (vic (2 * P.fs.length + 1) P).1 = none) {j : Nat} (hj : j < P.fs.length) : (P.at j).filled = true ∧ 0 < (P.at j).pins := by
  have hh := h.h
  have hd : dst P.fs.length P.hand j < P.fs.length := by unfold dst; split <;> omega
  by_cases hf : (P.at j).filled = false ∨ (P.at j).pins ≤ 0
  · exact absurd hv (vic_some _ P j h hj hf (by split <;> omega))
  · refine ⟨?_, by omega⟩
    cases hc : (P.at j).filled
    · exact absurd (.inl hc) hf
    · rfl
end Go.Sp
/- The pool's law, in plain words: what holds of a pool and its pages. -/
namespace Go.Sp
open Go Go.Proofs
set_option linter.unusedSimpArgs false
set_option linter.unusedVariables false
set_option maxRecDepth 10000
abbrev Gh.T (g : Gh) (p : Nat) : List UInt8 := g.txt.getD p []
abbrev Gh.N (g : Gh) (p : Nat) : Int := g.lsn.getD p 0
abbrev Gh.P (g : Gh) (p : Nat) : Int := g.pin.getD p 0
/-- A frame is as its page should be. -/
structure Fok (g : Gh) (p : Nat) (f : Fr) : Prop where
  id : f.id = (p : Int)
  t : f.text = g.T p
  n : f.lsn = g.N p
  p : f.pins = g.P p
  d : f.dirty = true → 1 ≤ f.first ∧ f.first ≤ f.lsn
/-- A page is in a frame; a page is in a frame that is dirty. -/
def Rsd (P : Po) (p : Nat) : Prop := ∃ i, i < P.fs.length ∧ (P.at i).filled = true ∧ (P.at i).id = (p : Int)
def Drt (P : Po) (p : Nat) : Prop := ∃ i, i < P.fs.length ∧ (P.at i).filled = true ∧ (P.at i).id = (p : Int) ∧ (P.at i).dirty = true
structure Pv (S : St) (sb : Nat) (w : Wo) (g : Gh) : Prop where
  ok : w.ok S sb 80
  gok : g.ok
  sp : S.pages = 8
  bs : w.G.base + w.G.sectors ≤ S.base
  sec : w.G.sectors = 40
  wi : ∃ ρ, Wi w.Z sb 80 w.G ρ
  fr : ∀ i, i < w.P.fs.length → (w.P.at i).filled = true → ∃ p, p < 8 ∧ Fok g p (w.P.at i)
  un : ∀ i j, i < w.P.fs.length → j < w.P.fs.length → (w.P.at i).filled = true → (w.P.at j).filled = true → (w.P.at i).id = (w.P.at j).id → i = j
  cl : ∀ p, p < 8 → ¬ Drt w.P p → (w.Z.rpg S (p : Int) = ([], 0, 8) ∧ g.N p = 0 ∧ g.T p = []) ∨ (w.Z.rpg S (p : Int) = (g.T p, g.N p, 0) ∧ 1 ≤ g.N p ∧ g.N p ≤ (w.G.durable : Int))
  di : ∀ p, p < 8 → Drt w.P p → w.Z.rpg S (p : Int) = ([], 0, 8) ∨ ∃ t n, w.Z.rpg S (p : Int) = (t, n, 0) ∧ 1 ≤ n ∧ n ≤ (w.G.durable : Int) ∧ n < g.N p
  ls : ∀ p, p < 8 → 0 ≤ g.N p ∧ g.N p ≤ (w.G.all.length : Int)
  tx : ∀ p, p < 8 → 1 ≤ g.N p → (g.T p).length = 224
  pn : ∀ p, p < 8 → 0 ≤ g.P p ∧ (0 < g.P p → Rsd w.P p)
theorem Fok.use {g : Gh} {p : Nat} {f : Fr} (h : Fok g p f) (u : Bool) : Fok g p { f with used := u } := ⟨h.id, h.t, h.n, h.p, h.d⟩
theorem Rsd.ul {P P' : Po} (h : ulk P P') (hl : P'.fs.length = P.fs.length) (p : Nat) : Rsd P' p ↔ Rsd P p := by
  constructor
  · rintro ⟨i, h1, h2, h3⟩
    rw [hl] at h1
    obtain ⟨u, hu⟩ := h i h1
    rw [hu] at h2 h3
    exact ⟨i, h1, h2, h3⟩
  · rintro ⟨i, h1, h2, h3⟩
    obtain ⟨u, hu⟩ := h i h1
    exact ⟨i, by rw [hl]; exact h1, by rw [hu]; exact h2, by rw [hu]; exact h3⟩
theorem Drt.ul {P P' : Po} (h : ulk P P') (hl : P'.fs.length = P.fs.length) (p : Nat) : Drt P' p ↔ Drt P p := by
  constructor
  · rintro ⟨i, h1, h2, h3, h4⟩
    rw [hl] at h1
    obtain ⟨u, hu⟩ := h i h1
    rw [hu] at h2 h3 h4
    exact ⟨i, h1, h2, h3, h4⟩
  · rintro ⟨i, h1, h2, h3, h4⟩
    obtain ⟨u, hu⟩ := h i h1
    exact ⟨i, by rw [hl]; exact h1, by rw [hu]; exact h2, by rw [hu]; exact h3, by rw [hu]; exact h4⟩
/-- Marks of use turn nothing. -/
theorem Pv.ul {S : St} {sb : Nat} {w : Wo} {g : Gh} (h : Pv S sb w g) {P' : Po} (l : w.P.like P') (hh : P'.hand < w.P.fs.length) (u : ulk w.P P') : Pv S sb ⟨P', w.G, w.Z⟩ g := by
  have hn := l.n
  refine ⟨h.ok.mvP l hh, h.gok, h.sp, h.bs, h.sec, h.wi, fun i h1 h2 => ?_, fun i j h1 h2 h3 h4 h5 => ?_, fun p hp hd => h.cl p hp (fun x => hd ((Drt.ul u hn p).2 x)), fun p hp hd => h.di p hp ((Drt.ul u hn p).1 hd), h.ls, h.tx, fun p hp => ⟨(h.pn p hp).1, fun x => (Rsd.ul u hn p).2 ((h.pn p hp).2 x)⟩⟩
  · dsimp only at h1 h2 ⊢
    rw [hn] at h1
    obtain ⟨v, hv⟩ := u i h1
    rw [hv] at h2 ⊢
    obtain ⟨p, hp, hf⟩ := h.fr i h1 h2
    exact ⟨p, hp, hf.use v⟩
  · dsimp only at h1 h2 h3 h4 h5
    rw [hn] at h1 h2
    obtain ⟨v, hv⟩ := u i h1
    obtain ⟨v', hv'⟩ := u j h2
    rw [hv] at h3 h5
    rw [hv'] at h4 h5
    exact h.un i j h1 h2 h3 h4 h5
theorem cln_at {P : Po} {i : Nat} (hi : i < P.fs.length) (j : Nat) : (P.cln i).at j = if i = j then { P.at i with dirty := false, first := 0 } else P.at j := at_set hi
/-- A frame is saved. -/
theorem Pv.save {S : St} {sb : Nat} {w : Wo} {g : Gh} (h : Pv S sb w g) {i : Nat} (hi : i < w.P.fs.length) (hf : (w.P.at i).filled = true) :
    (svp S w i).1 = 0 ∧ Pv S sb (svp S w i).2 g ∧ w.P.like (svp S w i).2.P ∧ ((svp S w i).2.P.at i).filled = true ∧ ((svp S w i).2.P.at i).dirty = false ∧ ((svp S w i).2.P.at i).pins = (w.P.at i).pins ∧
      (∀ p, Rsd (svp S w i).2.P p ↔ Rsd w.P p) ∧ (svp S w i).2.G.all = w.G.all ∧ ∀ j, j ≠ i → (svp S w i).2.P.at j = w.P.at j := by
  cases hd : (w.P.at i).dirty
  · have e : svp S w i = (0, w) := by unfold svp; rw [if_pos hd]
    rw [e]
    exact ⟨rfl, h, .rfl', hf, hd, rfl, fun p => Iff.rfl, rfl, fun j _ => rfl⟩
  · obtain ⟨p, hp, F⟩ := h.fr i hi hf
    obtain ⟨ρ, hW⟩ := h.wi
    obtain ⟨d1, d2⟩ := F.d hd
    have hn1 : 1 ≤ g.N p := by rw [← F.n]; omega
    have hls := h.ls p hp
    obtain ⟨Y, ρ', d, e, W2, dd, dl, r1, r2⟩ := svp_calm h.ok hW h.bs hi F.id (by rw [h.sp]; exact hp) hd (by rw [F.t]; exact h.tx p hp hn1) (by omega) (by rw [F.n]; exact hls.2)
    have sok := (svp_ok h.ok hi).1
    rw [e] at sok ⊢
    have ca := cln_at hi
    have hlen : (w.P.cln i).fs.length = w.P.fs.length := List.length_set
    have hD : ∀ q, q ≠ p → (Drt (w.P.cln i) q ↔ Drt w.P q) := fun q hq => by
      constructor
      · rintro ⟨j, h1, h2, h3, h4⟩
        rw [hlen] at h1
        rw [ca] at h2 h3 h4
        by_cases hj : i = j
        · rw [if_pos hj] at h4
          cases h4
        · rw [if_neg hj] at h2 h3 h4
          exact ⟨j, h1, h2, h3, h4⟩
      · rintro ⟨j, h1, h2, h3, h4⟩
        have hj : ¬ i = j := fun x => by
          subst x
          rw [F.id] at h3
          omega
        exact ⟨j, by rw [hlen]; exact h1, by rw [ca, if_neg hj]; exact h2, by rw [ca, if_neg hj]; exact h3, by rw [ca, if_neg hj]; exact h4⟩
    have hDp : ¬ Drt (w.P.cln i) p := by
      rintro ⟨j, h1, h2, h3, h4⟩
      rw [hlen] at h1
      rw [ca] at h2 h3 h4
      by_cases hj : i = j
      · rw [if_pos hj] at h4
        cases h4
      · rw [if_neg hj] at h2 h3 h4
        exact hj (h.un i j hi h1 hf h2 (by rw [F.id, h3]))
    have hR : ∀ q, Rsd (w.P.cln i) q ↔ Rsd w.P q := fun q => by
      constructor
      · rintro ⟨j, h1, h2, h3⟩
        rw [hlen] at h1
        rw [ca] at h2 h3
        by_cases hj : i = j
        · rw [if_pos hj] at h3
          exact ⟨i, hi, hf, h3⟩
        · rw [if_neg hj] at h2 h3
          exact ⟨j, h1, h2, h3⟩
      · rintro ⟨j, h1, h2, h3⟩
        by_cases hj : i = j
        · exact ⟨i, by rw [hlen]; exact hi, by rw [ca, if_pos rfl]; exact hf, by rw [ca, if_pos rfl]; rw [hj]; exact h3⟩
        · exact ⟨j, by rw [hlen]; exact h1, by rw [ca, if_neg hj]; exact h2, by rw [ca, if_neg hj]; exact h3⟩
    have hat : (w.P.cln i).at i = { w.P.at i with dirty := false, first := 0 } := by rw [ca, if_pos rfl]
    refine ⟨rfl, ⟨sok, h.gok, h.sp, h.bs, h.sec, ⟨ρ', W2⟩, fun j h1 h2 => ?_, fun a b h1 h2 h3 h4 h5 => ?_, fun q hq hd' => ?_, fun q hq hd' => ?_, h.ls, h.tx, fun q hq => ⟨(h.pn q hq).1, fun x => (hR q).2 ((h.pn q hq).2 x)⟩⟩, ⟨rfl, rfl, rfl, rfl, hlen⟩, by dsimp only; rw [hat]; exact hf, by dsimp only; rw [hat], by dsimp only; rw [hat], hR, rfl, fun j hj => by dsimp only; rw [ca, if_neg (fun x => hj x.symm)]⟩
    · dsimp only at h1 h2 ⊢
      rw [hlen] at h1
      rw [ca] at h2 ⊢
      by_cases hj : i = j
      · rw [if_pos hj]
        exact ⟨p, hp, F.id, F.t, F.n, F.p, fun x => by cases x⟩
      · rw [if_neg hj] at h2 ⊢
        exact h.fr j h1 h2
    · dsimp only at h1 h2 h3 h4 h5
      rw [hlen] at h1 h2
      rw [ca] at h3 h5
      rw [ca] at h4 h5
      have key : ∀ x, (if i = x then { w.P.at i with dirty := false, first := 0 } else w.P.at x).filled = (w.P.at x).filled ∧ (if i = x then { w.P.at i with dirty := false, first := 0 } else w.P.at x).id = (w.P.at x).id := fun x => by
        by_cases hx : i = x
        · rw [if_pos hx, ← hx]
          exact ⟨rfl, rfl⟩
        · rw [if_neg hx]
          exact ⟨rfl, rfl⟩
      rw [(key a).1] at h3
      rw [(key b).1] at h4
      rw [(key a).2, (key b).2] at h5
      exact h.un a b h1 h2 h3 h4 h5
    · dsimp only at hd' ⊢
      by_cases hqp : q = p
      · subst hqp
        right
        refine ⟨by rw [r1, F.t, F.n], hn1, ?_⟩
        rw [← F.n]
        exact dl
      · rw [r2 q (by rw [h.sp]; exact hq) hqp]
        rcases h.cl q hq (fun x => hd' ((hD q hqp).2 x)) with x | ⟨x, y, z⟩
        · exact .inl x
        · exact .inr ⟨x, y, by omega⟩
    · dsimp only at hd' ⊢
      have hqp : q ≠ p := fun x => by subst x; exact hDp hd'
      rw [r2 q (by rw [h.sp]; exact hq) hqp]
      rcases h.di q hq ((hD q hqp).1 hd') with x | ⟨t, n, x, y, z, u⟩
      · exact .inl x
      · exact .inr ⟨t, n, x, y, by omega, u⟩
end Go.Sp
/- The pool's law, in plain words: hold keeps what holds. -/
namespace Go.Sp
open Go Go.Proofs
set_option linter.unusedSimpArgs false
set_option linter.unusedVariables false
set_option maxRecDepth 10000
theorem put_at {P : Po} {i : Nat} {f : Fr} (hi : i < P.fs.length) (j : Nat) : (P.put i f).at j = if i = j then f else P.at j := at_set hi
theorem Pv.put {S : St} {sb : Nat} {w : Wo} {g : Gh} (h : Pv S sb w g) {i : Nat} (hi : i < w.P.fs.length) (hc : (w.P.at i).filled = false ∨ ((w.P.at i).dirty = false ∧ (w.P.at i).pins ≤ 0)) {p : Nat} (hp : p < 8) (hr : ¬ Rsd w.P p) :
    Pv S sb ⟨w.P.put i (nfr (w.Z.rpg S (p : Int)) (p : Int)), w.G, w.Z⟩ g ∧ w.P.like (w.P.put i (nfr (w.Z.rpg S (p : Int)) (p : Int))) := by
  have hnd : ¬ Drt w.P p := fun ⟨j, a, b, c, _⟩ => hr ⟨j, a, b, c⟩
  have hcl := h.cl p hp hnd
  have hpn := h.pn p hp
  have hT : (w.Z.rpg S (p : Int)).1 = g.T p := by
    rcases hcl with ⟨e, _, e2⟩ | ⟨e, _, _⟩
    · rw [e, e2]
    · rw [e]
  have hN : (w.Z.rpg S (p : Int)).2.1 = g.N p := by
    rcases hcl with ⟨e, e2, _⟩ | ⟨e, _, _⟩
    · rw [e, e2]
    · rw [e]
  have hP : g.P p = 0 := by
    rcases Int.lt_or_le 0 (g.P p) with x | x
    · exact absurd (hpn.2 x) hr
    · omega
  generalize w.Z.rpg S (p : Int) = r at hT hN
  have hl : w.P.like (w.P.put i (nfr r (p : Int))) := ⟨rfl, rfl, rfl, rfl, List.length_set⟩
  have hlen := hl.n
  have pa := put_at (f := nfr r (p : Int)) hi
  have F : Fok g p (nfr r (p : Int)) := ⟨rfl, hT, hN, hP.symm, fun x => by cases x⟩
  have other : ∀ j, i ≠ j → (w.P.put i (nfr r (p : Int))).at j = w.P.at j := fun j hj => by rw [pa, if_neg hj]
  have self : (w.P.put i (nfr r (p : Int))).at i = nfr r (p : Int) := by rw [pa, if_pos rfl]
  have hhd : (w.P.put i (nfr r (p : Int))).hand < w.P.fs.length := h.ok.p.h
  generalize w.P.put i (nfr r (p : Int)) = P' at *
  have hD : ∀ q, Drt P' q ↔ Drt w.P q := fun q => by
    constructor
    · rintro ⟨j, h1, h2, h3, h4⟩
      rw [hlen] at h1
      by_cases hj : i = j
      · subst hj
        rw [self] at h4
        cases h4
      · rw [other j hj] at h2 h3 h4
        exact ⟨j, h1, h2, h3, h4⟩
    · rintro ⟨j, h1, h2, h3, h4⟩
      have hj : i ≠ j := fun x => by
        subst x
        rcases hc with c | c
        · rw [c] at h2; cases h2
        · rw [c.1] at h4; cases h4
      exact ⟨j, by rw [hlen]; exact h1, by rw [other j hj]; exact h2, by rw [other j hj]; exact h3, by rw [other j hj]; exact h4⟩
  refine ⟨⟨h.ok.mvP hl ?_, h.gok, h.sp, h.bs, h.sec, h.wi, fun j h1 h2 => ?_, fun a b h1 h2 h3 h4 h5 => ?_, fun q hq hd => h.cl q hq (fun x => hd ((hD q).2 x)), fun q hq hd => h.di q hq ((hD q).1 hd), h.ls, h.tx, fun q hq => ⟨(h.pn q hq).1, fun x => ?_⟩⟩, hl⟩
  · exact hhd
  · dsimp only at h1 h2 ⊢
    rw [hlen] at h1
    by_cases hj : i = j
    · subst hj
      rw [self]
      exact ⟨p, hp, F⟩
    · rw [other j hj] at h2 ⊢
      exact h.fr j h1 h2
  · dsimp only at h1 h2 h3 h4 h5
    rw [hlen] at h1 h2
    by_cases ha : i = a
    · by_cases hb : i = b
      · omega
      · subst ha
        rw [other b hb] at h4 h5
        rw [self] at h5
        exact absurd ⟨b, h2, h4, h5.symm⟩ hr
    · by_cases hb : i = b
      · subst hb
        rw [other a ha] at h3 h5
        rw [self] at h5
        exact absurd ⟨a, h1, h3, h5⟩ hr
      · rw [other a ha] at h3 h5
        rw [other b hb] at h4 h5
        exact h.un a b h1 h2 h3 h4 h5
  · obtain ⟨j, h1, h2, h3⟩ := (h.pn q hq).2 x
    have hj : i ≠ j := fun y => by
      subst y
      rcases hc with c | c
      · rw [c] at h2; cases h2
      · obtain ⟨q', hq', F'⟩ := h.fr i h1 h2
        have : q' = q := by have := F'.id; omega
        subst this
        have := F'.p
        omega
    exact ⟨j, by dsimp only; rw [hlen]; exact h1, by dsimp only; rw [other j hj]; exact h2, by dsimp only; rw [other j hj]; exact h3⟩
theorem fndf_none (id : Int) : ∀ (fs : List Fr) (a : Nat), fndf id fs a = none → ∀ (i : Nat) (f : Fr), fs[i]? = some f → ¬ (f.filled = true ∧ f.id = id)
  | [], a, h, i, f, hf => by simp at hf
  | x :: r, a, h, i, f, hf => by
    unfold fndf at h
    by_cases hc : x.filled = true ∧ x.id = id
    · rw [if_pos hc] at h; cases h
    · rw [if_neg hc] at h
      cases i with
      | zero =>
        obtain rfl : x = f := by simpa using hf
        exact hc
      | succ i => exact fndf_none id r (a + 1) h i f (by simpa using hf)
theorem find_none {P : Po} {p : Nat} (h : P.find (p : Int) = none) : ¬ Rsd P p := fun ⟨i, h1, h2, h3⟩ => fndf_none _ _ _ h i _ (at_get h1) ⟨h2, h3⟩
theorem find_some {P : Po} {id : Int} {i : Nat} (h : P.find id = some i) : i < P.fs.length ∧ (P.at i).filled = true ∧ (P.at i).id = id := by
  obtain ⟨_, h2, f, h3, h4, h5⟩ := fndf_lt _ _ _ _ h
  have hi := find_lt h
  have e := at_get hi
  rw [Nat.sub_zero] at h3
  rw [e] at h3
  obtain rfl : P.at i = f := by simpa using h3
  exact ⟨hi, h4, h5⟩
/-- Hold: the page's frame, or all frames are pinned. -/
theorem Pv.hold {S : St} {sb : Nat} {w : Wo} {g : Gh} (h : Pv S sb w g) {p : Nat} (hp : p < 8) : Pv S sb (hld S w (p : Int)).2 g ∧ (hld S w (p : Int)).2.G.all = w.G.all ∧ (hld S w (p : Int)).2.P.fs.length = w.P.fs.length ∧
    ((∃ i, (hld S w (p : Int)).1 = (some i, 0) ∧ i < w.P.fs.length ∧ ((hld S w (p : Int)).2.P.at i).filled = true ∧ ((hld S w (p : Int)).2.P.at i).id = (p : Int)) ∨
      ((hld S w (p : Int)).1 = (none, 7) ∧ ∀ j, j < w.P.fs.length → ((hld S w (p : Int)).2.P.at j).filled = true ∧ 0 < ((hld S w (p : Int)).2.P.at j).pins)) := by
  have hok := h.ok.p
  unfold hld
  cases hf : w.P.find (p : Int) with
  | some i =>
    obtain ⟨h1, h2, h3⟩ := find_some hf
    have l : w.P.like (w.P.use i) := ⟨rfl, rfl, rfl, rfl, List.length_set⟩
    have u : ulk w.P (w.P.use i) := ulk_use h1 true w.P.hand
    have e : (w.P.use i).at i = { w.P.at i with used := true } := by
      have := at_set (f := { w.P.at i with used := true }) (j := i) h1
      rw [if_pos rfl] at this
      exact this
    refine ⟨h.ul l hok.h u, rfl, l.n, .inl ⟨i, rfl, h1, ?_, ?_⟩⟩
    · dsimp only; rw [e]; exact h2
    · dsimp only; rw [e]; exact h3
  | none =>
    have hr := find_none hf
    have hnd : ¬ Drt w.P p := fun ⟨j, a, b, c, _⟩ => hr ⟨j, a, b, c⟩
    have he : (w.Z.rpg S (p : Int)).2.2 = 0 ∨ (w.Z.rpg S (p : Int)).2.2 = 8 := by
      rcases h.cl p hp hnd with ⟨e, _⟩ | ⟨e, _⟩
      · rw [e]; exact .inr rfl
      · rw [e]; exact .inl rfl
    dsimp only
    unfold hl1
    rw [if_neg (by omega)]
    obtain ⟨v1, v2, v3⟩ := vic_like (2 * w.P.fs.length + 1) w.P hok
    obtain ⟨v4, v5⟩ := vic_ulk (2 * w.P.fs.length + 1) w.P hok
    have v6 := fun hv j hj => vic_none (P := w.P) hok hv (j := j) hj
    generalize vic (2 * w.P.fs.length + 1) w.P = v at *
    obtain ⟨o, V⟩ := v
    dsimp only at v1 v2 v3 v4 v5 v6
    have hV : Pv S sb ⟨V, w.G, w.Z⟩ g := h.ul v1 (by have := v2.h; rw [v1.n] at this; exact this) v4
    have hrV : ¬ Rsd V p := fun x => hr ((Rsd.ul v4 v1.n p).1 x)
    unfold hl2
    cases o with
    | none =>
      refine ⟨hV, rfl, v1.n, .inr ⟨rfl, fun j hj => ?_⟩⟩
      obtain ⟨u, hu⟩ := v4 j hj
      dsimp only
      rw [hu]
      exact v6 rfl j hj
    | some i =>
      have hi := v3 i rfl
      have hiV : i < V.fs.length := by rw [v1.n]; exact hi
      obtain ⟨u, hu⟩ := v4 i hi
      have hc0 : (V.at i).filled = false ∨ (V.at i).pins ≤ 0 := by rw [hu]; exact v5 i rfl
      dsimp only
      by_cases c5 : (V.at i).filled = true
      · rw [if_pos c5]
        obtain ⟨s1, s2, s3, s4, s5, s6, s7, s8, s9⟩ := hV.save (i := i) hiV c5
        have hz : (svp S ⟨V, w.G, w.Z⟩ i).2.Z.rpg S (p : Int) = w.Z.rpg S (p : Int) := by
          have hnd2 : ¬ Drt (svp S ⟨V, w.G, w.Z⟩ i).2.P p := fun ⟨j, a, b, c, _⟩ => hrV ((s7 p).1 ⟨j, a, b, c⟩)
          rcases s2.cl p hp hnd2 with ⟨e, e1, e2⟩ | ⟨e, e1, e2⟩
          · rcases h.cl p hp hnd with ⟨f, f1, f2⟩ | ⟨f, f1, f2⟩
            · rw [e, f]
            · omega
          · rcases h.cl p hp hnd with ⟨f, f1, f2⟩ | ⟨f, f1, f2⟩
            · omega
            · rw [e, f]
        generalize svp S ⟨V, w.G, w.Z⟩ i = sv at *
        obtain ⟨e2, w2⟩ := sv
        dsimp only at s1 s2 s3 s4 s5 s6 s7 s8 s9 hz ⊢
        subst s1
        rw [if_pos rfl]
        have hi2 : i < w2.P.fs.length := by rw [s3.n]; exact hiV
        have hpi : (w2.P.at i).pins ≤ 0 := by
          rw [s6]
          rcases hc0 with x | x
          · rw [x] at c5; cases c5
          · exact x
        obtain ⟨q1, q2⟩ := s2.put hi2 (.inr ⟨s5, hpi⟩) hp (fun x => hrV ((s7 p).1 x))
        rw [hz] at q1 q2
        have pa := put_at (f := nfr (w.Z.rpg S (p : Int)) (p : Int)) hi2 i
        rw [if_pos rfl] at pa
        refine ⟨q1, s8, q2.n.trans (s3.n.trans v1.n), .inl ⟨i, rfl, hi, ?_, ?_⟩⟩
        · dsimp only; rw [pa]
        · dsimp only; rw [pa]
      · have c5' : (V.at i).filled = false := by simpa using c5
        rw [if_neg c5]
        obtain ⟨q1, q2⟩ := hV.put hiV (.inl c5') hp hrV
        have pa := put_at (f := nfr (w.Z.rpg S (p : Int)) (p : Int)) hiV i
        rw [if_pos rfl] at pa
        refine ⟨q1, rfl, q2.n.trans v1.n, .inl ⟨i, rfl, hi, ?_, ?_⟩⟩
        · dsimp only; rw [pa]
        · dsimp only; rw [pa]
/-- A page that can't be. -/
theorem Pv.hold_out {S : St} {sb : Nat} {w : Wo} {g : Gh} (h : Pv S sb w g) {id : Int} (hid : id < 0 ∨ 8 ≤ id) : hld S w id = ((none, 6), w) := by
  have hsp := h.sp
  have hc : S.chk id = 6 := by unfold St.chk; rw [if_pos (by omega)]
  have hr : w.Z.rpg S id = ([], 0, 6) := by unfold Dk.rpg; rw [if_neg (by rw [hc]; decide)]
  unfold hld
  cases hf : w.P.find id with
  | some i =>
    obtain ⟨h1, h2, h3⟩ := find_some hf
    obtain ⟨p, hp, F⟩ := h.fr i h1 h2
    have := F.id
    omega
  | none =>
    dsimp only
    unfold hl1
    rw [hr, if_pos (by decide)]
end Go.Sp
/- The pool's law, in plain words: set keeps what holds, and answers true. -/
namespace Go.Sp
open Go Go.Proofs
set_option linter.unusedSimpArgs false
set_option linter.unusedVariables false
set_option maxRecDepth 10000
theorem Pv.app {S : St} {sb : Nat} {w : Wo} {g : Gh} (h : Pv S sb w g) (c : Rc) : Pv S sb ⟨w.P, (w.G.append c).2, w.Z⟩ g := by
  obtain ⟨ρ, hW⟩ := h.wi
  obtain ⟨a1, a2⟩ := append_okG h.ok.g c
  have hA := hW.app c
  have e : (w.G.append c).2 = { w.G with all := (w.G.append c).2.all } ∧ w.G.all.length ≤ (w.G.append c).2.all.length := by
    rw [append_is hW.dead]
    split
    · split
      · exact ⟨rfl, by dsimp only; rw [List.length_append]; omega⟩
      · exact ⟨rfl, Nat.le_refl _⟩
    · exact ⟨rfl, Nat.le_refl _⟩
  obtain ⟨e1, e2⟩ := e
  generalize (w.G.append c).2 = G2 at *
  have eb : G2.base = w.G.base := by rw [e1]
  have es : G2.sectors = w.G.sectors := by rw [e1]
  have ed : G2.durable = w.G.durable := by rw [e1]
  refine ⟨⟨h.ok.p, h.ok.z, h.ok.sb, h.ok.nn, a1, h.ok.s, h.ok.st, h.ok.lg.trans a2.symm⟩, h.gok, h.sp, by dsimp only; rw [eb, es]; exact h.bs, es.trans h.sec, ⟨ρ, hA⟩, h.fr, h.un, by dsimp only; rw [ed]; exact h.cl, by dsimp only; rw [ed]; exact h.di, fun p hp => ⟨(h.ls p hp).1, ?_⟩, h.tx, h.pn⟩
  have := (h.ls p hp).2
  dsimp only
  omega
theorem put_T {g : Gh} (hg : g.ok) {p : Nat} (hp : p < 8) (t : List UInt8) (n : Int) (q : Nat) : (g.put p t n).T q = if p = q then t else g.T q := by
  have := hg.t
  unfold Gh.T Gh.put
  dsimp only
  rw [List.getD_eq_getElem?_getD, List.getD_eq_getElem?_getD, List.getElem?_set]
  by_cases h : p = q
  · rw [if_pos h, if_pos h, if_pos (by omega)]
    rfl
  · rw [if_neg h, if_neg h]
theorem put_N {g : Gh} (hg : g.ok) {p : Nat} (hp : p < 8) (t : List UInt8) (n : Int) (q : Nat) : (g.put p t n).N q = if p = q then n else g.N q := by
  have := hg.l
  unfold Gh.N Gh.put
  dsimp only
  rw [List.getD_eq_getElem?_getD, List.getD_eq_getElem?_getD, List.getElem?_set]
  by_cases h : p = q
  · rw [if_pos h, if_pos h, if_pos (by omega)]
    rfl
  · rw [if_neg h, if_neg h]
theorem put_P (g : Gh) (p : Nat) (t : List UInt8) (n : Int) (q : Nat) : (g.put p t n).P q = g.P q := rfl
/-- A page in a frame is turned. -/
theorem Pv.turn {S : St} {sb : Nat} {w : Wo} {g : Gh} (h : Pv S sb w g) {p i : Nat} (hp : p < 8) (hi : i < w.P.fs.length) (hf : (w.P.at i).filled = true) (hid : (w.P.at i).id = (p : Int)) {text : List UInt8} (ht : text.length = 224) {lsn : Int} (h1 : 1 ≤ lsn) (hN : g.N p < lsn) (hl : lsn ≤ (w.G.all.length : Int)) :
    Pv S sb ⟨w.P.mod i (sfr (w.P.at i) text lsn), w.G, w.Z⟩ (g.put p text lsn) ∧ Drt (w.P.mod i (sfr (w.P.at i) text lsn)) p := by
  obtain ⟨p', hp', F⟩ := h.fr i hi hf
  have : p' = p := by have := F.id; omega
  subst this
  have ma := fun j => at_set (f := sfr (w.P.at i) text lsn) (j := j) hi
  have hl' := mod_like w.P i (sfr (w.P.at i) text lsn)
  have hlen := hl'.n
  have hhd : (w.P.mod i (sfr (w.P.at i) text lsn)).hand < w.P.fs.length := h.ok.p.h
  have self : (w.P.mod i (sfr (w.P.at i) text lsn)).at i = sfr (w.P.at i) text lsn := by rw [ma, if_pos rfl]
  have other : ∀ j, i ≠ j → (w.P.mod i (sfr (w.P.at i) text lsn)).at j = w.P.at j := fun j hj => by rw [ma, if_neg hj]
  have pT := put_T h.gok hp text lsn
  have pN := put_N h.gok hp text lsn
  have hdD : ∀ q, p' ≠ q → (Drt (w.P.mod i (sfr (w.P.at i) text lsn)) q ↔ Drt w.P q) := fun q hq => by
    constructor
    · rintro ⟨j, a, b, c, d⟩
      rw [hlen] at a
      by_cases hj : i = j
      · subst hj
        rw [self] at c
        have : (w.P.at i).id = (q : Int) := c
        omega
      · rw [other j hj] at b c d
        exact ⟨j, a, b, c, d⟩
    · rintro ⟨j, a, b, c, d⟩
      have hj : i ≠ j := fun x => by subst x; omega
      exact ⟨j, by rw [hlen]; exact a, by rw [other j hj]; exact b, by rw [other j hj]; exact c, by rw [other j hj]; exact d⟩
  have hdr : Drt (w.P.mod i (sfr (w.P.at i) text lsn)) p' := ⟨i, by rw [hlen]; exact hi, by rw [self]; exact hf, by rw [self]; exact hid, by rw [self]; rfl⟩
  have hR : ∀ q, Rsd w.P q → Rsd (w.P.mod i (sfr (w.P.at i) text lsn)) q := by
    rintro q ⟨j, a, b, c⟩
    by_cases hj : i = j
    · subst hj
      exact ⟨i, by rw [hlen]; exact hi, by rw [self]; exact hf, by rw [self]; exact c⟩
    · exact ⟨j, by rw [hlen]; exact a, by rw [other j hj]; exact b, by rw [other j hj]; exact c⟩
  have Fn : Fok (g.put p' text lsn) p' (sfr (w.P.at i) text lsn) := by
    refine ⟨hid, by rw [pT, if_pos rfl]; rfl, by rw [pN, if_pos rfl]; rfl, F.p, fun _ => ?_⟩
    show 1 ≤ (if (w.P.at i).dirty then (w.P.at i).first else lsn) ∧ (if (w.P.at i).dirty then (w.P.at i).first else lsn) ≤ lsn
    cases hd : (w.P.at i).dirty
    · simp only [Bool.false_eq_true, if_false]; omega
    · obtain ⟨a, b⟩ := F.d hd
      have := F.n
      simp only [if_true]
      omega
  generalize w.P.mod i (sfr (w.P.at i) text lsn) = P' at *
  generalize sfr (w.P.at i) text lsn = f' at *
  refine ⟨⟨h.ok.mvP hl' hhd, Gh.put_ok h.gok _ _ _, h.sp, h.bs, h.sec, h.wi, fun j a b => ?_, fun a b c1 c2 c3 c4 c5 => ?_, fun q hq hd => ?_, fun q hq hd => ?_, fun q hq => ?_, fun q hq hx => ?_, fun q hq => ⟨(h.pn q hq).1, fun x => hR q ((h.pn q hq).2 x)⟩⟩, hdr⟩
  · dsimp only at a b ⊢
    rw [hlen] at a
    by_cases hj : i = j
    · subst hj
      rw [self]
      exact ⟨p', hp, Fn⟩
    · rw [other j hj] at b ⊢
      obtain ⟨q, hq, Fq⟩ := h.fr j a b
      have hqp : p' ≠ q := fun x => by
        subst x
        exact hj (h.un i j hi a hf b (by rw [hid, Fq.id]))
      exact ⟨q, hq, Fq.id, by rw [pT, if_neg hqp]; exact Fq.t, by rw [pN, if_neg hqp]; exact Fq.n, Fq.p, Fq.d⟩
  · dsimp only at c1 c2 c3 c4 c5
    rw [hlen] at c1 c2
    have key : ∀ x, x < w.P.fs.length → (P'.at x).filled = true → (w.P.at x).filled = true ∧ (P'.at x).id = (w.P.at x).id := fun x hx hfx => by
      by_cases hj : i = x
      · subst hj
        exact ⟨hf, by rw [self, Fn.id, hid]⟩
      · rw [other x hj] at hfx ⊢
        exact ⟨hfx, rfl⟩
    obtain ⟨k1, k2⟩ := key a c1 c3
    obtain ⟨k3, k4⟩ := key b c2 c4
    exact h.un a b c1 c2 k1 k3 (by rw [← k2, ← k4]; exact c5)
  · dsimp only at hd ⊢
    have hqp : p' ≠ q := fun x => by subst x; exact hd hdr
    rw [pT, pN, if_neg hqp, if_neg hqp]
    exact h.cl q hq (fun x => hd ((hdD q hqp).2 x))
  · dsimp only at hd ⊢
    by_cases hqp : p' = q
    · subst hqp
      rw [pN, if_pos rfl]
      by_cases hD : Drt w.P p'
      · rcases h.di p' hp hD with x | ⟨t, n, x, y, z, u⟩
        · exact .inl x
        · exact .inr ⟨t, n, x, y, z, by omega⟩
      · rcases h.cl p' hp hD with ⟨x, _⟩ | ⟨x, y, z⟩
        · exact .inl x
        · exact .inr ⟨_, _, x, y, z, hN⟩
    · rw [pN, if_neg hqp]
      exact h.di q hq ((hdD q hqp).1 hd)
  · rw [pN]
    by_cases hqp : p' = q
    · rw [if_pos hqp]
      exact ⟨by omega, hl⟩
    · rw [if_neg hqp]
      exact h.ls q hq
  · rw [pT]
    rw [pN] at hx
    by_cases hqp : p' = q
    · rw [if_pos hqp]
      exact ht
    · rw [if_neg hqp] at hx ⊢
      exact h.tx q hq hx
theorem npn_mono (l : List Int) (i : Nat) : npn l i ≤ npn l (i + 1) := by
  show _ ≤ (if 0 < l.getD i 0 then npn l i + 1 else npn l i)
  split <;> omega
theorem npn_up (l : List Int) {i : Nat} (h : 0 < l.getD i 0) : npn l (i + 1) = npn l i + 1 := if_pos h
theorem npn_le2 (l : List Int) {i : Nat} : ∀ {j : Nat}, i ≤ j → npn l i ≤ npn l j
  | 0, h => by
    obtain rfl : i = 0 := by omega
    exact Nat.le_refl _
  | j + 1, h => by
    rcases Nat.lt_or_ge i (j + 1) with x | x
    · exact Nat.le_trans (npn_le2 l (by omega : i ≤ j)) (npn_mono l j)
    · obtain rfl : i = j + 1 := by omega
      exact Nat.le_refl _
theorem npn_two {l : List Int} {a b : Nat} (ha : 0 < l.getD a 0) (hb : 0 < l.getD b 0) (hab : a < b) (h8 : b < 8) : 2 ≤ npn l 8 := by
  have h1 := npn_up l ha
  have h2 := npn_up l hb
  have h3 := npn_le2 l (by omega : a + 1 ≤ b)
  have h4 := npn_le2 l (by omega : b + 1 ≤ 8)
  omega
/-- Where all frames are pinned, two pages are. -/
theorem Pv.full {S : St} {sb : Nat} {w : Wo} {g : Gh} (h : Pv S sb w g) (ha : ∀ j, j < w.P.fs.length → (w.P.at j).filled = true ∧ 0 < (w.P.at j).pins) : 2 ≤ npn g.pin 8 := by
  have h2 := h.ok.p.n2
  obtain ⟨a1, a2⟩ := ha 0 (by omega)
  obtain ⟨b1, b2⟩ := ha 1 (by omega)
  obtain ⟨p, hp, F⟩ := h.fr 0 (by omega) a1
  obtain ⟨q, hq, G⟩ := h.fr 1 (by omega) b1
  have e1 := F.p
  have e2 := G.p
  have hne : p ≠ q := fun x => by
    subst x
    have := h.un 0 1 (by omega) (by omega) a1 b1 (by rw [F.id, G.id])
    omega
  rcases Nat.lt_or_ge p q with x | x
  · exact npn_two (a := p) (b := q) (by show 0 < g.P p; omega) (by show 0 < g.P q; omega) x hq
  · exact npn_two (a := q) (b := p) (by show 0 < g.P q; omega) (by show 0 < g.P p; omega) (by omega) hp
end Go.Sp
/- The pool's law, in plain words: set answers true; a new pool; the example. -/
namespace Go.Sp
open Go Go.Proofs
set_option linter.unusedSimpArgs false
set_option linter.unusedVariables false
set_option maxRecDepth 10000
theorem fl_224 (c : UInt8) : (fl c).length = 224 := List.length_replicate
/-- Set of a page that can be. -/
theorem Pv.wset {S : St} {sb : Nat} {w : Wo} {g : Gh} (h : Pv S sb w g) {p : Nat} (hp : p < 8) {text : List UInt8} (ht : text.length = 224) {lsn : Int} (h1 : 1 ≤ lsn) (hN : g.N p < lsn) (hl : lsn ≤ (w.G.all.length : Int)) :
    (wset S w (p : Int) text lsn).2.G.all = w.G.all ∧ (wset S w (p : Int) text lsn).2.P.fs.length = w.P.fs.length ∧
    (((wset S w (p : Int) text lsn).1 = 0 ∧ Pv S sb (wset S w (p : Int) text lsn).2 (g.put p text lsn) ∧ Drt (wset S w (p : Int) text lsn).2.P p) ∨
    ((wset S w (p : Int) text lsn).1 = 7 ∧ Pv S sb (wset S w (p : Int) text lsn).2 g ∧ ∀ j, j < w.P.fs.length → ((wset S w (p : Int) text lsn).2.P.at j).filled = true ∧ 0 < ((wset S w (p : Int) text lsn).2.P.at j).pins)) := by
  obtain ⟨a1, a2, a3, a4⟩ := h.hold hp
  unfold Go.Sp.wset
  rw [if_neg (by omega), if_neg (by omega)]
  generalize hld S w (p : Int) = r at *
  obtain ⟨⟨o, e⟩, w2⟩ := r
  dsimp only at a1 a2 a3 a4
  rcases a4 with ⟨i, b1, b2, b3, b4⟩ | ⟨b1, b2⟩
  · obtain ⟨rfl, rfl⟩ := Prod.mk.inj b1
    obtain ⟨t1, t2⟩ := a1.turn hp (i := i) (by rw [a3]; exact b2) b3 b4 ht h1 hN (by rw [a2]; exact hl)
    exact ⟨a2, (mod_like _ _ _).n.trans a3, .inl ⟨rfl, t1, t2⟩⟩
  · obtain ⟨rfl, rfl⟩ := Prod.mk.inj b1
    exact ⟨a2, a3, .inr ⟨rfl, a1, b2⟩⟩
theorem cm_fits (c : UInt8) : fitN (c.toNat : Int) 6 := by
  have := c.toNat_lt
  exact ⟨by omega, by rw [show ((256 ^ 6 : Nat) : Int) = 281474976710656 by decide]; omega⟩
theorem Pv.len {S : St} {sb : Nat} {w : Wo} {g : Gh} (h : Pv S sb w g) : w.G.all.length ≤ 2320 := by
  have := h.ok.g.le
  have := h.sec
  omega
/-- Set: it answers as it should. -/
theorem Pv.wst {S : St} {sb : Nat} {w : Wo} {g : Gh} (h : Pv S sb w g) (id : Int) (c : UInt8) : (wst S w g id c).1 = true ∧ Pv S sb (wst S w g id c).2.1 (wst S w g id c).2.2 ∧ (wst S w g id c).2.1.P.fs.length = w.P.fs.length ∧ (wst S w g id c).2.2.pin = g.pin ∧
    (w.G.all.length + 19 ≤ 2320 → (∀ q, q < 8 → g.P q ≤ 0) → ∀ p : Nat, p < 8 → id = (p : Int) → (wst S w g id c).2.2 = g.put p (fl c) ((w.G.all.length : Int) + 1) ∧ Drt (wst S w g id c).2.1.P p ∧ (wst S w g id c).2.1.G.all.length = w.G.all.length + 19) := by
  obtain ⟨ρ, hW⟩ := h.wi
  obtain ⟨f, c1, c2⟩ := cm_frame (cm_fits c)
  have hA := h.app (cm (c.toNat : Int))
  unfold Go.Sp.wst
  have e := append_is (G := w.G) hW.dead (cm (c.toNat : Int))
  have hs := h.sec
  rw [c1, if_pos rfl, c2] at e
  by_cases hf : w.G.all.length + 19 ≤ 2320
  · rw [if_pos (by omega)] at e
    rw [e] at hA ⊢
    dsimp only at hA ⊢
    rw [if_pos rfl]
    have hl2 : (w.G.all ++ f).length = w.G.all.length + 19 := by rw [List.length_append, c2]
    generalize hG2 : ({ w.G with all := w.G.all ++ f } : Lg) = G2 at *
    have hG2l : G2.all.length = w.G.all.length + 19 := by rw [← hG2]; exact hl2
    by_cases hr : id < 0 ∨ 8 ≤ id
    · have ho := hA.hold_out hr
      have ew : Go.Sp.wset S ⟨w.P, G2, w.Z⟩ id (fl c) ((w.G.all.length + 1 : Nat) : Int) = (6, ⟨w.P, G2, w.Z⟩) := by
        unfold Go.Sp.wset
        rw [if_neg (by rw [fl_224]; simp), if_neg (by omega), ho]
      rw [ew]
      unfold wst2
      rw [if_pos hr]
      exact ⟨rfl, hA, rfl, rfl, fun _ _ p hp hid => by omega⟩
    · obtain ⟨p, rfl⟩ : ∃ p : Nat, id = (p : Int) := ⟨id.toNat, by omega⟩
      have hp : p < 8 := by omega
      have hls := (h.ls p hp).2
      obtain ⟨s1, s2, s3⟩ := hA.wset hp (fl_224 c) (lsn := ((w.G.all.length + 1 : Nat) : Int)) (by omega) (by omega) (by dsimp only; omega)
      generalize Go.Sp.wset S ⟨w.P, G2, w.Z⟩ (p : Int) (fl c) ((w.G.all.length + 1 : Nat) : Int) = b at *
      obtain ⟨e2, w2⟩ := b
      dsimp only at s1 s2 s3
      unfold wst2
      rw [if_neg hr]
      dsimp only
      rcases s3 with ⟨rfl, t1, t2⟩ | ⟨rfl, t1, t2⟩
      · rw [if_neg (by decide)]
        refine ⟨rfl, t1, s2, rfl, fun _ _ q hq hid => ?_⟩
        obtain rfl : q = p := by omega
        exact ⟨rfl, t2, by rw [s1]; exact hG2l⟩
      · rw [if_pos rfl]
        have h2p := t1.full (by rw [s2]; exact t2)
        refine ⟨decide_eq_true h2p, t1, s2, rfl, fun _ hz q hq hid => ?_⟩
        have hn := h.ok.p.n2
        obtain ⟨u1, u2⟩ := t2 0 (by omega)
        obtain ⟨p0, hp0, F⟩ := t1.fr 0 (by omega) u1
        have := hz p0 hp0
        have := F.p
        omega
  · rw [if_neg (by omega)] at e
    rw [e]
    dsimp only
    rw [if_neg (by decide)]
    exact ⟨rfl, h, rfl, rfl, fun hx => absurd hx hf⟩
theorem zf_at {q fb st lg n i : Nat} : ((Po.new q fb st lg n).at i).filled = false := by
  unfold Po.at Po.new
  dsimp only
  rw [List.getD_eq_getElem?_getD, List.getElem?_replicate]
  split <;> rfl
/-- A new world. -/
theorem Wnew.pv {S : St} {sb n : Nat} {w : Wo} (h : Wnew S sb n w) : Pv S sb w g0 := by
  obtain ⟨hok, hwi, hg, hs, hp, hz⟩ := h
  have hu : ∀ i, (w.P.at i).filled = false := fun i => by rw [hp]; exact zf_at
  have hS : S.base = 40 ∧ S.pages = 8 := by rw [hs]; exact ⟨rfl, rfl⟩
  have hG : w.G.base = 0 ∧ w.G.sectors = 40 := by rw [hg]; exact ⟨rfl, rfl⟩
  have g0T : ∀ p, g0.T p = [] := fun p => by unfold Gh.T g0; rw [List.getD_eq_getElem?_getD, List.getElem?_replicate]; split <;> rfl
  have g0N : ∀ p, g0.N p = 0 := fun p => by unfold Gh.N g0; rw [List.getD_eq_getElem?_getD, List.getElem?_replicate]; split <;> rfl
  have g0P : ∀ p, g0.P p = 0 := fun p => by unfold Gh.P g0; rw [List.getD_eq_getElem?_getD, List.getElem?_replicate]; split <;> rfl
  obtain ⟨ρ, hW⟩ := hwi
  refine ⟨hok, g0_ok, hS.2, by rw [hG.1, hG.2, hS.1]; decide, hG.2, ⟨ρ, hW⟩, fun i _ hf => ?_, fun i j _ _ hf => ?_, fun p hp' _ => .inl ⟨?_, g0N p, g0T p⟩, fun p _ hd => ?_, fun p _ => ?_, fun p _ hx => ?_, fun p _ => ?_⟩
  · rw [hu] at hf; cases hf
  · rw [hu] at hf; cases hf
  · refine rpg_none hok.s (by rw [hS.2]; exact hp') hW.calm.up fun i hi => ?_
    rw [hS.1]
    exact hz _ (by omega) (by omega)
  · obtain ⟨i, _, hf, _⟩ := hd
    rw [hu] at hf; cases hf
  · rw [g0N]; omega
  · rw [g0N] at hx; omega
  · rw [g0P]
    exact ⟨Int.le_refl _, fun x => by omega⟩
theorem Pv.dirt {S : St} {sb : Nat} {w : Wo} {g : Gh} (h : Pv S sb w g) (p : Nat) : w.P.dirt (p : Int) = true ↔ Drt w.P p := by
  unfold Po.dirt
  cases hf : w.P.find (p : Int) with
  | none =>
    have := find_none hf
    exact ⟨fun x => (by cases x), fun ⟨i, a, b, c, _⟩ => absurd ⟨i, a, b, c⟩ this⟩
  | some i =>
    obtain ⟨h1, h2, h3⟩ := find_some hf
    refine ⟨fun x => ⟨i, h1, h2, h3, x⟩, fun ⟨j, a, b, c, d⟩ => ?_⟩
    obtain rfl : i = j := h.un i j h1 a h2 b (by rw [h3, c])
    exact d
/-- Three pages can't all be in two frames. -/
theorem Pv.two {S : St} {sb : Nat} {w : Wo} {g : Gh} (h : Pv S sb w g) (hn : w.P.fs.length = 2) (h0 : Drt w.P 0) (h1 : Drt w.P 1) (h2 : Drt w.P 2) : False := by
  obtain ⟨a, a1, _, a3, _⟩ := h0
  obtain ⟨b, b1, _, b3, _⟩ := h1
  obtain ⟨c, c1, _, c3, _⟩ := h2
  rw [hn] at a1 b1 c1
  have ab : a ≠ b := fun x => by subst x; omega
  have ac : a ≠ c := fun x => by subst x; omega
  have bc : b ≠ c := fun x => by subst x; omega
  omega
end Go.Sp
/- The pool's law: its example. -/
namespace Go.Sp
open Go Go.Proofs
set_option linter.unusedSimpArgs false
set_option linter.unusedVariables false
set_option maxRecDepth 10000
/-- A call of set in a world of which the pool's law holds. -/
theorem wset_fq {wb : Nat} {S : St} {sb : Nat} {w : Wo} {g : Gh} (h : Pv S sb w g) (id : Int) (c : UInt8) : ∃ (w' : Wo) (g' : Gh), Fq eB Tryz.prog 47 #[.pointer (some ⟨wb, 0, none⟩), .int .i64 id, .int .u8 (c.toNat : Int)] (wld wb sb S.q w.G.q w.P.q g :: wos S sb w) (wld wb sb S.q w'.G.q w'.P.q g' :: wos S sb w') true ∧ Pv S sb w' g' ∧ w'.P.fs.length = w.P.fs.length ∧ g'.pin = g.pin ∧
    (w.G.all.length + 19 ≤ 2320 → (∀ q, q < 8 → g.P q ≤ 0) → ∀ p : Nat, p < 8 → id = (p : Int) → g' = g.put p (fl c) ((w.G.all.length : Int) + 1) ∧ Drt w'.P p ∧ w'.G.all.length = w.G.all.length + 19) := by
  have F := g47 wb S sb 80 w h.ok g h.gok id c
  obtain ⟨a1, a2, a3, a4, a5⟩ := h.wst id c
  obtain ⟨b1, b2, b3, b4⟩ := wst_ok h.ok h.gok id c
  rw [a1, ← b3, ← b2.q] at F
  exact ⟨_, _, by rw [b3, b2.q] at F ⊢; exact F, a2, a3, a4, a5⟩
theorem g0P (p : Nat) : g0.P p = 0 := by
  unfold Gh.P g0
  rw [List.getD_eq_getElem?_getD, List.getElem?_replicate]
  split <;> rfl
/-- A page that was set, and is in no frame that is dirty, is on the disk. -/
theorem Pv.there {S : St} {sb : Nat} {w : Wo} {g : Gh} (h : Pv S sb w g) {p : Nat} (hp : p < 8) (hN : 1 ≤ g.N p) (hd : ¬ Drt w.P p) : (w.Z.rpg S (p : Int)).2.2 = 0 := by
  rcases h.cl p hp hd with ⟨_, x, _⟩ | ⟨x, _⟩
  · omega
  · rw [x]
set_option maxHeartbeats 1000000 in
theorem g44 : Fp eB Tryz.prog 44 #[] [] true := fun L => by
  refine c44_fn rfl rfl ?_
  repeat' ((fail_if_success with_reducible refine nph ?_); first | (with_reducible first | (refine d_seq ?_; intro K hK) | (refine hK _ _ ?_; clear hK K) | (refine SG.p ?_; try intro b)) | ((with_reducible refine SC.p ?_); refine And.intro ?_ ?_) <;> intro hc <;> try simp only [push_cast, Int.reduceEq, Int.reduceLT, Int.reduceLE, Int.reduceNe] at hc | with_reducible refine r_rq (by first | decide | omega) ?_ | ((with_reducible refine SL.p ?_); first | refine ⟨_, rfl, ?_⟩ | refine ⟨_, _, _, rfl, ?_⟩ | (refine ⟨?_, rfl, ?_⟩; focus (simp; done))) | ((with_reducible first | apply i_ldn | apply i_ldnq); exact rfl; exact rfl; exact rfl) | ((try with_reducible refine d_reg ?_); simp only [go_sem, Nat.reduceAdd, Nat.reduceEqDiff, Int.reduceToNat, Nat.reduceMul, Nat.reduceSub]) | clear hK K)
  refine i_cal (g41 2 (by decide) (by decide)) ?_
  rintro y X ⟨wb, sb, S, w, rfl, rfl, hNw⟩
  have h0 := hNw.pv
  have hl0 : w.G.all.length = 0 := by rw [hNw.g]; rfl
  have hn0 : w.P.fs.length = 2 := by rw [hNw.p]; simp [Po.new]
  obtain ⟨w1, g1, F1, h1, n1, p1, q1⟩ := wset_fq (wb := wb) h0 0 1
  obtain ⟨r1, d1, l1⟩ := q1 (by omega) (fun q _ => by rw [g0P]; exact Int.le_refl _) 0 (by decide) rfl
  have z1 : ∀ q, q < 8 → g1.P q ≤ 0 := fun q _ => by
    show g1.pin.getD q 0 ≤ 0
    rw [p1]
    exact Int.le_of_eq (g0P q)
  obtain ⟨w2, g2, F2, h2, n2, p2, q2⟩ := wset_fq (wb := wb) h1 1 2
  obtain ⟨r2, d2, l2⟩ := q2 (by omega) z1 1 (by decide) rfl
  have z2 : ∀ q, q < 8 → g2.P q ≤ 0 := fun q hq => by
    show g2.pin.getD q 0 ≤ 0
    rw [p2]
    exact z1 q hq
  obtain ⟨w3, g3, F3, h3, n3, p3, q3⟩ := wset_fq (wb := wb) h2 2 3
  obtain ⟨r3, d3, l3⟩ := q3 (by omega) z2 2 (by decide) rfl
  have N0 : 1 ≤ g3.N 0 := by
    rw [r3, put_N h2.gok (by decide), if_neg (by decide), r2, put_N h1.gok (by decide), if_neg (by decide), r1, put_N h0.gok (by decide), if_pos rfl]
    omega
  have N1 : 1 ≤ g3.N 1 := by
    rw [r3, put_N h2.gok (by decide), if_neg (by decide), r2, put_N h1.gok (by decide), if_pos rfl]
    omega
  have R0 := f49 S w3.Z h3.ok.z (by rw [h3.ok.nn]; exact h3.ok.s) 0
  have R1 := f49 S w3.Z h3.ok.z (by rw [h3.ok.nn]; exact h3.ok.s) 1
  rw [h3.ok.sb] at R0 R1
  have DT := g45 w3.P h3.ok.p 2
  rw [show w3.P.dirt 2 = true from (h3.dirt 2).2 d3] at DT
  have he : (w3.Z.rpg S 0).2.2 = 0 ∨ (w3.Z.rpg S 1).2.2 = 0 := by
    by_cases c0 : Drt w3.P 0
    · by_cases c1 : Drt w3.P 1
      · exact (h3.two (by omega) c0 c1 d3).elim
      · exact .inr (h3.there (p := 1) (by decide) N1 c1)
    · exact .inl (h3.there (p := 0) (by decide) N0 c0)
  generalize w3.Z.rpg S 0 = a0 at *
  generalize w3.Z.rpg S 1 = a1 at *
  obtain ⟨a01, a02, a03⟩ := a0
  obtain ⟨a11, a12, a13⟩ := a1
  dsimp only at he
  rw [show (((1 : UInt8).toNat : Nat) : Int) = 1 from rfl] at F1
  rw [show (((2 : UInt8).toNat : Nat) : Int) = 2 from rfl] at F2
  rw [show (((3 : UInt8).toNat : Nat) : Int) = 3 from rfl] at F3
  dsimp only [List.cons_append, List.nil_append]
  repeat' ((fail_if_success with_reducible refine nph ?_); first | (with_reducible first | (refine d_seq ?_; intro K hK) | (refine hK _ _ ?_; clear hK K) | (refine SG.p ?_; try intro b)) | ((with_reducible refine SC.p ?_); refine And.intro ?_ ?_) <;> intro hc <;> try simp only [push_cast, Int.reduceEq, Int.reduceLT, Int.reduceLE, Int.reduceNe] at hc | with_reducible refine r_rq (by first | decide | omega) ?_ | ((with_reducible refine SL.p ?_); first | refine ⟨_, rfl, ?_⟩ | refine ⟨_, _, _, rfl, ?_⟩ | (refine ⟨?_, rfl, ?_⟩; focus (simp; done))) | ((with_reducible first | apply i_ldn | apply i_ldnq); exact rfl; exact rfl; exact rfl) | ((try with_reducible refine d_reg ?_); simp only [go_sem, Nat.reduceAdd, Nat.reduceEqDiff, Int.reduceToNat, Nat.reduceMul, Nat.reduceSub]) | clear hK K)
  all_goals try contradiction
  refine i_clq F1 ?_
  repeat' ((fail_if_success with_reducible refine nph ?_); first | (with_reducible first | (refine d_seq ?_; intro K hK) | (refine hK _ _ ?_; clear hK K) | (refine SG.p ?_; try intro b)) | ((with_reducible refine SC.p ?_); refine And.intro ?_ ?_) <;> intro hc <;> try simp only [push_cast, Int.reduceEq, Int.reduceLT, Int.reduceLE, Int.reduceNe] at hc | with_reducible refine r_rq (by first | decide | omega) ?_ | ((with_reducible refine SL.p ?_); first | refine ⟨_, rfl, ?_⟩ | refine ⟨_, _, _, rfl, ?_⟩ | (refine ⟨?_, rfl, ?_⟩; focus (simp; done))) | ((with_reducible first | apply i_ldn | apply i_ldnq); exact rfl; exact rfl; exact rfl) | ((try with_reducible refine d_reg ?_); simp only [go_sem, Nat.reduceAdd, Nat.reduceEqDiff, Int.reduceToNat, Nat.reduceMul, Nat.reduceSub]) | clear hK K)
  all_goals try contradiction
  refine i_clq F2 ?_
  repeat' ((fail_if_success with_reducible refine nph ?_); first | (with_reducible first | (refine d_seq ?_; intro K hK) | (refine hK _ _ ?_; clear hK K) | (refine SG.p ?_; try intro b)) | ((with_reducible refine SC.p ?_); refine And.intro ?_ ?_) <;> intro hc <;> try simp only [push_cast, Int.reduceEq, Int.reduceLT, Int.reduceLE, Int.reduceNe] at hc | with_reducible refine r_rq (by first | decide | omega) ?_ | ((with_reducible refine SL.p ?_); first | refine ⟨_, rfl, ?_⟩ | refine ⟨_, _, _, rfl, ?_⟩ | (refine ⟨?_, rfl, ?_⟩; focus (simp; done))) | ((with_reducible first | apply i_ldn | apply i_ldnq); exact rfl; exact rfl; exact rfl) | ((try with_reducible refine d_reg ?_); simp only [go_sem, Nat.reduceAdd, Nat.reduceEqDiff, Int.reduceToNat, Nat.reduceMul, Nat.reduceSub]) | clear hK K)
  all_goals try contradiction
  refine i_clq F3 ?_
  repeat' ((fail_if_success with_reducible refine nph ?_); first | (with_reducible first | (refine d_seq ?_; intro K hK) | (refine hK _ _ ?_; clear hK K) | (refine SG.p ?_; try intro b)) | ((with_reducible refine SC.p ?_); refine And.intro ?_ ?_) <;> intro hc <;> try simp only [push_cast, Int.reduceEq, Int.reduceLT, Int.reduceLE, Int.reduceNe] at hc | with_reducible refine r_rq (by first | decide | omega) ?_ | ((with_reducible refine SL.p ?_); first | refine ⟨_, rfl, ?_⟩ | refine ⟨_, _, _, rfl, ?_⟩ | (refine ⟨?_, rfl, ?_⟩; focus (simp; done))) | ((with_reducible first | apply i_ldn | apply i_ldnq); exact rfl; exact rfl; exact rfl) | ((try with_reducible refine d_reg ?_); simp only [go_sem, Nat.reduceAdd, Nat.reduceEqDiff, Int.reduceToNat, Nat.reduceMul, Nat.reduceSub]) | clear hK K)
  all_goals try contradiction
  refine i_clp R0 ?_
  repeat' ((fail_if_success with_reducible refine nph ?_); first | (with_reducible first | (refine d_seq ?_; intro K hK) | (refine hK _ _ ?_; clear hK K) | (refine SG.p ?_; try intro b)) | ((with_reducible refine SC.p ?_); refine And.intro ?_ ?_) <;> intro hc <;> try simp only [push_cast, Int.reduceEq, Int.reduceLT, Int.reduceLE, Int.reduceNe] at hc | with_reducible refine r_rq (by first | decide | omega) ?_ | ((with_reducible refine SL.p ?_); first | refine ⟨_, rfl, ?_⟩ | refine ⟨_, _, _, rfl, ?_⟩ | (refine ⟨?_, rfl, ?_⟩; focus (simp; done))) | ((with_reducible first | apply i_ldn | apply i_ldnq); exact rfl; exact rfl; exact rfl) | ((try with_reducible refine d_reg ?_); simp only [go_sem, Nat.reduceAdd, Nat.reduceEqDiff, Int.reduceToNat, Nat.reduceMul, Nat.reduceSub]) | clear hK K)
  refine i_clp R1 ?_
  repeat' ((fail_if_success with_reducible refine nph ?_); first | (with_reducible first | (refine d_seq ?_; intro K hK) | (refine hK _ _ ?_; clear hK K) | (refine SG.p ?_; try intro b)) | ((with_reducible refine SC.p ?_); refine And.intro ?_ ?_) <;> intro hc <;> try simp only [push_cast, Int.reduceEq, Int.reduceLT, Int.reduceLE, Int.reduceNe] at hc | with_reducible refine r_rq (by first | decide | omega) ?_ | ((with_reducible refine SL.p ?_); first | refine ⟨_, rfl, ?_⟩ | refine ⟨_, _, _, rfl, ?_⟩ | (refine ⟨?_, rfl, ?_⟩; focus (simp; done))) | ((with_reducible first | apply i_ldn | apply i_ldnq); exact rfl; exact rfl; exact rfl) | ((try with_reducible refine d_reg ?_); simp only [go_sem, Nat.reduceAdd, Nat.reduceEqDiff, Int.reduceToNat, Nat.reduceMul, Nat.reduceSub]) | clear hK K)
  · refine i_clp DT ?_
    repeat' ((fail_if_success with_reducible refine nph ?_); first | (with_reducible first | (refine d_seq ?_; intro K hK) | (refine hK _ _ ?_; clear hK K) | (refine SG.p ?_; try intro b)) | ((with_reducible refine SC.p ?_); refine And.intro ?_ ?_) <;> intro hc <;> try simp only [push_cast, Int.reduceEq, Int.reduceLT, Int.reduceLE, Int.reduceNe] at hc | with_reducible refine r_rq (by first | decide | omega) ?_ | ((with_reducible refine SL.p ?_); first | refine ⟨_, rfl, ?_⟩ | refine ⟨_, _, _, rfl, ?_⟩ | (refine ⟨?_, rfl, ?_⟩; focus (simp; done))) | ((with_reducible first | apply i_ldn | apply i_ldnq); exact rfl; exact rfl; exact rfl) | ((try with_reducible refine d_reg ?_); simp only [go_sem, Nat.reduceAdd, Nat.reduceEqDiff, Int.reduceToNat, Nat.reduceMul, Nat.reduceSub]) | clear hK K)
    (with_reducible first | apply i_ret0 | apply i_ret2 | apply i_ret3 | apply i_ret); exact rfl
    rfl
  · refine i_clp DT ?_
    repeat' ((fail_if_success with_reducible refine nph ?_); first | (with_reducible first | (refine d_seq ?_; intro K hK) | (refine hK _ _ ?_; clear hK K) | (refine SG.p ?_; try intro b)) | ((with_reducible refine SC.p ?_); refine And.intro ?_ ?_) <;> intro hc <;> try simp only [push_cast, Int.reduceEq, Int.reduceLT, Int.reduceLE, Int.reduceNe] at hc | with_reducible refine r_rq (by first | decide | omega) ?_ | ((with_reducible refine SL.p ?_); first | refine ⟨_, rfl, ?_⟩ | refine ⟨_, _, _, rfl, ?_⟩ | (refine ⟨?_, rfl, ?_⟩; focus (simp; done))) | ((with_reducible first | apply i_ldn | apply i_ldnq); exact rfl; exact rfl; exact rfl) | ((try with_reducible refine d_reg ?_); simp only [go_sem, Nat.reduceAdd, Nat.reduceEqDiff, Int.reduceToNat, Nat.reduceMul, Nat.reduceSub]) | clear hK K)
    (with_reducible first | apply i_ret0 | apply i_ret2 | apply i_ret3 | apply i_ret); exact rfl
    rfl
  · exfalso
    rcases he with x | x
    · contradiction
    · contradiction
end Go.Sp
/- The pool's law, in plain words: pins. -/
namespace Go.Sp
open Go Go.Proofs
set_option linter.unusedSimpArgs false
set_option linter.unusedVariables false
set_option maxRecDepth 10000
theorem pin_P {g : Gh} (hg : g.ok) {p : Nat} (hp : p < 8) (v : Int) (q : Nat) : ({ g with pin := g.pin.set p v } : Gh).P q = if p = q then v else g.P q := by
  have := hg.p
  unfold Gh.P
  dsimp only
  rw [List.getD_eq_getElem?_getD, List.getD_eq_getElem?_getD, List.getElem?_set]
  by_cases h : p = q
  · rw [if_pos h, if_pos h, if_pos (by omega)]
    rfl
  · rw [if_neg h, if_neg h]
/-- A page's pins are turned. -/
theorem Pv.pins {S : St} {sb : Nat} {w : Wo} {g : Gh} (h : Pv S sb w g) {p i : Nat} (hp : p < 8) (hi : i < w.P.fs.length) (hf : (w.P.at i).filled = true) (hid : (w.P.at i).id = (p : Int)) {v : Int} (hv : 0 ≤ v) :
    Pv S sb ⟨w.P.mod i { w.P.at i with pins := v }, w.G, w.Z⟩ { g with pin := g.pin.set p v } ∧ (∀ q, Drt (w.P.mod i { w.P.at i with pins := v }) q ↔ Drt w.P q) ∧ (∀ q, Rsd (w.P.mod i { w.P.at i with pins := v }) q ↔ Rsd w.P q) := by
  obtain ⟨p', hp', F⟩ := h.fr i hi hf
  have : p' = p := by have := F.id; omega
  subst this
  have ma := fun j => at_set (f := { w.P.at i with pins := v }) (j := j) hi
  have hl' := mod_like w.P i { w.P.at i with pins := v }
  have hlen := hl'.n
  have hhd : (w.P.mod i { w.P.at i with pins := v }).hand < w.P.fs.length := h.ok.p.h
  have key : ∀ j, ((w.P.mod i { w.P.at i with pins := v }).at j).filled = (w.P.at j).filled ∧ ((w.P.mod i { w.P.at i with pins := v }).at j).id = (w.P.at j).id ∧ ((w.P.mod i { w.P.at i with pins := v }).at j).dirty = (w.P.at j).dirty := fun j => by
    rw [ma]
    by_cases hj : i = j
    · rw [if_pos hj, ← hj]
      exact ⟨rfl, rfl, rfl⟩
    · rw [if_neg hj]
      exact ⟨rfl, rfl, rfl⟩
  have self : (w.P.mod i { w.P.at i with pins := v }).at i = { w.P.at i with pins := v } := by rw [ma, if_pos rfl]
  have other : ∀ j, i ≠ j → (w.P.mod i { w.P.at i with pins := v }).at j = w.P.at j := fun j hj => by rw [ma, if_neg hj]
  have pP := pin_P h.gok hp v
  generalize w.P.mod i { w.P.at i with pins := v } = P' at *
  have hD : ∀ q, Drt P' q ↔ Drt w.P q := fun q => by
    constructor
    · rintro ⟨j, a, b, c, d⟩
      obtain ⟨k1, k2, k3⟩ := key j
      exact ⟨j, by rw [hlen] at a; exact a, by rw [← k1]; exact b, by rw [← k2]; exact c, by rw [← k3]; exact d⟩
    · rintro ⟨j, a, b, c, d⟩
      obtain ⟨k1, k2, k3⟩ := key j
      exact ⟨j, by rw [hlen]; exact a, by rw [k1]; exact b, by rw [k2]; exact c, by rw [k3]; exact d⟩
  have hR : ∀ q, Rsd P' q ↔ Rsd w.P q := fun q => by
    constructor
    · rintro ⟨j, a, b, c⟩
      obtain ⟨k1, k2, k3⟩ := key j
      exact ⟨j, by rw [hlen] at a; exact a, by rw [← k1]; exact b, by rw [← k2]; exact c⟩
    · rintro ⟨j, a, b, c⟩
      obtain ⟨k1, k2, k3⟩ := key j
      exact ⟨j, by rw [hlen]; exact a, by rw [k1]; exact b, by rw [k2]; exact c⟩
  refine ⟨⟨h.ok.mvP hl' hhd, ⟨h.gok.t, h.gok.l, by simpa using h.gok.p⟩, h.sp, h.bs, h.sec, h.wi, fun j a b => ?_, fun a b c1 c2 c3 c4 c5 => ?_, fun q hq hd => h.cl q hq (fun x => hd ((hD q).2 x)), fun q hq hd => h.di q hq ((hD q).1 hd), h.ls, h.tx, fun q hq => ?_⟩, hD, hR⟩
  · dsimp only at a b ⊢
    rw [hlen] at a
    by_cases hj : i = j
    · subst hj
      rw [self]
      exact ⟨p', hp, F.id, F.t, F.n, by rw [pP, if_pos rfl], F.d⟩
    · rw [other j hj] at b ⊢
      obtain ⟨q, hq, Fq⟩ := h.fr j a b
      have hqp : p' ≠ q := fun x => by
        subst x
        exact hj (h.un i j hi a hf b (by rw [hid, Fq.id]))
      exact ⟨q, hq, Fq.id, Fq.t, Fq.n, by rw [pP, if_neg hqp]; exact Fq.p, Fq.d⟩
  · dsimp only at c1 c2 c3 c4 c5
    rw [hlen] at c1 c2
    rw [(key a).1] at c3
    rw [(key b).1] at c4
    rw [(key a).2.1, (key b).2.1] at c5
    exact h.un a b c1 c2 c3 c4 c5
  · rw [pP]
    by_cases hqp : p' = q
    · rw [if_pos hqp]
      exact ⟨hv, fun _ => (hR q).2 (by rw [← hqp]; exact ⟨i, hi, hf, hid⟩)⟩
    · rw [if_neg hqp]
      exact ⟨(h.pn q hq).1, fun x => (hR q).2 ((h.pn q hq).2 x)⟩
/-- More pages than frames. -/
theorem pig : ∀ (n : Nat) (R : Nat → Nat → Prop), (∀ i p q, R i p → R i q → p = q) → (∀ p, p ≤ n → ∃ i, i < n ∧ R i p) → False
  | 0, R, _, h => by
    obtain ⟨i, hi, _⟩ := h 0 (Nat.le_refl _)
    omega
  | n + 1, R, hf, h => by
    obtain ⟨i0, hi0, hR0⟩ := h (n + 1) (Nat.le_refl _)
    refine pig n (fun j p => R (if j < i0 then j else j + 1) p) (fun i p q a b => hf _ p q a b) fun p hp => ?_
    obtain ⟨i, hi, hR⟩ := h p (by omega)
    have hne : i ≠ i0 := fun x => by
      subst x
      have := hf i p (n + 1) hR hR0
      omega
    rcases Nat.lt_or_ge i i0 with x | x
    · exact ⟨i, by omega, by rw [if_pos x]; exact hR⟩
    · refine ⟨i - 1, by omega, ?_⟩
      rw [if_neg (by omega), show i - 1 + 1 = i by omega]
      exact hR
/-- Pages up to the number of frames can't all be in frames. -/
theorem Pv.pig {S : St} {sb : Nat} {w : Wo} {g : Gh} (h : Pv S sb w g) (hr : ∀ p, p ≤ w.P.fs.length → Rsd w.P p) : False := by
  refine Go.Sp.pig w.P.fs.length (fun i p => (w.P.at i).id = (p : Int)) (fun i p q a b => by omega) fun p hp => ?_
  obtain ⟨i, a, _, c⟩ := hr p hp
  exact ⟨i, a, c⟩
/-- Where fewer pages than frames are pinned, not all frames are. -/
theorem Pv.room {S : St} {sb : Nat} {w : Wo} {g : Gh} (h : Pv S sb w g) {k : Nat} (hk : k < w.P.fs.length) (hz : ∀ q, k ≤ q → q < 8 → g.P q ≤ 0) (ha : ∀ j, j < w.P.fs.length → (w.P.at j).filled = true ∧ 0 < (w.P.at j).pins) : False := by
  refine Go.Sp.pig k (fun i j => j < w.P.fs.length ∧ (w.P.at j).id = (i : Int)) (fun i p q a b => ?_) fun j hj => ?_
  · exact h.un p q a.1 b.1 (ha p a.1).1 (ha q b.1).1 (by rw [a.2, b.2])
  · obtain ⟨a1, a2⟩ := ha j (by omega)
    obtain ⟨p, hp, F⟩ := h.fr j (by omega) a1
    have e1 := F.p
    refine ⟨p, ?_, by omega, F.id⟩
    rcases Nat.lt_or_ge p k with x | x
    · exact x
    · have := hz p x hp
      omega
end Go.Sp
