/- Texts of a proof, one behind the other: D6 D7 D10 D11 D12 Gw0 Gwo0 U1 K25 Gs0 Gq0 S1 S2. No condition. -/
import Derived.Test.YtaidhghnflnmnaaGreatM504112b3
import Derived.Test.YtaidhghnflnmnaaGreatM860773e2
import Derived.Test.YtaidhghnflnmnaaGreatMd541d382
import Derived.Lib.Builder
import Derived.Lib.AppendStr
import Derived.Lib.UnsafeStr
/- The disk: what was written last lasts. -/
namespace Go.Sp
open Go Go.Proofs
set_option linter.unusedSimpArgs false
set_option linter.unusedVariables false
set_option maxRecDepth 10000
theorem toN1 {a : Int} {j : Nat} (h : a = (j : Int)) : a.toNat = j := by omega
theorem toN2 {a : Int} {j : Nat} (h0 : 0 ≤ a) (h : ¬ a = (j : Int)) : a.toNat ≠ j := by omega
theorem toN3 {a : Int} {n : Nat} (h0 : 0 ≤ a ∧ a < (n : Int)) : a.toNat < n := by omega
theorem pk_keys (es : Ents eI eS) (k : Int) (v : List UInt8) (c : Nat) : (pk es k v c).map (·.1) = if gk es k = none then es.map (·.1) ++ [k] else es.map (·.1) := by
  induction es with
  | nil => simp [pk, gk]
  | cons x r ih =>
    by_cases h : x.1 = k
    · simp [pk, gk, h]
    · simp only [pk, gk, h, if_false, List.map_cons, ih]
      split <;> simp
theorem pk_born (es : Ents eI eS) (k : Int) (v : List UInt8) (c : Nat) : (pk es k v c).map (·.2.2) = if gk es k = none then es.map (·.2.2) ++ [c] else es.map (·.2.2) := by
  induction es with
  | nil => simp [pk, gk]
  | cons x r ih =>
    by_cases h : x.1 = k
    · simp [pk, gk, h]
    · simp only [pk, gk, h, if_false, List.map_cons, ih]
      split <;> simp
theorem pk_mem {es : Ents eI eS} {k : Int} {v : List UInt8} {c : Nat} {x : Int × List UInt8 × Nat} (h : x ∈ pk es k v c) : x ∈ es ∨ (x.1 = k ∧ x.2.1 = v) := by
  induction es with
  | nil => simp [pk] at h; right; simp [h]
  | cons y r ih =>
    unfold pk at h
    split at h
    · rcases List.mem_cons.1 h with rfl | h
      · right; simp
      · left; simp [h]
    · rcases List.mem_cons.1 h with rfl | h
      · left; simp
      · rcases ih h with h | h
        · left; simp [h]
        · right; exact h
theorem gk_some {es : Ents eI eS} {k : Int} (h : ¬ gk es k = none) : k ∈ es.map (·.1) := by
  cases hg : gk es k with
  | none => exact absurd hg h
  | some v => obtain ⟨x, hx, e, _⟩ := gk_mem hg; exact List.mem_map.2 ⟨x, hx, e⟩
theorem Dk.put_ok {D : Dk} (h : D.ok) {i : Int} (h0 : 0 ≤ i) (h1 : i < D.sure.length) {s : List UInt8} (hs : s.length = 64) : (D.put i s).ok := by
  obtain ⟨g1, g2, g3, g4, g5, g6, g7, g8, g9, g10⟩ := h
  have hb : ∀ b ∈ (pk D.es i s D.c).map (·.2.2), b < ck D.es i D.c := by
    intro b hb
    rw [pk_born] at hb
    unfold ck
    split at hb
    · rename_i hn
      rw [if_pos hn]
      rcases List.mem_append.1 hb with hb | hb
      · obtain ⟨x, hx, rfl⟩ := List.mem_map.1 hb
        have := g6 x hx; omega
      · simp at hb; omega
    · rename_i hn
      rw [if_neg hn]
      obtain ⟨x, hx, rfl⟩ := List.mem_map.1 hb
      exact g6 x hx
  refine ⟨g1, g2, g3, ?_, ?_, fun x hx => hb _ (List.mem_map.2 ⟨x, hx, rfl⟩), ?_, ?_, g9, g10⟩
  · intro x hx
    rcases pk_mem hx with hx | ⟨_, rfl⟩
    · exact g4 x hx
    · exact hs
  · intro x hx
    rcases pk_mem hx with hx | ⟨rfl, _⟩
    · exact g5 x hx
    · exact ⟨h0, h1⟩
  · refine (congrArg List.Nodup (pk_keys D.es i s D.c)).mpr ?_
    split
    · rename_i hn
      rw [List.nodup_append]
      refine ⟨g7, by simp, ?_⟩
      intro a ha b hb' e
      simp at hb'
      obtain ⟨x, hx, rfl⟩ := List.mem_map.1 ha
      exact gk_none hn x hx (e.trans hb')
    · exact g7
  · refine (congrArg List.Nodup (pk_born D.es i s D.c)).mpr ?_
    split
    · rw [List.nodup_append]
      refine ⟨g8, by simp, ?_⟩
      intro a ha b hb' e
      simp at hb'
      obtain ⟨x, hx, rfl⟩ := List.mem_map.1 ha
      have := g6 x hx
      omega
    · exact g8
theorem Dk.act_len (D : Dk) : D.act.2.sure.length = D.sure.length := by
  unfold Dk.act
  split
  · exact Dk.cutn_len D _ _
  · rfl
theorem Dk.write_ok {D : Dk} (h : D.ok) (i : Int) (s : List UInt8) : (D.write i s).2.ok := by
  unfold Dk.write
  split
  · rename_i h0
    have := Dk.chk_ok h0
    split
    · exact h
    · split
      · exact Dk.put_ok (Dk.act_ok h) this.2.1 (by rw [Dk.act_len]; exact this.2.2) (wh_len (by omega))
      · exact Dk.act_ok h
  · exact h
/-- Sectors written one by one. -/
def sy (S : Ents eI eS) (l : List (List UInt8)) : List (List UInt8) := S.foldl (fun s x => s.set x.1.toNat x.2.1) l
theorem sy_snoc (S : Ents eI eS) (x : Int × List UInt8 × Nat) (l : List (List UInt8)) : sy (S ++ [x]) l = (sy S l).set x.1.toNat x.2.1 := by simp [sy]
theorem sy_len (S : Ents eI eS) (l : List (List UInt8)) : (sy S l).length = l.length := by
  induction S generalizing l with
  | nil => rfl
  | cons x r ih => show (sy r (l.set x.1.toNat x.2.1)).length = _; rw [ih]; simp
theorem sy_get (S : Ents eI eS) : ∀ (l : List (List UInt8)) (_ : (S.map (·.1)).Nodup) (_ : ∀ x ∈ S, 0 ≤ x.1 ∧ x.1 < (l.length : Int)) (j : Nat) (_ : j < l.length), (sy S l)[j]? = some ((gk S (j : Int)).getD (l.getD j [])) := by
  induction S with
  | nil => intro l _ _ j hj; simp [sy, gk, hj]
  | cons x r ih =>
    intro l hn hr j hj
    rw [List.map_cons, List.nodup_cons] at hn
    show (sy r (l.set x.1.toNat x.2.1))[j]? = _
    rw [ih _ hn.2 (fun y hy => by simpa using hr y (by simp [hy])) j (by simpa using hj)]
    have hx : (0 : Int) ≤ x.1 ∧ (x.1 : Int) < (l.length : Int) := hr x (by simp)
    by_cases h : x.1 = (j : Int)
    · have hg : gk r (j : Int) = none := by
        cases hg : gk r (j : Int) with
        | none => rfl
        | some v => exact absurd (h ▸ gk_some (by rw [hg]; simp)) hn.1
      have : x.1.toNat = j := toN1 h
      simp [gk, h, hg, hj]
    · have : x.1.toNat ≠ j := toN2 hx.1 h
      simp [gk, h, this]
theorem gk_perm {S es : Ents eI eS} (h : S.Perm es) (hn : (es.map (·.1)).Nodup) (k : Int) : gk S k = gk es k := by
  have hn' : (S.map (·.1)).Nodup := (h.map _).nodup_iff.2 hn
  have key : ∀ {A : Ents eI eS} {x : Int × List UInt8 × Nat}, (A.map (·.1)).Nodup → x ∈ A → gk A x.1 = some x.2.1 := by
    intro A x hA hx
    induction A with
    | nil => cases hx
    | cons y r ih =>
      rw [List.map_cons, List.nodup_cons] at hA
      by_cases e : y.1 = x.1
      · cases hx with
        | head => simp [gk]
        | tail _ hx => exact absurd (List.mem_map.2 ⟨x, hx, e.symm⟩) hA.1
      · cases hx with
        | head => exact absurd rfl e
        | tail _ hx => simp only [gk, e, if_false]; exact ih hA.2 hx
  cases hg : gk es k with
  | none =>
    cases hs : gk S k with
    | none => rfl
    | some v =>
      obtain ⟨x, hx, e, _⟩ := gk_mem hs
      exact absurd e (gk_none hg x (h.mem_iff.1 hx))
  | some v =>
    obtain ⟨x, hx, rfl, rfl⟩ := gk_mem hg
    exact key hn' (h.mem_iff.2 hx)
/-- All that was written last, lasting. -/
def Dk.flush (D : Dk) : Dk := { D with sure := sy D.es D.sure, es := [] }
theorem sy_perm {S es : Ents eI eS} {l : List (List UInt8)} (h : S.Perm es) (hn : (es.map (·.1)).Nodup) (hr : ∀ x ∈ es, 0 ≤ x.1 ∧ x.1 < (l.length : Int)) : sy S l = sy es l := by
  apply List.ext_getElem?
  intro j
  by_cases hj : j < l.length
  · rw [sy_get S l ((h.map _).nodup_iff.2 hn) (fun x hx => hr x (h.mem_iff.1 hx)) j hj, sy_get es l hn hr j hj, gk_perm h hn]
  · rw [List.getElem?_eq_none (by rw [sy_len]; omega), List.getElem?_eq_none (by rw [sy_len]; omega)]
def Dk.sync (D : Dk) : Int × Dk := if D.chk 0 = 0 then (if D.act.1 = 0 then (0, D.act.2.flush) else (D.act.1, D.act.2)) else (D.chk 0, D)
theorem f28 (D : Dk) (h : D.ok) : Fq eI Tryz.prog 79 #[D.p] (dkl D) (dkl D.sync.2) D.sync.1 := by
  unfold Dk.sync
  by_cases h0 : D.chk 0 = 0
  · simp only [h0, if_true]
    by_cases h2 : D.act.1 = 0 <;> simp only [h2, if_true, if_false]
    all_goals
      intro L
      refine c79_fn rfl rfl ?_
      simp only [Dk.p]
      repeat' ((fail_if_success with_reducible refine nph ?_); first | (with_reducible first | (refine d_seq ?_; intro K hK) | (refine hK _ _ ?_; clear hK K) | (refine SG.p ?_; try intro b)) | ((with_reducible refine SC.p ?_); refine And.intro ?_ ?_) <;> intro hc <;> try simp only [push_cast, Int.reduceEq, Int.reduceLT, Int.reduceLE, Int.reduceNe] at hc | with_reducible refine r_rq (by first | decide | omega) ?_ | ((with_reducible refine SL.p ?_); first | refine ⟨_, rfl, ?_⟩ | refine ⟨_, _, _, rfl, ?_⟩ | (refine ⟨?_, rfl, ?_⟩; focus (simp; done))) | ((with_reducible first | apply i_ldn | apply i_ldnq); exact rfl; exact rfl; exact rfl) | ((try with_reducible refine d_reg ?_); simp only [go_sem, Nat.reduceAdd, Nat.reduceEqDiff, Int.reduceToNat, Nat.reduceMul, Nat.reduceSub]) | clear hK K)
      refine i_clp (f67 D h 0) ?_
      simp only [h0]
      repeat' ((fail_if_success with_reducible refine nph ?_); first | (with_reducible first | (refine d_seq ?_; intro K hK) | (refine hK _ _ ?_; clear hK K) | (refine SG.p ?_; try intro b)) | ((with_reducible refine SC.p ?_); refine And.intro ?_ ?_) <;> intro hc <;> try simp only [push_cast, Int.reduceEq, Int.reduceLT, Int.reduceLE, Int.reduceNe] at hc | with_reducible refine r_rq (by first | decide | omega) ?_ | ((with_reducible refine SL.p ?_); first | refine ⟨_, rfl, ?_⟩ | refine ⟨_, _, _, rfl, ?_⟩ | (refine ⟨?_, rfl, ?_⟩; focus (simp; done))) | ((with_reducible first | apply i_ldn | apply i_ldnq); exact rfl; exact rfl; exact rfl) | ((try with_reducible refine d_reg ?_); simp only [go_sem, Nat.reduceAdd, Nat.reduceEqDiff, Int.reduceToNat, Nat.reduceMul, Nat.reduceSub]) | clear hK K)
      all_goals try (first | contradiction | (exfalso; omega))
      refine i_clq (f68 D h) ?_
      try simp only [h2]
      repeat' ((fail_if_success with_reducible refine nph ?_); first | (with_reducible first | (refine d_seq ?_; intro K hK) | (refine hK _ _ ?_; clear hK K) | (refine SG.p ?_; try intro b)) | ((with_reducible refine SC.p ?_); refine And.intro ?_ ?_) <;> intro hc <;> try simp only [push_cast, Int.reduceEq, Int.reduceLT, Int.reduceLE, Int.reduceNe] at hc | with_reducible refine r_rq (by first | decide | omega) ?_ | ((with_reducible refine SL.p ?_); first | refine ⟨_, rfl, ?_⟩ | refine ⟨_, _, _, rfl, ?_⟩ | (refine ⟨?_, rfl, ?_⟩; focus (simp; done))) | ((with_reducible first | apply i_ldn | apply i_ldnq); exact rfl; exact rfl; exact rfl) | ((try with_reducible refine d_reg ?_); simp only [go_sem, Nat.reduceAdd, Nat.reduceEqDiff, Int.reduceToNat, Nat.reduceMul, Nat.reduceSub]) | clear hK K)
      all_goals try (first | contradiction | (exfalso; omega))
    · have hsb := Dk.act_sb D
      have hA := Dk.act_ok h
      generalize D.act.2 = A at *
      simp only [← hsb]
      repeat' (first | (with_reducible first | (refine d_seq ?_; intro K hK) | (refine hK _ _ ?_; clear hK K) | (refine SG.p ?_; try intro b)) | ((with_reducible refine SC.p ?_); refine And.intro ?_ ?_) <;> intro hc <;> try simp only [push_cast, Int.reduceEq, Int.reduceLT, Int.reduceLE, Int.reduceNe] at hc | with_reducible refine r_rq (by first | decide | omega) ?_ | ((with_reducible refine SL.p ?_); first | refine ⟨_, rfl, ?_⟩ | refine ⟨_, _, _, rfl, ?_⟩ | (refine ⟨?_, rfl, ?_⟩; focus (simp; done))) | ((with_reducible first | apply i_ldn | apply i_ldnq); exact rfl; exact rfl; exact rfl) | ((try with_reducible refine d_reg ?_); simp only [go_sem, Nat.reduceAdd, Nat.reduceEqDiff, Int.reduceToNat, Nat.reduceMul, Nat.reduceSub]) | clear hK K)
      refine i_mrng (κ := eI) (ε := eS) (a := 3) (b := 9) (by kernel_rfl) fun it => ?_
      repeat' (first | (with_reducible first | (refine d_seq ?_; intro K hK) | (refine hK _ _ ?_; clear hK K) | (refine SG.p ?_; try intro b)) | ((with_reducible refine SC.p ?_); refine And.intro ?_ ?_) <;> intro hc <;> try simp only [push_cast, Int.reduceEq, Int.reduceLT, Int.reduceLE, Int.reduceNe] at hc | with_reducible refine r_rq (by first | decide | omega) ?_ | ((with_reducible refine SL.p ?_); first | refine ⟨_, rfl, ?_⟩ | refine ⟨_, _, _, rfl, ?_⟩ | (refine ⟨?_, rfl, ?_⟩; focus (simp; done))) | ((with_reducible first | apply i_ldn | apply i_ldnq); exact rfl; exact rfl; exact rfl) | ((try with_reducible refine d_reg ?_); simp only [go_sem, Nat.reduceAdd, Nat.reduceEqDiff, Int.reduceToNat, Nat.reduceMul, Nat.reduceSub]) | clear hK K)
      refine d_lp [0, 21] (fun s : Ents eI eS × Ents eI eS => [(0, .pointer (some ⟨A.sb, 0, none⟩)), (21, .pointer (some ⟨it, 0, none⟩))])
        (fun s => blk it (.mapIter (some A.mb) A.c (sn s.1) A.c) :: ar A.sb 108 A.hd :: ar A.bb 9 ((sy s.1 A.sure).map fun s => str s) :: mp eI eS A.mb A.es A.c :: L) (fun s => Rg A.es s.1 s.2) (fun s => s.2.length) ([], A.es) rfl ?_ (Rg.start _) ?_
      · show Sub (blk it (.mapIter (some A.mb) A.c #[] A.c) :: (dkl A ++ L)) _
        exact SX.p
      rintro ⟨S, R⟩ hR
      dsimp only at hR ⊢
      repeat' (first | (with_reducible first | (refine d_seq ?_; intro K hK) | (refine hK _ _ ?_; clear hK K) | (refine SG.p ?_; try intro b)) | ((with_reducible refine SC.p ?_); refine And.intro ?_ ?_) <;> intro hc <;> try simp only [push_cast, Int.reduceEq, Int.reduceLT, Int.reduceLE, Int.reduceNe] at hc | with_reducible refine r_rq (by first | decide | omega) ?_ | ((with_reducible refine SL.p ?_); first | refine ⟨_, rfl, ?_⟩ | refine ⟨_, _, _, rfl, ?_⟩ | (refine ⟨?_, rfl, ?_⟩; focus (simp; done))) | ((with_reducible first | apply i_ldn | apply i_ldnq); exact rfl; exact rfl; exact rfl) | ((try with_reducible refine d_reg ?_); simp only [go_sem, Nat.reduceAdd, Nat.reduceEqDiff, Int.reduceToNat, Nat.reduceMul, Nat.reduceSub]) | clear hK K)
      refine i_mnx (κ := eI) (ε := eS) hA.ec (Nat.le_refl _) (fun ha => ?_) fun x hx hn => ?_
      · repeat' (first | (with_reducible first | (refine d_seq ?_; intro K hK) | (refine hK _ _ ?_; clear hK K) | (refine SG.p ?_; try intro b)) | ((with_reducible refine SC.p ?_); refine And.intro ?_ ?_) <;> intro hc <;> try simp only [push_cast, Int.reduceEq, Int.reduceLT, Int.reduceLE, Int.reduceNe] at hc | with_reducible refine r_rq (by first | decide | omega) ?_ | ((with_reducible refine SL.p ?_); first | refine ⟨_, rfl, ?_⟩ | refine ⟨_, _, _, rfl, ?_⟩ | (refine ⟨?_, rfl, ?_⟩; focus (simp; done))) | ((with_reducible first | apply i_ldn | apply i_ldnq); exact rfl; exact rfl; exact rfl) | ((try with_reducible refine d_reg ?_); simp only [go_sem, Nat.reduceAdd, Nat.reduceEqDiff, Int.reduceToNat, Nat.reduceMul, Nat.reduceSub]) | clear hK K)
        obtain rfl := hR.done hA.bn ha
        have hS : S.Perm A.es := by have := hR; unfold Rg at this; simpa using this
        have e := sy_perm hS hA.kn hA.ei
        refine i_mclr (κ := eI) (ε := eS) (a := 3) (b := 9) (by kernel_rfl) ?_
        repeat' (first | (with_reducible first | (refine d_seq ?_; intro K hK) | (refine hK _ _ ?_; clear hK K) | (refine SG.p ?_; try intro b)) | ((with_reducible refine SC.p ?_); refine And.intro ?_ ?_) <;> intro hc <;> try simp only [push_cast, Int.reduceEq, Int.reduceLT, Int.reduceLE, Int.reduceNe] at hc | with_reducible refine r_rq (by first | decide | omega) ?_ | ((with_reducible refine SL.p ?_); first | refine ⟨_, rfl, ?_⟩ | refine ⟨_, _, _, rfl, ?_⟩ | (refine ⟨?_, rfl, ?_⟩; focus (simp; done))) | ((with_reducible first | apply i_ldn | apply i_ldnq); exact rfl; exact rfl; exact rfl) | ((try with_reducible refine d_reg ?_); simp only [go_sem, Nat.reduceAdd, Nat.reduceEqDiff, Int.reduceToNat, Nat.reduceMul, Nat.reduceSub]) | clear hK K)
        simp only [Dk.flush, dkl, Dk.hd, sy_len]
        rw [e]
        (with_reducible first | apply i_ret0 | apply i_ret2 | apply i_ret3 | apply i_ret); exact rfl
        rfl
      · repeat' (first | (with_reducible first | (refine d_seq ?_; intro K hK) | (refine hK _ _ ?_; clear hK K) | (refine SG.p ?_; try intro b)) | ((with_reducible refine SC.p ?_); refine And.intro ?_ ?_) <;> intro hc <;> try simp only [push_cast, Int.reduceEq, Int.reduceLT, Int.reduceLE, Int.reduceNe] at hc | with_reducible refine r_rq (by first | decide | omega) ?_ | ((with_reducible refine SL.p ?_); first | refine ⟨_, rfl, ?_⟩ | refine ⟨_, _, _, rfl, ?_⟩ | (refine ⟨?_, rfl, ?_⟩; focus (simp; done))) | ((with_reducible first | apply i_ldn | apply i_ldnq); exact rfl; exact rfl; exact rfl) | ((try with_reducible refine d_reg ?_); simp only [go_sem, Nat.reduceAdd, Nat.reduceEqDiff, Int.reduceToNat, Nat.reduceMul, Nat.reduceSub]) | clear hK K)
        rw [sn_push]
        refine i_ment hx hA.bn ?_
        have hi : (0 : Int) ≤ x.1 ∧ (x.1 : Int) < (A.sure.length : Int) := hA.ei x hx
        have hl := sy_len S A.sure
        obtain ⟨R', hlt, hst⟩ := hR.step hx hn
        repeat' (first | (with_reducible first | (refine d_seq ?_; intro K hK) | (refine hK _ _ ?_; clear hK K) | (refine SG.p ?_; try intro b)) | ((with_reducible refine SC.p ?_); refine And.intro ?_ ?_) <;> intro hc <;> try simp only [push_cast, Int.reduceEq, Int.reduceLT, Int.reduceLE, Int.reduceNe] at hc | with_reducible refine r_rq (by first | decide | omega) ?_ | ((with_reducible refine SL.p ?_); first | refine ⟨_, rfl, ?_⟩ | refine ⟨_, _, _, rfl, ?_⟩ | (refine ⟨?_, rfl, ?_⟩; focus (simp; done))) | ((with_reducible first | apply i_ldn | apply i_ldnq); exact rfl; exact rfl; exact rfl) | ((try with_reducible refine d_reg ?_); simp only [go_sem, Nat.reduceAdd, Nat.reduceEqDiff, Int.reduceToNat, Nat.reduceMul, Nat.reduceSub]) | clear hK K)
        refine i_st (by rw [List.length_map, hl]; exact toN3 hi) rfl ?_
        rw [← List.map_set, ← sy_snoc]
        repeat' (first | (with_reducible first | (refine d_seq ?_; intro K hK) | (refine hK _ _ ?_; clear hK K) | (refine SG.p ?_; try intro b)) | ((with_reducible refine SC.p ?_); refine And.intro ?_ ?_) <;> intro hc <;> try simp only [push_cast, Int.reduceEq, Int.reduceLT, Int.reduceLE, Int.reduceNe] at hc | with_reducible refine r_rq (by first | decide | omega) ?_ | ((with_reducible refine SL.p ?_); first | refine ⟨_, rfl, ?_⟩ | refine ⟨_, _, _, rfl, ?_⟩ | (refine ⟨?_, rfl, ?_⟩; focus (simp; done))) | ((with_reducible first | apply i_ldn | apply i_ldnq); exact rfl; exact rfl; exact rfl) | ((try with_reducible refine d_reg ?_); simp only [go_sem, Nat.reduceAdd, Nat.reduceEqDiff, Int.reduceToNat, Nat.reduceMul, Nat.reduceSub]) | clear hK K)
        exact i_bk (S ++ [x], R') rfl hst hlt
    · (with_reducible first | apply i_ret0 | apply i_ret2 | apply i_ret3 | apply i_ret); exact rfl
      rfl
  · simp only [h0, if_false]
    intro L
    refine c79_fn rfl rfl ?_
    simp only [Dk.p]
    repeat' ((fail_if_success with_reducible refine nph ?_); first | (with_reducible first | (refine d_seq ?_; intro K hK) | (refine hK _ _ ?_; clear hK K) | (refine SG.p ?_; try intro b)) | ((with_reducible refine SC.p ?_); refine And.intro ?_ ?_) <;> intro hc <;> try simp only [push_cast, Int.reduceEq, Int.reduceLT, Int.reduceLE, Int.reduceNe] at hc | with_reducible refine r_rq (by first | decide | omega) ?_ | ((with_reducible refine SL.p ?_); first | refine ⟨_, rfl, ?_⟩ | refine ⟨_, _, _, rfl, ?_⟩ | (refine ⟨?_, rfl, ?_⟩; focus (simp; done))) | ((with_reducible first | apply i_ldn | apply i_ldnq); exact rfl; exact rfl; exact rfl) | ((try with_reducible refine d_reg ?_); simp only [go_sem, Nat.reduceAdd, Nat.reduceEqDiff, Int.reduceToNat, Nat.reduceMul, Nat.reduceSub]) | clear hK K)
    refine i_clp (f67 D h 0) ?_
    repeat' ((fail_if_success with_reducible refine nph ?_); first | (with_reducible first | (refine d_seq ?_; intro K hK) | (refine hK _ _ ?_; clear hK K) | (refine SG.p ?_; try intro b)) | ((with_reducible refine SC.p ?_); refine And.intro ?_ ?_) <;> intro hc <;> try simp only [push_cast, Int.reduceEq, Int.reduceLT, Int.reduceLE, Int.reduceNe] at hc | with_reducible refine r_rq (by first | decide | omega) ?_ | ((with_reducible refine SL.p ?_); first | refine ⟨_, rfl, ?_⟩ | refine ⟨_, _, _, rfl, ?_⟩ | (refine ⟨?_, rfl, ?_⟩; focus (simp; done))) | ((with_reducible first | apply i_ldn | apply i_ldnq); exact rfl; exact rfl; exact rfl) | ((try with_reducible refine d_reg ?_); simp only [go_sem, Nat.reduceAdd, Nat.reduceEqDiff, Int.reduceToNat, Nat.reduceMul, Nat.reduceSub]) | clear hK K)
    all_goals first | contradiction | omega | ((with_reducible first | apply i_ret0 | apply i_ret2 | apply i_ret3 | apply i_ret); exact rfl; rfl)
theorem Dk.flush_ok {D : Dk} (h : D.ok) : D.flush.ok := by
  obtain ⟨g1, g2, g3, g4, g5, g6, g7, g8, g9, g10⟩ := h
  have hl := sy_len D.es D.sure
  constructor <;> simp only [Dk.flush, hl] <;> first | assumption | skip
  · intro s hs
    obtain ⟨j, hj⟩ := List.getElem?_of_mem hs
    have hj' : j < D.sure.length := by
      rw [← hl]
      rcases Nat.lt_or_ge j (sy D.es D.sure).length with h | h
      · exact h
      · rw [List.getElem?_eq_none h] at hj; cases hj
    rw [sy_get _ _ g7 g5 j hj'] at hj
    cases hg : gk D.es (j : Int) with
    | none => rw [hg] at hj; simp only [Option.getD_none, Option.some.injEq] at hj; subst hj; exact g3 _ (by simp [hj'])
    | some v =>
      obtain ⟨x, hx, _, rfl⟩ := gk_mem hg
      rw [hg] at hj
      simp only [Option.getD_some, Option.some.injEq] at hj
      subst hj
      have := g4 x hx
      omega
  all_goals simp
theorem Dk.get_len {D : Dk} (h : D.ok) {i : Int} (hi : D.chk i = 0) : (D.get i).length = 64 := by
  have hk := Dk.chk_ok hi
  unfold Dk.get
  cases hg : gk D.es i with
  | some v => obtain ⟨x, hx, _, rfl⟩ := gk_mem hg; exact h.e64 x hx
  | none =>
    have : i.toNat < D.sure.length := by omega
    exact wh_len (h.l64 _ (by simp [this]))
theorem Dk.sync_ok {D : Dk} (h : D.ok) : D.sync.2.ok := by
  unfold Dk.sync
  split
  · split
    · exact Dk.flush_ok (Dk.act_ok h)
    · exact Dk.act_ok h
  · exact h
end Go.Sp
/- The disk as one part; the layer's example. -/
namespace Go.Sp
open Go Go.Proofs
set_option linter.unusedSimpArgs false
set_option linter.unusedVariables false
set_option maxRecDepth 10000
def dk (D : Dk) : HP := HS (dkl D)
theorem fo {e : Enc} {P : Program} {f : FuncId} {args : Array Value} {x : e.α} {D D' : Dk} (h : Fq e P f args (dkl D) (dkl D') x) : Fq e P f args [dk D] [dk D'] x :=
  Fq.fold (A := dkl D) (B := dkl D') (C := []) (by simpa using h)
theorem F26 (D : Dk) (h : D.ok) : Fp eI Tryz.prog 99 #[D.p] [dk D] (D.sure.length : Int) := fo (f26 D h)
theorem F31 (D : Dk) (h : D.ok) (i : Int) : Fp (eT2 eS eI) Tryz.prog 22 #[D.p, .int .i64 i] [dk D] (if D.chk i = 0 then D.get i else [], D.chk i) := fo (f31 D h i)
def Dk.on (D : Dk) : Dk := { D with up := true }
theorem Dk.on_ok {D : Dk} (h : D.ok) : D.on.ok := by
  obtain ⟨g1, g2, g3, g4, g5, g6, g7, g8, g9, g10⟩ := h
  exact ⟨g1, g2, g3, g4, g5, g6, g7, g8, g9, g10⟩
theorem F27 (D : Dk) (h : D.ok) (i : Int) (s : List UInt8) : Fq eI Tryz.prog 24 #[D.p, .int .i64 i, str s] [dk D] [dk (D.write i s).2] (D.write i s).1 := fo (f27 D h i s)
theorem F28 (D : Dk) (h : D.ok) : Fq eI Tryz.prog 79 #[D.p] [dk D] [dk D.sync.2] D.sync.1 := fo (f28 D h)
theorem F25 (n : Nat) (h0 : 0 < n) (h1 : n ≤ 8192) : Fn (eT2 eP eI) Tryz.prog 16 #[.int .i64 (n : Int)] [] fun y X => ∃ sb bb mb, y = (some ⟨sb, 0, none⟩, 0) ∧ X = [dk (Dk.new sb bb mb n)] := fun L w hw => by
  refine (f25 n h0 h1 L w hw).mono ?_
  rintro _ w' ⟨x, he, X, ⟨sb, bb, mb, rfl, rfl⟩, hX⟩
  exact ⟨_, he, _, ⟨sb, bb, mb, rfl, rfl⟩, Holds.close hX⟩
theorem Dk.write_go {D : Dk} {i : Int} {s : List UInt8} (h0 : D.chk i = 0) (hs : s.length ≤ 64) (hf : D.fuse < 0) : D.write i s = (0, Dk.put { D with acts := IntKind.wrap .i64 (D.acts + 1) } i (wh s)) := by
  have e : D.act = (0, { D with acts := IntKind.wrap .i64 (D.acts + 1) }) := by
    unfold Dk.act
    rw [if_neg (by omega), if_neg (by omega)]
  unfold Dk.write
  rw [if_pos h0, if_neg (by omega), e, if_pos rfl]
end Go.Sp
/- The disk: what is read behind writes, syncs and losses. -/
namespace Go.Sp
open Go Go.Proofs
set_option linter.unusedSimpArgs false
set_option linter.unusedVariables false
theorem gk_pk (es : Ents eI eS) (i j : Int) (v : List UInt8) (c : Nat) : gk (pk es i v c) j = if i = j then some v else gk es j := by
  induction es with
  | nil => simp [pk, gk]
  | cons x r ih =>
    by_cases h : x.1 = i
    · simp only [pk, h, if_true, gk]
      by_cases hj : i = j
      · simp [hj]
      · simp [hj]
    · simp only [pk, h, if_false, gk, ih]
      by_cases hx : x.1 = j
      · have : ¬ i = j := fun e => h (hx.trans e.symm)
        simp [hx, this]
      · simp [hx]
theorem Dk.sync_go {D : Dk} (h0 : D.chk 0 = 0) (hf : D.fuse < 0) : D.sync = (0, Dk.flush { D with acts := IntKind.wrap .i64 (D.acts + 1) }) := by
  have e : D.act = (0, { D with acts := IntKind.wrap .i64 (D.acts + 1) }) := by
    unfold Dk.act
    rw [if_neg (by omega), if_neg (by omega)]
  unfold Dk.sync
  rw [if_pos h0, e, if_pos rfl]
theorem Dk.flush_get {D : Dk} (h : D.ok) {j : Nat} (hj : j < D.sure.length) : D.flush.get (j : Int) = D.get (j : Int) := by
  have e : (sy D.es D.sure).getD j [] = (gk D.es (j : Int)).getD (D.sure.getD j []) := by
    rw [List.getD_eq_getElem?_getD, sy_get D.es D.sure h.kn h.ei j hj]
    rfl
  simp only [Dk.get, Dk.flush, gk, Option.getD_none, Int.toNat_natCast]
  rw [e]
  cases hg : gk D.es (j : Int) with
  | none => rfl
  | some v =>
    obtain ⟨x, hx, _, rfl⟩ := gk_mem hg
    exact wh_full (h.e64 x hx)
/-- Behind a loss each sector is as it was synced, or as it was written last. -/
theorem Dk.cut_or {D : Dk} (h : D.ok) (keep : Int) : ∀ (n : Nat) (_ : n ≤ D.keys.length) (j : Nat), (D.cutn keep n).getD j [] = D.sure.getD j [] ∨ gk D.es (j : Int) = some ((D.cutn keep n).getD j [])
  | 0, _, _ => .inl rfl
  | n + 1, hn, j => by
    have ih := Dk.cut_or h keep n (by omega) j
    unfold Dk.cutn
    split
    · have hk := Dk.keys_in h (n := n) (by omega)
      have hm : D.keys.getD n 0 ∈ D.es.map (·.1) := by
        rw [List.getD_eq_getElem?_getD, List.getElem?_eq_getElem (by omega)]
        exact (List.mergeSort_perm _ _).mem_iff.1 (List.getElem_mem _)
      generalize D.keys.getD n 0 = k at *
      by_cases hkj : k.toNat = j
      · right
        have hkj' : k = (j : Int) := by omega
        have hlt : j < (D.cutn keep n).length := by rw [Dk.cutn_len]; omega
        cases hg : gk D.es k with
        | none =>
          obtain ⟨x, hx, e⟩ := List.mem_map.1 hm
          exact absurd e (gk_none hg x hx)
        | some v =>
          subst hkj
          rw [← hkj', hg]
          simp [hlt]
      · have e : ((D.cutn keep n).set k.toNat ((gk D.es k).getD [])).getD j [] = (D.cutn keep n).getD j [] := by
          simp [List.getD_eq_getElem?_getD, List.getElem?_set, hkj]
        rw [e]
        exact ih
    · exact ih
end Go.Sp
/- The disk: many writes, a sync, many writes, a loss of power. -/
namespace Go.Sp
open Go Go.Proofs
set_option linter.unusedSimpArgs false
set_option linter.unusedVariables false
/-- The first texts of a list are written, each that has room. -/
def Dk.wr (D : Dk) (l : List (List UInt8)) : Nat → Dk
  | 0 => D
  | i + 1 => if (l.getD i []).length ≤ 64 then ((D.wr l i).write (i : Int) (l.getD i [])).2 else D.wr l i
/-- A disk that nothing lets go. -/
structure Dk.calm (D : Dk) (sb : Nat) (n : Nat) : Prop where
  ok : D.ok
  sb : D.sb = sb
  up : D.up = true
  fu : D.fuse < 0
  n : D.sure.length = n
theorem Dk.calm.chk {D : Dk} {sb n : Nat} (h : D.calm sb n) {i : Nat} (hi : i < n) : D.chk (i : Int) = 0 := by
  unfold Dk.chk
  rw [h.up, h.n, if_neg (by simp), if_neg (by omega)]
theorem Dk.calm.write {D : Dk} {sb n : Nat} (h : D.calm sb n) {i : Nat} (hi : i < n) {s : List UInt8} (hs : s.length ≤ 64) :
    (D.write (i : Int) s).1 = 0 ∧ (D.write (i : Int) s).2.calm sb n ∧ (D.write (i : Int) s).2.sure = D.sure ∧ (D.write (i : Int) s).2.downs = D.downs ∧ ∀ j : Int, gk (D.write (i : Int) s).2.es j = if (i : Int) = j then some (wh s) else gk D.es j := by
  have hok := Dk.write_ok h.ok (i : Int) s
  rw [Dk.write_go (h.chk hi) hs h.fu] at hok ⊢
  exact ⟨rfl, ⟨hok, h.sb, h.up, h.fu, h.n⟩, rfl, rfl, fun j => gk_pk _ _ _ _ _⟩
theorem Dk.calm.wr {D : Dk} {sb n : Nat} (h : D.calm sb n) (l : List (List UInt8)) : ∀ i, i ≤ n → (D.wr l i).calm sb n ∧ (D.wr l i).sure = D.sure ∧ ∀ j : Nat, gk (D.wr l i).es (j : Int) = if j < i ∧ (l.getD j []).length ≤ 64 then some (wh (l.getD j [])) else gk D.es (j : Int)
  | 0, _ => ⟨h, rfl, fun j => by simp [Dk.wr]⟩
  | i + 1, hi => by
    obtain ⟨h1, h2, h3⟩ := Dk.calm.wr h l i (by omega)
    unfold Dk.wr
    split
    · rename_i hs
      obtain ⟨_, w2, w3, _, w5⟩ := h1.write (by omega : i < n) hs
      refine ⟨w2, w3.trans h2, fun j => ?_⟩
      rw [w5, h3]
      by_cases hj : i = j
      · subst hj
        rw [if_pos rfl, if_pos ⟨by omega, hs⟩]
      · rw [if_neg (by omega)]
        by_cases hc : j < i ∧ (l.getD j []).length ≤ 64
        · rw [if_pos hc, if_pos ⟨by omega, hc.2⟩]
        · rw [if_neg hc, if_neg (fun hc' => hc ⟨by omega, hc'.2⟩)]
    · rename_i hs
      refine ⟨h1, h2, fun j => ?_⟩
      rw [h3]
      by_cases hj : i = j
      · subst hj
        rw [if_neg (by omega), if_neg (fun hc => hs hc.2)]
      · by_cases hc : j < i ∧ (l.getD j []).length ≤ 64
        · rw [if_pos hc, if_pos ⟨by omega, hc.2⟩]
        · rw [if_neg hc, if_neg (fun hc' => hc ⟨by omega, hc'.2⟩)]
theorem Dk.calm.sync {D : Dk} {sb n : Nat} (h : D.calm sb n) (hn : 0 < n) : D.sync.1 = 0 ∧ D.sync.2.calm sb n ∧ D.sync.2.es = [] ∧ D.sync.2.downs = D.downs ∧ ∀ j : Nat, j < n → D.sync.2.get (j : Int) = D.get (j : Int) := by
  have hok := Dk.sync_ok h.ok
  have hc := h.chk hn
  rw [Dk.sync_go hc h.fu] at hok ⊢
  have hA : ({ D with acts := IntKind.wrap .i64 (D.acts + 1) } : Dk).ok := by
    obtain ⟨g1, g2, g3, g4, g5, g6, g7, g8, g9, g10⟩ := h.ok
    exact ⟨g1, g2, g3, g4, g5, g6, g7, g8, g9, g10⟩
  refine ⟨rfl, ⟨hok, h.sb, h.up, h.fu, ?_⟩, rfl, rfl, fun j hj => ?_⟩
  · show (sy D.es D.sure).length = n
    rw [sy_len]; exact h.n
  · exact Dk.flush_get hA (by rw [← h.n] at hj; exact hj)
theorem Dk.calm.new {sb bb mb n : Nat} (h0 : 0 < n) (h1 : n ≤ 8192) : (Dk.new sb bb mb n).calm sb n := ⟨Dk.new_ok h0 h1, rfl, rfl, (by decide : (-1 : Int) < 0), by simp [Dk.new]⟩
theorem Dk.calm.off {D : Dk} {sb n : Nat} (h : D.calm sb n) (keep : Int) : (D.off keep).on.calm sb n ∧ (D.off keep).up = false ∧ (D.off keep).ok ∧ (D.off keep).sb = sb ∧
    ∀ j : Nat, (D.off keep).on.get (j : Int) = wh (D.sure.getD j []) ∨ ∃ v, gk D.es (j : Int) = some v ∧ v.length = 64 ∧ (D.off keep).on.get (j : Int) = v := by
  have hok := Dk.off_ok h.ok keep
  refine ⟨⟨Dk.on_ok hok, h.sb, rfl, (by decide : (-1 : Int) < 0), ?_⟩, rfl, hok, h.sb, fun j => ?_⟩
  · show (D.cutn keep D.keys.length).length = n
    rw [Dk.cutn_len]; exact h.n
  · have e : (D.off keep).on.get (j : Int) = wh ((D.cutn keep D.keys.length).getD j []) := rfl
    rw [e]
    rcases Dk.cut_or h.ok keep D.keys.length (Nat.le_refl _) j with h1 | h1
    · left; rw [h1]
    · right
      obtain ⟨x, hx, _, hv⟩ := gk_mem h1
      have h64 := h.ok.e64 x hx
      rw [hv] at h64
      exact ⟨_, h1, h64, wh_full h64⟩
/-- What is to be read of a list's place. -/
def was (l : List (List UInt8)) (j : Nat) : List UInt8 := if j < l.length ∧ (l.getD j []).length ≤ 64 then wh (l.getD j []) else wh []
theorem lasts {D : Dk} {sb n : Nat} (h : D.calm sb n) (he : D.es = []) (hn : 0 < n) (m : List (List UInt8)) {k : Nat} (hk : k ≤ n) (hm : k ≤ m.length) (keep : Int) {j : Nat} (hj : j < n) :
    ((D.wr m k).off keep).on.get (j : Int) = D.get (j : Int) ∨ (j < m.length ∧ (m.getD j []).length ≤ 64 ∧ ((D.wr m k).off keep).on.get (j : Int) = wh (m.getD j [])) := by
  obtain ⟨h1, h2, h3⟩ := h.wr m k hk
  obtain ⟨_, _, _, _, h4⟩ := h1.off keep
  rcases h4 j with h5 | ⟨v, h5, h6, h7⟩
  · left
    rw [h5, h2]
    unfold Dk.get
    rw [he]
    simp [gk]
  · right
    rw [h3] at h5
    by_cases hc : j < k ∧ (m.getD j []).length ≤ 64
    · rw [if_pos hc] at h5
      exact ⟨by omega, hc.2, by rw [h7]; simpa using h5.symm⟩
    · rw [if_neg hc, he] at h5
      cases h5
theorem Dk.write_sb (D : Dk) (i : Int) (s : List UInt8) : (D.write i s).2.sb = D.sb := by
  have := Dk.act_sb D
  unfold Dk.write
  split
  · split
    · rfl
    · split
      · exact this
      · exact this
  · rfl
theorem Dk.sync_sb (D : Dk) : D.sync.2.sb = D.sb := by
  have := Dk.act_sb D
  unfold Dk.sync
  split
  · split
    · exact this
    · exact this
  · rfl
end Go.Sp
/- The disk: its calls where nothing lets it go. -/
namespace Go.Sp
open Go Go.Proofs
set_option linter.unusedSimpArgs false
set_option linter.unusedVariables false
set_option maxRecDepth 10000
theorem Dk.calm.p {D : Dk} {sb n : Nat} (h : D.calm sb n) : D.p = .pointer (some ⟨sb, 0, none⟩) := by simp only [Dk.p, h.sb]
end Go.Sp
/- What each region of the Go functions does. Written by my own generator. -/
namespace Go.Sp
open Go
set_option maxRecDepth 100000
set_option linter.unusedVariables false
open Go.Proofs
/-! gharry.wal.check -/
noncomputable def c67 : Cfg := { P := Tryz.prog, n := 41, T := TT, body := (Tryz.f67.body).getD .skip, res := Tryz.f67.results.toList, li := lk [] [(0, [0, 1, 2, 3]), (1, [0, 1, 2, 3]), (2, []), (3, [0, 1, 2]), (4, []), (5, [])], lo := lk [] [(0, [0, 1, 2, 3]), (1, [0, 1, 2, 9]), (2, [8]), (3, [28]), (4, [8]), (5, [8]), (1000000, [8])], ord := lk (false, []) [] }
@[go_sem] theorem c67_i0 : c67.li 0 = [0, 1, 2, 3] := rfl
@[go_sem] theorem c67_i1 : c67.li 1 = [0, 1, 2, 3] := rfl
@[go_sem] theorem c67_i2 : c67.li 2 = [] := rfl
@[go_sem] theorem c67_i3 : c67.li 3 = [0, 1, 2] := rfl
@[go_sem] theorem c67_i4 : c67.li 4 = [] := rfl
@[go_sem] theorem c67_i5 : c67.li 5 = [] := rfl
@[go_sem] theorem c67_r0 (d0 : Option Addr) (base1 : Int) (sectors2 : Int) (run3 : Int) (K : Env → W) : RP c67 0 [(0, .pointer d0), (1, .int .i64 base1), (2, .int .i64 sectors2), (3, .int .i64 run3)] K =
    (K [(0, .pointer d0), (1, .int .i64 base1), (2, .int .i64 sectors2), (3, .int .i64 run3)]) := by kernel_rfl
@[go_sem] theorem c67_r1 (d0 : Option Addr) (base1 : Int) (sectors2 : Int) (run3 : Int) (K : Env → W) : RP c67 1 [(0, .pointer d0), (1, .int .i64 base1), (2, .int .i64 sectors2), (3, .int .i64 run3)] K =
    (cnd ((d0).isNone) (K [(0, .pointer d0), (1, .int .i64 base1), (2, .int .i64 sectors2), (9, .bool true)]) (cnd ((decide (base1 < (0 : Int)))) (K [(0, .pointer d0), (1, .int .i64 base1), (2, .int .i64 sectors2), (9, .bool true)]) (cnd ((decide (sectors2 < (1 : Int)))) (K [(0, .pointer d0), (1, .int .i64 base1), (2, .int .i64 sectors2), (9, .bool true)]) (cnd ((decide (run3 < (1 : Int)))) (K [(0, .pointer d0), (1, .int .i64 base1), (2, .int .i64 sectors2), (9, .bool true)]) (K [(0, .pointer d0), (1, .int .i64 base1), (2, .int .i64 sectors2), (9, .bool ((decide ((4294967296 : Int) ≤ run3))))]))))) := by kernel_rfl
@[go_sem] theorem c67_r2 (K : Env → W) : RP c67 2 [] K =
    (K [(8, .int .i64 (1 : Int))]) := by kernel_rfl
@[go_sem] theorem c67_r3 (d0 : Option Addr) (base1 : Int) (sectors2 : Int) (K : Env → W) : RP c67 3 [(0, .pointer d0), (1, .int .i64 base1), (2, .int .i64 sectors2)] K =
    (cal eI Tryz.prog 99 #[.pointer d0] fun (y1_ : Int) => (cnd ((decide (y1_ < base1))) (K [(28, .bool true)]) (cal eI Tryz.prog 99 #[.pointer d0] fun (y2_ : Int) => (K [(28, .bool ((decide ((IntKind.wrap .i64 (y2_ - base1)) < sectors2))))])))) := by kernel_rfl
@[go_sem] theorem c67_r4 (K : Env → W) : RP c67 4 [] K =
    (K [(8, .int .i64 (6 : Int))]) := by kernel_rfl
@[go_sem] theorem c67_r5 (K : Env → W) : RP c67 5 [] K =
    (K [(8, .int .i64 (0 : Int))]) := by kernel_rfl
@[go_sem] theorem c67_o : c67.lo 1000000 = [8] := rfl
@[go_sem] theorem c67_e (t8 : Int) (k : Value → W) : RTp c67 [(8, .int .i64 t8)] k = (k (.int .i64 t8)) := by kernel_rfl
theorem c67_ok : (c67.P.follows .mixedOrders && okc c67 c67.body) = true := by kernel_rfl
theorem c67_fn {e : Enc} {args : Array Value} {G : e.α → W} {L : List HP} {ρ : Env} (hρ : envA 0 args.toList = ρ) (hs : Nat.ble args.size 41 = true) (h : E L (D c67 (.seq (.reg 0) (.seq (.block 0 (.seq (.reg 1) (.cond (.tmp 9) (.seq (.reg 2) (.ret)) (.seq (.reg 3) (.cond (.tmp 28) (.seq (.reg 4) (.ret)) (.skip)))))) (.seq (.reg 5) (.ret)))) (fnQ c67 e G) ρ)) : E L (cal e Tryz.prog 67 args G) :=
  d_fn (c := c67) Tryz.func67 (by kernel_rfl) (by kernel_rfl) (by kernel_rfl) c67_ok (by kernel_rfl) (by kernel_rfl) hρ hs h
/-! (*gharry.wal.Log).scan -/
noncomputable def c68 : Cfg := { P := Tryz.prog, n := 66, T := TT, body := (Tryz.f68.body).getD .skip, res := Tryz.f68.results.toList, li := lk [] [(0, [0]), (1, [0]), (2, [0, 4]), (3, [0, 4, 5]), (4, [0, 4, 5, 15, 16]), (5, [0, 4, 5, 15, 16]), (6, [0, 4, 5, 6, 15, 16]), (7, [0, 4, 5, 7, 8, 15, 16]), (8, [8]), (9, [0, 4, 5, 7, 15, 16]), (10, [0, 4, 5, 9, 15, 16]), (11, [0, 4, 5, 9, 10, 11, 15, 16]), (12, [0, 4, 9, 10, 11, 15, 16]), (13, [0, 4, 5, 9, 11, 15, 16]), (14, [0, 4, 5, 11, 15, 16]), (15, [0, 4, 5, 15, 16]), (16, [4])], lo := lk [] [(0, [0]), (1, [0, 4]), (2, [0, 4, 5]), (3, [0, 4, 5, 15, 16]), (4, [0, 4, 5, 15, 16, 17]), (5, [0, 4, 5, 6, 15, 16]), (6, [0, 4, 5, 7, 8, 15, 16]), (7, [0, 4, 5, 7, 8, 15, 16, 34]), (8, [2, 3]), (9, [0, 4, 5, 9, 15, 16]), (10, [0, 4, 5, 9, 10, 11, 15, 16]), (11, [0, 4, 9, 10, 11, 15, 16, 56]), (12, [0, 4, 5, 9, 11, 15, 16]), (13, [0, 4, 5, 11, 15, 16]), (14, [0, 4, 5, 15, 16, 63]), (15, [0, 4, 5, 15, 16]), (16, [2, 3]), (1000000, [2, 3])], ord := lk (false, []) [(6, (true, [(0, 1), (1, 1), (2, 1), (3, 0), (4, 1), (5, 1), (6, 1), (7, 0), (8, 1), (9, 1), (10, 4), (11, 1), (12, 1), (13, 1), (14, 1), (15, 1)]))] }
@[go_sem] theorem c68_i0 : c68.li 0 = [0] := rfl
@[go_sem] theorem c68_i1 : c68.li 1 = [0] := rfl
@[go_sem] theorem c68_i2 : c68.li 2 = [0, 4] := rfl
@[go_sem] theorem c68_i3 : c68.li 3 = [0, 4, 5] := rfl
@[go_sem] theorem c68_i4 : c68.li 4 = [0, 4, 5, 15, 16] := rfl
@[go_sem] theorem c68_i5 : c68.li 5 = [0, 4, 5, 15, 16] := rfl
@[go_sem] theorem c68_i6 : c68.li 6 = [0, 4, 5, 6, 15, 16] := rfl
@[go_sem] theorem c68_i7 : c68.li 7 = [0, 4, 5, 7, 8, 15, 16] := rfl
@[go_sem] theorem c68_i8 : c68.li 8 = [8] := rfl
@[go_sem] theorem c68_i9 : c68.li 9 = [0, 4, 5, 7, 15, 16] := rfl
@[go_sem] theorem c68_i10 : c68.li 10 = [0, 4, 5, 9, 15, 16] := rfl
@[go_sem] theorem c68_i11 : c68.li 11 = [0, 4, 5, 9, 10, 11, 15, 16] := rfl
@[go_sem] theorem c68_i12 : c68.li 12 = [0, 4, 9, 10, 11, 15, 16] := rfl
@[go_sem] theorem c68_i13 : c68.li 13 = [0, 4, 5, 9, 11, 15, 16] := rfl
@[go_sem] theorem c68_i14 : c68.li 14 = [0, 4, 5, 11, 15, 16] := rfl
@[go_sem] theorem c68_i15 : c68.li 15 = [0, 4, 5, 15, 16] := rfl
@[go_sem] theorem c68_i16 : c68.li 16 = [4] := rfl
@[go_sem] theorem c68_r0 (l0 : Option Addr) (K : Env → W) : RP c68 0 [(0, .pointer l0)] K =
    (K [(0, .pointer l0)]) := by kernel_rfl
@[go_sem] theorem c68_r1 (l0 : Option Addr) (K : Env → W) : RP c68 1 [(0, .pointer l0)] K =
    (nwc #[.pointer none, .slice none 0 0] 144 fun y1_ => (K [(0, .pointer l0), (4, .pointer (some y1_))])) := by kernel_rfl
@[go_sem] theorem c68_r2 (l0 : Option Addr) (b4 : Addr) (K : Env → W) : RP c68 2 [(0, .pointer l0), (4, .pointer (some b4))] K =
    (K [(0, .pointer l0), (4, .pointer (some b4)), (5, .int .i64 (1 : Int))]) := by kernel_rfl
@[go_sem] theorem c68_r3 (l0 : Option Addr) (b4 : Addr) (run5 : Int) (K : Env → W) : RP c68 3 [(0, .pointer l0), (4, .pointer (some b4)), (5, .int .i64 run5)] K =
    (nn l0 fun y1_ => (ld eI ((y1_.add 2)) fun (y2_ : Int) => (K [(0, .pointer l0), (4, .pointer (some b4)), (5, .int .i64 run5), (15, .int .i64 y2_), (16, .int .i64 (0 : Int))]))) := by kernel_rfl
@[go_sem] theorem c68_r4 (l0 : Option Addr) (b4 : Addr) (run5 : Int) (t15 : Int) (t16 : Int) (K : Env → W) : RP c68 4 [(0, .pointer l0), (4, .pointer (some b4)), (5, .int .i64 run5), (15, .int .i64 t15), (16, .int .i64 t16)] K =
    (K [(0, .pointer l0), (4, .pointer (some b4)), (5, .int .i64 run5), (15, .int .i64 t15), (16, .int .i64 t16), (17, .bool ((decide (t16 < t15))))]) := by kernel_rfl
@[go_sem] theorem c68_r5 (l0 : Option Addr) (b4 : Addr) (run5 : Int) (t15 : Int) (t16 : Int) (K : Env → W) : RP c68 5 [(0, .pointer l0), (4, .pointer (some b4)), (5, .int .i64 run5), (15, .int .i64 t15), (16, .int .i64 t16)] K =
    (K [(0, .pointer l0), (4, .pointer (some b4)), (5, .int .i64 run5), (6, .int .i64 t16), (15, .int .i64 t15), (16, .int .i64 t16)]) := by kernel_rfl
@[go_sem] theorem c68_r6 (l0 : Option Addr) (b4 : Addr) (run5 : Int) (i6 : Int) (t15 : Int) (t16 : Int) (K : Env → W) : RP c68 6 [(0, .pointer l0), (4, .pointer (some b4)), (5, .int .i64 run5), (6, .int .i64 i6), (15, .int .i64 t15), (16, .int .i64 t16)] K =
    (ph fun S0 => (nn l0 fun y1_ => (ldq S0 eP y1_ fun (y2_ : Option Addr) => (nn l0 fun y3_ => (ldq S0 eI ((y3_.add 1)) fun (y4_ : Int) => (cal (eT2 eS eI) Tryz.prog 22 #[.pointer y2_, .int .i64 ((IntKind.wrap .i64 (y4_ + i6)))] fun (y5_ : ((List UInt8) × Int)) => (K [(0, .pointer l0), (4, .pointer (some b4)), (5, .int .i64 run5), (7, str y5_.1), (8, .int .i64 y5_.2), (15, .int .i64 t15), (16, .int .i64 t16)]))))))) := by kernel_rfl
@[go_sem] theorem c68_r7 (l0 : Option Addr) (b4 : Addr) (run5 : Int) (s7 : List UInt8) (e8 : Int) (t15 : Int) (t16 : Int) (K : Env → W) : RP c68 7 [(0, .pointer l0), (4, .pointer (some b4)), (5, .int .i64 run5), (7, str s7), (8, .int .i64 e8), (15, .int .i64 t15), (16, .int .i64 t16)] K =
    (K [(0, .pointer l0), (4, .pointer (some b4)), (5, .int .i64 run5), (7, str s7), (8, .int .i64 e8), (15, .int .i64 t15), (16, .int .i64 t16), (34, .bool ((e8 != (0 : Int))))]) := by kernel_rfl
@[go_sem] theorem c68_r8 (e8 : Int) (K : Env → W) : RP c68 8 [(8, .int .i64 e8)] K =
    (K [(2, str (([] : List UInt8))), (3, .int .i64 e8)]) := by kernel_rfl
@[go_sem] theorem c68_r9 (l0 : Option Addr) (b4 : Addr) (run5 : Int) (s7 : List UInt8) (t15 : Int) (t16 : Int) (K : Env → W) : RP c68 9 [(0, .pointer l0), (4, .pointer (some b4)), (5, .int .i64 run5), (7, str s7), (15, .int .i64 t15), (16, .int .i64 t16)] K =
    (cal eP Tryz.prog 84 #[str s7] fun (y1_ : Option Addr) => (K [(0, .pointer l0), (4, .pointer (some b4)), (5, .int .i64 run5), (9, .pointer y1_), (15, .int .i64 t15), (16, .int .i64 t16)])) := by kernel_rfl
@[go_sem] theorem c68_r10 (l0 : Option Addr) (b4 : Addr) (run5 : Int) (r9 : Option Addr) (t15 : Int) (t16 : Int) (K : Env → W) : RP c68 10 [(0, .pointer l0), (4, .pointer (some b4)), (5, .int .i64 run5), (9, .pointer r9), (15, .int .i64 t15), (16, .int .i64 t16)] K =
    (cal eI Tryz.prog 85 #[.pointer r9, .int .i64 (4 : Int)] fun (y1_ : Int) => (cal eI Tryz.prog 85 #[.pointer r9, .int .i64 (2 : Int)] fun (y2_ : Int) => (K [(0, .pointer l0), (4, .pointer (some b4)), (5, .int .i64 run5), (9, .pointer r9), (10, .int .i64 y1_), (11, .int .i64 y2_), (15, .int .i64 t15), (16, .int .i64 t16)]))) := by kernel_rfl
@[go_sem] theorem c68_r11 (l0 : Option Addr) (b4 : Addr) (run5 : Int) (r9 : Option Addr) (at10 : Int) (n11 : Int) (t15 : Int) (t16 : Int) (K : Env → W) : RP c68 11 [(0, .pointer l0), (4, .pointer (some b4)), (5, .int .i64 run5), (9, .pointer r9), (10, .int .i64 at10), (11, .int .i64 n11), (15, .int .i64 t15), (16, .int .i64 t16)] K =
    (cnd ((decide (at10 < run5))) (K [(0, .pointer l0), (4, .pointer (some b4)), (9, .pointer r9), (10, .int .i64 at10), (11, .int .i64 n11), (15, .int .i64 t15), (16, .int .i64 t16), (56, .bool true)]) (nn l0 fun y1_ => (ld eI ((y1_.add 3)) fun (y2_ : Int) => (cnd ((decide (y2_ < at10))) (K [(0, .pointer l0), (4, .pointer (some b4)), (9, .pointer r9), (10, .int .i64 at10), (11, .int .i64 n11), (15, .int .i64 t15), (16, .int .i64 t16), (56, .bool true)]) (K [(0, .pointer l0), (4, .pointer (some b4)), (9, .pointer r9), (10, .int .i64 at10), (11, .int .i64 n11), (15, .int .i64 t15), (16, .int .i64 t16), (56, .bool ((decide ((58 : Int) < n11))))]))))) := by kernel_rfl
@[go_sem] theorem c68_r12 (l0 : Option Addr) (b4 : Addr) (r9 : Option Addr) (at10 : Int) (n11 : Int) (t15 : Int) (t16 : Int) (K : Env → W) : RP c68 12 [(0, .pointer l0), (4, .pointer (some b4)), (9, .pointer r9), (10, .int .i64 at10), (11, .int .i64 n11), (15, .int .i64 t15), (16, .int .i64 t16)] K =
    (K [(0, .pointer l0), (4, .pointer (some b4)), (5, .int .i64 at10), (9, .pointer r9), (11, .int .i64 n11), (15, .int .i64 t15), (16, .int .i64 t16)]) := by kernel_rfl
@[go_sem] theorem c68_r13 (l0 : Option Addr) (b4 : Addr) (run5 : Int) (r9 : Option Addr) (n11 : Int) (t15 : Int) (t16 : Int) (K : Env → W) : RP c68 13 [(0, .pointer l0), (4, .pointer (some b4)), (5, .int .i64 run5), (9, .pointer r9), (11, .int .i64 n11), (15, .int .i64 t15), (16, .int .i64 t16)] K =
    (cal eS Tryz.prog 101 #[.pointer r9, .int .i64 n11] fun (y1_ : List UInt8) => (cal (eT2 eI eV) Tryz.prog 100 #[.pointer (some b4), str y1_] fun (y2_ : (Int × Value)) => (K [(0, .pointer l0), (4, .pointer (some b4)), (5, .int .i64 run5), (11, .int .i64 n11), (15, .int .i64 t15), (16, .int .i64 t16)]))) := by kernel_rfl
@[go_sem] theorem c68_r14 (l0 : Option Addr) (b4 : Addr) (run5 : Int) (n11 : Int) (t15 : Int) (t16 : Int) (K : Env → W) : RP c68 14 [(0, .pointer l0), (4, .pointer (some b4)), (5, .int .i64 run5), (11, .int .i64 n11), (15, .int .i64 t15), (16, .int .i64 t16)] K =
    (K [(0, .pointer l0), (4, .pointer (some b4)), (5, .int .i64 run5), (15, .int .i64 t15), (16, .int .i64 t16), (63, .bool ((decide (n11 < (58 : Int)))))]) := by kernel_rfl
@[go_sem] theorem c68_r15 (l0 : Option Addr) (b4 : Addr) (run5 : Int) (t15 : Int) (t16 : Int) (K : Env → W) : RP c68 15 [(0, .pointer l0), (4, .pointer (some b4)), (5, .int .i64 run5), (15, .int .i64 t15), (16, .int .i64 t16)] K =
    (K [(0, .pointer l0), (4, .pointer (some b4)), (5, .int .i64 run5), (15, .int .i64 t15), (16, .int .i64 ((IntKind.wrap .i64 (t16 + (1 : Int)))))]) := by kernel_rfl
@[go_sem] theorem c68_r16 (b4 : Addr) (K : Env → W) : RP c68 16 [(4, .pointer (some b4))] K =
    (cal eS Tryz.prog 102 #[.pointer (some b4)] fun (y1_ : List UInt8) => (K [(2, str y1_), (3, .int .i64 (0 : Int))])) := by kernel_rfl
@[go_sem] theorem c68_o : c68.lo 1000000 = [2, 3] := rfl
@[go_sem] theorem c68_e (t2 : List UInt8) (t3 : Int) (k : Value → W) : RTp c68 [(2, str t2), (3, .int .i64 t3)] k = (k (.tuple #[str t2, .int .i64 t3])) := by kernel_rfl
theorem c68_ok : (c68.P.follows .mixedOrders && okc c68 c68.body) = true := by kernel_rfl
theorem c68_fn {e : Enc} {args : Array Value} {G : e.α → W} {L : List HP} {ρ : Env} (hρ : envA 0 args.toList = ρ) (hs : Nat.ble args.size 66 = true) (h : E L (D c68 (.seq (.reg 0) (.seq (.reg 1) (.seq (.reg 2) (.seq (.seq (.reg 3) (.block 0 (.loop (.seq (.reg 4) (.seq (.cond (.tmp 17) (.skip) (.exit 0)) (.seq (.block 1 (.seq (.reg 5) (.seq (.reg 6) (.seq (.seq (.reg 7) (.cond (.tmp 34) (.seq (.reg 8) (.ret)) (.skip))) (.seq (.reg 9) (.seq (.reg 10) (.seq (.seq (.reg 11) (.cond (.tmp 56) (.exit 0) (.skip))) (.seq (.reg 12) (.seq (.reg 13) (.seq (.reg 14) (.cond (.tmp 63) (.exit 0) (.skip)))))))))))) (.reg 15))))))) (.seq (.reg 16) (.ret)))))) (fnQ c68 e G) ρ)) : E L (cal e Tryz.prog 68 args G) :=
  d_fn (c := c68) Tryz.func68 (by kernel_rfl) (by kernel_rfl) (by kernel_rfl) c68_ok (by kernel_rfl) (by kernel_rfl) hρ hs h
-- loop (first region 4): live slots 0:l0 4:b4 5:run5 15:t15 16:t16, of which it writes [5, 16]
/-! gharry.wal.whole -/
noncomputable def c69 : Cfg := { P := Tryz.prog, n := 20, T := TT, body := (Tryz.f69.body).getD .skip, res := Tryz.f69.results.toList, li := lk [] [(0, [0]), (1, [0]), (2, [0, 3]), (3, [0, 3, 5, 6]), (4, [3]), (5, [0, 3, 5])], lo := lk [] [(0, [0]), (1, [0, 3]), (2, [0, 3, 5, 6]), (3, [0, 3, 5, 15]), (4, [2]), (5, [0, 3]), (1000000, [2])], ord := lk (false, []) [] }
@[go_sem] theorem c69_i0 : c69.li 0 = [0] := rfl
@[go_sem] theorem c69_i1 : c69.li 1 = [0] := rfl
@[go_sem] theorem c69_i2 : c69.li 2 = [0, 3] := rfl
@[go_sem] theorem c69_i3 : c69.li 3 = [0, 3, 5, 6] := rfl
@[go_sem] theorem c69_i4 : c69.li 4 = [3] := rfl
@[go_sem] theorem c69_i5 : c69.li 5 = [0, 3, 5] := rfl
@[go_sem] theorem c69_r0 (s0 : List UInt8) (K : Env → W) : RP c69 0 [(0, str s0)] K =
    (K [(0, str s0)]) := by kernel_rfl
@[go_sem] theorem c69_r1 (s0 : List UInt8) (K : Env → W) : RP c69 1 [(0, str s0)] K =
    (K [(0, str s0), (3, .int .i64 (0 : Int))]) := by kernel_rfl
@[go_sem] theorem c69_r2 (s0 : List UInt8) (at3 : Int) (K : Env → W) : RP c69 2 [(0, str s0), (3, .int .i64 at3)] K =
    (cal (eT3 e_api_Rec eI eI) Tryz.prog 26 #[str s0, .int .i64 at3] fun (y1_ : (api_Rec × Int × Int)) => (nwc #[.int .i64 (0 : Int), .int .i64 (0 : Int), .int .i64 (0 : Int), .int .i64 (0 : Int), .int .i64 (0 : Int), str (([] : List UInt8)), str (([] : List UInt8)), str (([] : List UInt8)), .int .i64 (0 : Int), .slice none 0 0, .slice none 0 0, .int .i64 (0 : Int), .int .i64 (0 : Int)] 36 fun y2_ => (stl [.int .i64 y1_.1.Kind, .int .i64 y1_.1.Txn, .int .i64 y1_.1.Prev, .int .i64 y1_.1.Page, .int .i64 y1_.1.Act, str y1_.1.Key, str y1_.1.Old, str y1_.1.New, .int .i64 y1_.1.Next, .slice y1_.1.Images.1 y1_.1.Images.2.1 y1_.1.Images.2.2, .slice y1_.1.Table.1 y1_.1.Table.2.1 y1_.1.Table.2.2, .int .i64 y1_.1.Epoch, .int .i64 y1_.1.Node] y2_ 0 (K [(0, str s0), (3, .int .i64 at3), (5, .int .i64 y1_.2.1), (6, .int .i64 y1_.2.2)])))) := by kernel_rfl
@[go_sem] theorem c69_r3 (s0 : List UInt8) (at3 : Int) (n5 : Int) (e6 : Int) (K : Env → W) : RP c69 3 [(0, str s0), (3, .int .i64 at3), (5, .int .i64 n5), (6, .int .i64 e6)] K =
    (K [(0, str s0), (3, .int .i64 at3), (5, .int .i64 n5), (15, .bool ((e6 != (0 : Int))))]) := by kernel_rfl
@[go_sem] theorem c69_r4 (at3 : Int) (K : Env → W) : RP c69 4 [(3, .int .i64 at3)] K =
    (K [(2, .int .i64 at3)]) := by kernel_rfl
@[go_sem] theorem c69_r5 (s0 : List UInt8) (at3 : Int) (n5 : Int) (K : Env → W) : RP c69 5 [(0, str s0), (3, .int .i64 at3), (5, .int .i64 n5)] K =
    (K [(0, str s0), (3, .int .i64 ((IntKind.wrap .i64 (at3 + n5))))]) := by kernel_rfl
@[go_sem] theorem c69_o : c69.lo 1000000 = [2] := rfl
@[go_sem] theorem c69_e (t2 : Int) (k : Value → W) : RTp c69 [(2, .int .i64 t2)] k = (k (.int .i64 t2)) := by kernel_rfl
theorem c69_ok : (c69.P.follows .mixedOrders && okc c69 c69.body) = true := by kernel_rfl
theorem c69_fn {e : Enc} {args : Array Value} {G : e.α → W} {L : List HP} {ρ : Env} (hρ : envA 0 args.toList = ρ) (hs : Nat.ble args.size 20 = true) (h : E L (D c69 (.seq (.reg 0) (.seq (.reg 1) (.block 0 (.loop (.block 1 (.seq (.reg 2) (.seq (.seq (.reg 3) (.cond (.tmp 15) (.seq (.reg 4) (.ret)) (.skip))) (.reg 5)))))))) (fnQ c69 e G) ρ)) : E L (cal e Tryz.prog 69 args G) :=
  d_fn (c := c69) Tryz.func69 (by kernel_rfl) (by kernel_rfl) (by kernel_rfl) c69_ok (by kernel_rfl) (by kernel_rfl) hρ hs h
-- loop (first region 2): live slots 0:s0 3:at3, of which it writes [3]
/-! (*gharry.wal.Log).mend -/
noncomputable def c70 : Cfg := { P := Tryz.prog, n := 23, T := TT, body := (Tryz.f70.body).getD .skip, res := Tryz.f70.results.toList, li := lk [] [(0, [0]), (1, [0]), (2, [0, 3]), (3, [0, 3]), (4, [0])], lo := lk [] [(0, [0]), (1, [0, 3]), (2, [0, 3, 12]), (3, [2]), (4, [2]), (1000000, [2])], ord := lk (false, []) [] }
@[go_sem] theorem c70_i0 : c70.li 0 = [0] := rfl
@[go_sem] theorem c70_i1 : c70.li 1 = [0] := rfl
@[go_sem] theorem c70_i2 : c70.li 2 = [0, 3] := rfl
@[go_sem] theorem c70_i3 : c70.li 3 = [0, 3] := rfl
@[go_sem] theorem c70_i4 : c70.li 4 = [0] := rfl
@[go_sem] theorem c70_r0 (l0 : Option Addr) (K : Env → W) : RP c70 0 [(0, .pointer l0)] K =
    (K [(0, .pointer l0)]) := by kernel_rfl
@[go_sem] theorem c70_r1 (l0 : Option Addr) (K : Env → W) : RP c70 1 [(0, .pointer l0)] K =
    (nn l0 fun y1_ => (ld eI ((y1_.add 5)) fun (y2_ : Int) => (rq ((58 : Int) ≠ 0) (cal eI Tryz.prog 77 #[.pointer l0, .int .i64 ((IntKind.wrap .i64 ((y2_).tdiv (58 : Int))))] fun (y3_ : Int) => (K [(0, .pointer l0), (3, .int .i64 y3_)]))))) := by kernel_rfl
@[go_sem] theorem c70_r2 (l0 : Option Addr) (e3 : Int) (K : Env → W) : RP c70 2 [(0, .pointer l0), (3, .int .i64 e3)] K =
    (K [(0, .pointer l0), (3, .int .i64 e3), (12, .bool ((e3 != (0 : Int))))]) := by kernel_rfl
@[go_sem] theorem c70_r3 (l0 : Option Addr) (e3 : Int) (K : Env → W) : RP c70 3 [(0, .pointer l0), (3, .int .i64 e3)] K =
    (cal eI Tryz.prog 78 #[.pointer l0, .int .i64 e3] fun (y1_ : Int) => (K [(2, .int .i64 y1_)])) := by kernel_rfl
@[go_sem] theorem c70_r4 (l0 : Option Addr) (K : Env → W) : RP c70 4 [(0, .pointer l0)] K =
    (nn l0 fun y1_ => (ld eP y1_ fun (y2_ : Option Addr) => (cal eI Tryz.prog 79 #[.pointer y2_] fun (y3_ : Int) => (cal eI Tryz.prog 78 #[.pointer l0, .int .i64 y3_] fun (y4_ : Int) => (K [(2, .int .i64 y4_)]))))) := by kernel_rfl
@[go_sem] theorem c70_o : c70.lo 1000000 = [2] := rfl
@[go_sem] theorem c70_e (t2 : Int) (k : Value → W) : RTp c70 [(2, .int .i64 t2)] k = (k (.int .i64 t2)) := by kernel_rfl
theorem c70_ok : (c70.P.follows .mixedOrders && okc c70 c70.body) = true := by kernel_rfl
theorem c70_fn {e : Enc} {args : Array Value} {G : e.α → W} {L : List HP} {ρ : Env} (hρ : envA 0 args.toList = ρ) (hs : Nat.ble args.size 23 = true) (h : E L (D c70 (.seq (.reg 0) (.seq (.seq (.reg 1) (.seq (.reg 2) (.cond (.tmp 12) (.seq (.reg 3) (.ret)) (.skip)))) (.seq (.reg 4) (.ret)))) (fnQ c70 e G) ρ)) : E L (cal e Tryz.prog 70 args G) :=
  d_fn (c := c70) Tryz.func70 (by kernel_rfl) (by kernel_rfl) (by kernel_rfl) c70_ok (by kernel_rfl) (by kernel_rfl) hρ hs h
/-! (*gharry.wal.Log).off -/
noncomputable def c75 : Cfg := { P := Tryz.prog, n := 11, T := TT, body := (Tryz.f75.body).getD .skip, res := Tryz.f75.results.toList, li := lk [] [(0, [0]), (1, [0]), (2, []), (3, [0]), (4, []), (5, [])], lo := lk [] [(0, [0]), (1, [0, 3]), (2, [2]), (3, [6]), (4, [2]), (5, [2]), (1000000, [2])], ord := lk (false, []) [] }
@[go_sem] theorem c75_i0 : c75.li 0 = [0] := rfl
@[go_sem] theorem c75_i1 : c75.li 1 = [0] := rfl
@[go_sem] theorem c75_i2 : c75.li 2 = [] := rfl
@[go_sem] theorem c75_i3 : c75.li 3 = [0] := rfl
@[go_sem] theorem c75_i4 : c75.li 4 = [] := rfl
@[go_sem] theorem c75_i5 : c75.li 5 = [] := rfl
@[go_sem] theorem c75_r0 (l0 : Option Addr) (K : Env → W) : RP c75 0 [(0, .pointer l0)] K =
    (K [(0, .pointer l0)]) := by kernel_rfl
@[go_sem] theorem c75_r1 (l0 : Option Addr) (K : Env → W) : RP c75 1 [(0, .pointer l0)] K =
    (cal eB Tryz.prog 83 #[.pointer l0] fun (y1_ : Bool) => (K [(0, .pointer l0), (3, .bool y1_)])) := by kernel_rfl
@[go_sem] theorem c75_r2 (K : Env → W) : RP c75 2 [] K =
    (K [(2, .int .i64 (11 : Int))]) := by kernel_rfl
@[go_sem] theorem c75_r3 (l0 : Option Addr) (K : Env → W) : RP c75 3 [(0, .pointer l0)] K =
    (nn l0 fun y1_ => (ld eB ((y1_.add 6)) fun (y2_ : Bool) => (K [(6, .bool y2_)]))) := by kernel_rfl
@[go_sem] theorem c75_r4 (K : Env → W) : RP c75 4 [] K =
    (K [(2, .int .i64 (9 : Int))]) := by kernel_rfl
@[go_sem] theorem c75_r5 (K : Env → W) : RP c75 5 [] K =
    (K [(2, .int .i64 (0 : Int))]) := by kernel_rfl
@[go_sem] theorem c75_o : c75.lo 1000000 = [2] := rfl
@[go_sem] theorem c75_e (t2 : Int) (k : Value → W) : RTp c75 [(2, .int .i64 t2)] k = (k (.int .i64 t2)) := by kernel_rfl
theorem c75_ok : (c75.P.follows .mixedOrders && okc c75 c75.body) = true := by kernel_rfl
theorem c75_fn {e : Enc} {args : Array Value} {G : e.α → W} {L : List HP} {ρ : Env} (hρ : envA 0 args.toList = ρ) (hs : Nat.ble args.size 11 = true) (h : E L (D c75 (.seq (.reg 0) (.seq (.block 0 (.seq (.reg 1) (.cond (.tmp 3) (.seq (.reg 2) (.ret)) (.seq (.reg 3) (.cond (.tmp 6) (.seq (.reg 4) (.ret)) (.skip)))))) (.seq (.reg 5) (.ret)))) (fnQ c75 e G) ρ)) : E L (cal e Tryz.prog 75 args G) :=
  d_fn (c := c75) Tryz.func75 (by kernel_rfl) (by kernel_rfl) (by kernel_rfl) c75_ok (by kernel_rfl) (by kernel_rfl) hρ hs h
/-! (*gharry.wal.Log).add -/
noncomputable def c76 : Cfg := { P := Tryz.prog, n := 23, T := TT, body := (Tryz.f76.body).getD .skip, res := Tryz.f76.results.toList, li := lk [] [(0, [0, 1]), (1, [0, 1]), (2, []), (3, [0, 1]), (4, [0, 1, 6]), (5, [6])], lo := lk [] [(0, [0, 1]), (1, [0, 1, 11]), (2, [4, 5]), (3, [0, 1, 6]), (4, [6]), (5, [4, 5]), (1000000, [4, 5])], ord := lk (false, []) [] }
@[go_sem] theorem c76_i0 : c76.li 0 = [0, 1] := rfl
@[go_sem] theorem c76_i1 : c76.li 1 = [0, 1] := rfl
@[go_sem] theorem c76_i2 : c76.li 2 = [] := rfl
@[go_sem] theorem c76_i3 : c76.li 3 = [0, 1] := rfl
@[go_sem] theorem c76_i4 : c76.li 4 = [0, 1, 6] := rfl
@[go_sem] theorem c76_i5 : c76.li 5 = [6] := rfl
@[go_sem] theorem c76_r0 (l0 : Option Addr) (s1 : List UInt8) (K : Env → W) : RP c76 0 [(0, .pointer l0), (1, str s1)] K =
    (K [(0, .pointer l0), (1, str s1)]) := by kernel_rfl
@[go_sem] theorem c76_r1 (l0 : Option Addr) (s1 : List UInt8) (K : Env → W) : RP c76 1 [(0, .pointer l0), (1, str s1)] K =
    (cal eI Tryz.prog 30 #[.pointer l0] fun (y1_ : Int) => (K [(0, .pointer l0), (1, str s1), (11, .bool ((decide (y1_ < ((s1).length : Int)))))])) := by kernel_rfl
@[go_sem] theorem c76_r2 (K : Env → W) : RP c76 2 [] K =
    (K [(4, .int .i64 (0 : Int)), (5, .int .i64 (7 : Int))]) := by kernel_rfl
@[go_sem] theorem c76_r3 (l0 : Option Addr) (s1 : List UInt8) (K : Env → W) : RP c76 3 [(0, .pointer l0), (1, str s1)] K =
    (cal eI Tryz.prog 28 #[.pointer l0] fun (y1_ : Int) => (K [(0, .pointer l0), (1, str s1), (6, .int .i64 y1_)])) := by kernel_rfl
@[go_sem] theorem c76_r4 (l0 : Option Addr) (s1 : List UInt8) (at6 : Int) (K : Env → W) : RP c76 4 [(0, .pointer l0), (1, str s1), (6, .int .i64 at6)] K =
    (nn l0 fun y1_ => (ld eS ((y1_.add 4)) fun (y2_ : List UInt8) => (rq (((y2_).length : Int) + ((s1).length : Int) ≤ 9223372036854775807) (nn l0 fun y3_ => (st ((y3_.add 4)) (str ((y2_ ++ s1))) (K [(6, .int .i64 at6)])))))) := by kernel_rfl
@[go_sem] theorem c76_r5 (at6 : Int) (K : Env → W) : RP c76 5 [(6, .int .i64 at6)] K =
    (K [(4, .int .i64 at6), (5, .int .i64 (0 : Int))]) := by kernel_rfl
@[go_sem] theorem c76_o : c76.lo 1000000 = [4, 5] := rfl
@[go_sem] theorem c76_e (t4 : Int) (t5 : Int) (k : Value → W) : RTp c76 [(4, .int .i64 t4), (5, .int .i64 t5)] k = (k (.tuple #[.int .i64 t4, .int .i64 t5])) := by kernel_rfl
theorem c76_ok : (c76.P.follows .mixedOrders && okc c76 c76.body) = true := by kernel_rfl
theorem c76_fn {e : Enc} {args : Array Value} {G : e.α → W} {L : List HP} {ρ : Env} (hρ : envA 0 args.toList = ρ) (hs : Nat.ble args.size 23 = true) (h : E L (D c76 (.seq (.reg 0) (.seq (.seq (.reg 1) (.cond (.tmp 11) (.seq (.reg 2) (.ret)) (.skip))) (.seq (.reg 3) (.seq (.reg 4) (.seq (.reg 5) (.ret)))))) (fnQ c76 e G) ρ)) : E L (cal e Tryz.prog 76 args G) :=
  d_fn (c := c76) Tryz.func76 (by kernel_rfl) (by kernel_rfl) (by kernel_rfl) c76_ok (by kernel_rfl) (by kernel_rfl) hρ hs h
/-! (*gharry.wal.Log).write -/
noncomputable def c77 : Cfg := { P := Tryz.prog, n := 68, T := TT, body := (Tryz.f77.body).getD .skip, res := Tryz.f77.results.toList, li := lk [] [(0, [0, 1]), (1, [0, 1]), (2, []), (3, [0, 1]), (4, [0, 1, 5]), (5, [0, 1, 5, 6]), (6, [0, 1, 5, 6]), (7, [0, 1, 5, 6]), (8, [0, 1, 5, 7])], lo := lk [] [(0, [0, 1]), (1, [0, 1, 14]), (2, [4]), (3, [0, 1, 5]), (4, [0, 1, 5, 6]), (5, [0, 1, 5, 6]), (6, [0, 1, 5, 6]), (7, [0, 1, 5, 7]), (8, [4]), (1000000, [4])], ord := lk (false, []) [(3, (true, [(0, 1), (1, 1), (2, 1), (3, 0), (4, 1), (5, 1), (6, 1), (7, 1), (8, 1), (9, 0), (10, 1), (11, 1), (12, 1), (13, 1), (14, 1), (15, 1), (16, 1), (17, 1), (18, 0), (19, 1), (20, 1), (21, 1), (22, 1)])), (8, (true, [(0, 1), (1, 1), (2, 1), (3, 0), (4, 1), (5, 1), (6, 1), (7, 0), (8, 1), (9, 1), (10, 1), (11, 1), (12, 1), (13, 4), (14, 1)]))] }
@[go_sem] theorem c77_i0 : c77.li 0 = [0, 1] := rfl
@[go_sem] theorem c77_i1 : c77.li 1 = [0, 1] := rfl
@[go_sem] theorem c77_i2 : c77.li 2 = [] := rfl
@[go_sem] theorem c77_i3 : c77.li 3 = [0, 1] := rfl
@[go_sem] theorem c77_i4 : c77.li 4 = [0, 1, 5] := rfl
@[go_sem] theorem c77_i5 : c77.li 5 = [0, 1, 5, 6] := rfl
@[go_sem] theorem c77_i6 : c77.li 6 = [0, 1, 5, 6] := rfl
@[go_sem] theorem c77_i7 : c77.li 7 = [0, 1, 5, 6] := rfl
@[go_sem] theorem c77_i8 : c77.li 8 = [0, 1, 5, 7] := rfl
@[go_sem] theorem c77_r0 (l0 : Option Addr) (i1 : Int) (K : Env → W) : RP c77 0 [(0, .pointer l0), (1, .int .i64 i1)] K =
    (K [(0, .pointer l0), (1, .int .i64 i1)]) := by kernel_rfl
@[go_sem] theorem c77_r1 (l0 : Option Addr) (i1 : Int) (K : Env → W) : RP c77 1 [(0, .pointer l0), (1, .int .i64 i1)] K =
    (nn l0 fun y1_ => (ld eI ((y1_.add 2)) fun (y2_ : Int) => (K [(0, .pointer l0), (1, .int .i64 i1), (14, .bool ((decide (y2_ ≤ i1))))]))) := by kernel_rfl
@[go_sem] theorem c77_r2 (K : Env → W) : RP c77 2 [] K =
    (K [(4, .int .i64 (0 : Int))]) := by kernel_rfl
@[go_sem] theorem c77_r3 (l0 : Option Addr) (i1 : Int) (K : Env → W) : RP c77 3 [(0, .pointer l0), (1, .int .i64 i1)] K =
    (ph fun S0 => (nn l0 fun y1_ => (ldq S0 eS ((y1_.add 4)) fun (y2_ : List UInt8) => (nn l0 fun y3_ => (ldq S0 eS ((y3_.add 4)) fun (y4_ : List UInt8) => (nn l0 fun y5_ => (ldq S0 eS ((y5_.add 4)) fun (y6_ : List UInt8) => (rq (0 ≤ ((if ((y4_).length : Int) < (IntKind.wrap .i64 (i1 * (58 : Int))) then ((y4_).length : Int) else (IntKind.wrap .i64 (i1 * (58 : Int)))) : Int) ∧ (if ((y4_).length : Int) < (IntKind.wrap .i64 (i1 * (58 : Int))) then ((y4_).length : Int) else (IntKind.wrap .i64 (i1 * (58 : Int)))) ≤ (if ((y6_).length : Int) < (IntKind.wrap .i64 ((IntKind.wrap .i64 (i1 + (1 : Int))) * (58 : Int))) then ((y6_).length : Int) else (IntKind.wrap .i64 ((IntKind.wrap .i64 (i1 + (1 : Int))) * (58 : Int)))) ∧ (if ((y6_).length : Int) < (IntKind.wrap .i64 ((IntKind.wrap .i64 (i1 + (1 : Int))) * (58 : Int))) then ((y6_).length : Int) else (IntKind.wrap .i64 ((IntKind.wrap .i64 (i1 + (1 : Int))) * (58 : Int)))) ≤ ((y2_).length : Int)) (K [(0, .pointer l0), (1, .int .i64 i1), (5, str ((ss y2_ ((if ((y4_).length : Int) < (IntKind.wrap .i64 (i1 * (58 : Int))) then ((y4_).length : Int) else (IntKind.wrap .i64 (i1 * (58 : Int))))) ((if ((y6_).length : Int) < (IntKind.wrap .i64 ((IntKind.wrap .i64 (i1 + (1 : Int))) * (58 : Int))) then ((y6_).length : Int) else (IntKind.wrap .i64 ((IntKind.wrap .i64 (i1 + (1 : Int))) * (58 : Int))))))))]))))))))) := by kernel_rfl
@[go_sem] theorem c77_r4 (l0 : Option Addr) (i1 : Int) (part5 : List UInt8) (K : Env → W) : RP c77 4 [(0, .pointer l0), (1, .int .i64 i1), (5, str part5)] K =
    (nwc #[str (([] : List UInt8)), .int .i64 (0 : Int)] 153 fun y1_ => (K [(0, .pointer l0), (1, .int .i64 i1), (5, str part5), (6, .pointer (some y1_))])) := by kernel_rfl
@[go_sem] theorem c77_r5 (l0 : Option Addr) (i1 : Int) (part5 : List UInt8) (w6 : Addr) (K : Env → W) : RP c77 5 [(0, .pointer l0), (1, .int .i64 i1), (5, str part5), (6, .pointer (some w6))] K =
    (nn l0 fun y1_ => (ld eI ((y1_.add 3)) fun (y2_ : Int) => (cal eN Tryz.prog 103 #[.pointer (some w6), .int .i64 y2_, .int .i64 (4 : Int)] fun (y3_ : Unit) => (K [(0, .pointer l0), (1, .int .i64 i1), (5, str part5), (6, .pointer (some w6))])))) := by kernel_rfl
@[go_sem] theorem c77_r6 (l0 : Option Addr) (i1 : Int) (part5 : List UInt8) (w6 : Addr) (K : Env → W) : RP c77 6 [(0, .pointer l0), (1, .int .i64 i1), (5, str part5), (6, .pointer (some w6))] K =
    (cal eN Tryz.prog 103 #[.pointer (some w6), .int .i64 (((part5).length : Int)), .int .i64 (2 : Int)] fun (y1_ : Unit) => (K [(0, .pointer l0), (1, .int .i64 i1), (5, str part5), (6, .pointer (some w6))])) := by kernel_rfl
@[go_sem] theorem c77_r7 (l0 : Option Addr) (i1 : Int) (part5 : List UInt8) (w6 : Addr) (K : Env → W) : RP c77 7 [(0, .pointer l0), (1, .int .i64 i1), (5, str part5), (6, .pointer (some w6))] K =
    (cal (eT2 eS eI) Tryz.prog 108 #[.pointer (some w6)] fun (y1_ : ((List UInt8) × Int)) => (K [(0, .pointer l0), (1, .int .i64 i1), (5, str part5), (7, str y1_.1)])) := by kernel_rfl
@[go_sem] theorem c77_r8 (l0 : Option Addr) (i1 : Int) (part5 : List UInt8) (s7 : List UInt8) (K : Env → W) : RP c77 8 [(0, .pointer l0), (1, .int .i64 i1), (5, str part5), (7, str s7)] K =
    (ph fun S0 => (nn l0 fun y1_ => (ldq S0 eP y1_ fun (y2_ : Option Addr) => (nn l0 fun y3_ => (ldq S0 eI ((y3_.add 1)) fun (y4_ : Int) => (rq (((s7).length : Int) + ((part5).length : Int) ≤ 9223372036854775807) (cal eI Tryz.prog 24 #[.pointer y2_, .int .i64 ((IntKind.wrap .i64 (y4_ + i1))), str ((s7 ++ part5))] fun (y5_ : Int) => (K [(4, .int .i64 y5_)])))))))) := by kernel_rfl
@[go_sem] theorem c77_o : c77.lo 1000000 = [4] := rfl
@[go_sem] theorem c77_e (t4 : Int) (k : Value → W) : RTp c77 [(4, .int .i64 t4)] k = (k (.int .i64 t4)) := by kernel_rfl
theorem c77_ok : (c77.P.follows .mixedOrders && okc c77 c77.body) = true := by kernel_rfl
theorem c77_fn {e : Enc} {args : Array Value} {G : e.α → W} {L : List HP} {ρ : Env} (hρ : envA 0 args.toList = ρ) (hs : Nat.ble args.size 68 = true) (h : E L (D c77 (.seq (.reg 0) (.seq (.seq (.reg 1) (.cond (.tmp 14) (.seq (.reg 2) (.ret)) (.skip))) (.seq (.reg 3) (.seq (.reg 4) (.seq (.reg 5) (.seq (.reg 6) (.seq (.reg 7) (.seq (.reg 8) (.ret))))))))) (fnQ c77 e G) ρ)) : E L (cal e Tryz.prog 77 args G) :=
  d_fn (c := c77) Tryz.func77 (by kernel_rfl) (by kernel_rfl) (by kernel_rfl) c77_ok (by kernel_rfl) (by kernel_rfl) hρ hs h
/-! (*gharry.wal.Log).down -/
noncomputable def c78 : Cfg := { P := Tryz.prog, n := 11, T := TT, body := (Tryz.f78.body).getD .skip, res := Tryz.f78.results.toList, li := lk [] [(0, [0, 1]), (1, [0, 1]), (2, [0, 1]), (3, [1])], lo := lk [] [(0, [0, 1]), (1, [0, 1, 6]), (2, [1]), (3, [4]), (1000000, [4])], ord := lk (false, []) [] }
@[go_sem] theorem c78_i0 : c78.li 0 = [0, 1] := rfl
@[go_sem] theorem c78_i1 : c78.li 1 = [0, 1] := rfl
@[go_sem] theorem c78_i2 : c78.li 2 = [0, 1] := rfl
@[go_sem] theorem c78_i3 : c78.li 3 = [1] := rfl
@[go_sem] theorem c78_r0 (l0 : Option Addr) (e1 : Int) (K : Env → W) : RP c78 0 [(0, .pointer l0), (1, .int .i64 e1)] K =
    (K [(0, .pointer l0), (1, .int .i64 e1)]) := by kernel_rfl
@[go_sem] theorem c78_r1 (l0 : Option Addr) (e1 : Int) (K : Env → W) : RP c78 1 [(0, .pointer l0), (1, .int .i64 e1)] K =
    (K [(0, .pointer l0), (1, .int .i64 e1), (6, .bool ((e1 != (0 : Int))))]) := by kernel_rfl
@[go_sem] theorem c78_r2 (l0 : Option Addr) (e1 : Int) (K : Env → W) : RP c78 2 [(0, .pointer l0), (1, .int .i64 e1)] K =
    (nn l0 fun y1_ => (st ((y1_.add 6)) (.bool true) (K [(1, .int .i64 e1)]))) := by kernel_rfl
@[go_sem] theorem c78_r3 (e1 : Int) (K : Env → W) : RP c78 3 [(1, .int .i64 e1)] K =
    (K [(4, .int .i64 e1)]) := by kernel_rfl
@[go_sem] theorem c78_o : c78.lo 1000000 = [4] := rfl
@[go_sem] theorem c78_e (t4 : Int) (k : Value → W) : RTp c78 [(4, .int .i64 t4)] k = (k (.int .i64 t4)) := by kernel_rfl
theorem c78_ok : (c78.P.follows .mixedOrders && okc c78 c78.body) = true := by kernel_rfl
theorem c78_fn {e : Enc} {args : Array Value} {G : e.α → W} {L : List HP} {ρ : Env} (hρ : envA 0 args.toList = ρ) (hs : Nat.ble args.size 11 = true) (h : E L (D c78 (.seq (.reg 0) (.seq (.seq (.reg 1) (.cond (.tmp 6) (.reg 2) (.skip))) (.seq (.reg 3) (.ret)))) (fnQ c78 e G) ρ)) : E L (cal e Tryz.prog 78 args G) :=
  d_fn (c := c78) Tryz.func78 (by kernel_rfl) (by kernel_rfl) (by kernel_rfl) c78_ok (by kernel_rfl) (by kernel_rfl) hρ hs h
/-! (*gharry.wal.Log).none -/
noncomputable def c83 : Cfg := { P := Tryz.prog, n := 12, T := TT, body := (Tryz.f83.body).getD .skip, res := Tryz.f83.results.toList, li := lk [] [(0, [0]), (1, [0])], lo := lk [] [(0, [0]), (1, [2]), (1000000, [2])], ord := lk (false, []) [] }
@[go_sem] theorem c83_i0 : c83.li 0 = [0] := rfl
@[go_sem] theorem c83_i1 : c83.li 1 = [0] := rfl
@[go_sem] theorem c83_r0 (l0 : Option Addr) (K : Env → W) : RP c83 0 [(0, .pointer l0)] K =
    (K [(0, .pointer l0)]) := by kernel_rfl
@[go_sem] theorem c83_r1 (l0 : Option Addr) (K : Env → W) : RP c83 1 [(0, .pointer l0)] K =
    (cnd ((l0).isNone) (K [(2, .bool true)]) (nn l0 fun y1_ => (ld eP y1_ fun (y2_ : Option Addr) => (K [(2, .bool ((y2_).isNone))])))) := by kernel_rfl
@[go_sem] theorem c83_o : c83.lo 1000000 = [2] := rfl
@[go_sem] theorem c83_e (t2 : Bool) (k : Value → W) : RTp c83 [(2, .bool t2)] k = (k (.bool t2)) := by kernel_rfl
theorem c83_ok : (c83.P.follows .mixedOrders && okc c83 c83.body) = true := by kernel_rfl
theorem c83_fn {e : Enc} {args : Array Value} {G : e.α → W} {L : List HP} {ρ : Env} (hρ : envA 0 args.toList = ρ) (hs : Nat.ble args.size 12 = true) (h : E L (D c83 (.seq (.reg 0) (.seq (.reg 1) (.ret))) (fnQ c83 e G) ρ)) : E L (cal e Tryz.prog 83 args G) :=
  d_fn (c := c83) Tryz.func83 (by kernel_rfl) (by kernel_rfl) (by kernel_rfl) c83_ok (by kernel_rfl) (by kernel_rfl) hρ hs h
end Go.Sp
/- What each region of the Go functions does. Written by my own generator. -/
namespace Go.Sp
open Go
set_option maxRecDepth 100000
set_option linter.unusedVariables false
open Go.Proofs
/-! gharry.wal.Open -/
noncomputable def c17 : Cfg := { P := Tryz.prog, n := 58, T := TT, body := (Tryz.f17.body).getD .skip, res := Tryz.f17.results.toList, li := lk [] [(0, [0, 1, 2, 3]), (1, [0, 1, 2, 3]), (2, [0, 1, 2, 3, 10]), (3, [10]), (4, [0, 1, 2, 3]), (5, [11]), (6, [11, 12, 13]), (7, [13]), (8, [11, 12]), (9, [11]), (10, [11]), (11, [11, 14]), (12, [14]), (13, [11])], lo := lk [] [(0, [0, 1, 2, 3]), (1, [0, 1, 2, 3, 10]), (2, [0, 1, 2, 3, 10, 21]), (3, [8, 9]), (4, [11]), (5, [11, 12, 13]), (6, [11, 12, 13, 35]), (7, [8, 9]), (8, [11]), (9, [11]), (10, [11, 14]), (11, [11, 14, 55]), (12, [8, 9]), (13, [8, 9]), (1000000, [8, 9])], ord := lk (false, []) [] }
@[go_sem] theorem c17_i0 : c17.li 0 = [0, 1, 2, 3] := rfl
@[go_sem] theorem c17_i1 : c17.li 1 = [0, 1, 2, 3] := rfl
@[go_sem] theorem c17_i2 : c17.li 2 = [0, 1, 2, 3, 10] := rfl
@[go_sem] theorem c17_i3 : c17.li 3 = [10] := rfl
@[go_sem] theorem c17_i4 : c17.li 4 = [0, 1, 2, 3] := rfl
@[go_sem] theorem c17_i5 : c17.li 5 = [11] := rfl
@[go_sem] theorem c17_i6 : c17.li 6 = [11, 12, 13] := rfl
@[go_sem] theorem c17_i7 : c17.li 7 = [13] := rfl
@[go_sem] theorem c17_i8 : c17.li 8 = [11, 12] := rfl
@[go_sem] theorem c17_i9 : c17.li 9 = [11] := rfl
@[go_sem] theorem c17_i10 : c17.li 10 = [11] := rfl
@[go_sem] theorem c17_i11 : c17.li 11 = [11, 14] := rfl
@[go_sem] theorem c17_i12 : c17.li 12 = [14] := rfl
@[go_sem] theorem c17_i13 : c17.li 13 = [11] := rfl
@[go_sem] theorem c17_r0 (d0 : Option Addr) (base1 : Int) (sectors2 : Int) (run3 : Int) (K : Env → W) : RP c17 0 [(0, .pointer d0), (1, .int .i64 base1), (2, .int .i64 sectors2), (3, .int .i64 run3)] K =
    (K [(0, .pointer d0), (1, .int .i64 base1), (2, .int .i64 sectors2), (3, .int .i64 run3)]) := by kernel_rfl
@[go_sem] theorem c17_r1 (d0 : Option Addr) (base1 : Int) (sectors2 : Int) (run3 : Int) (K : Env → W) : RP c17 1 [(0, .pointer d0), (1, .int .i64 base1), (2, .int .i64 sectors2), (3, .int .i64 run3)] K =
    (cal eI Tryz.prog 67 #[.pointer d0, .int .i64 base1, .int .i64 sectors2, .int .i64 run3] fun (y1_ : Int) => (K [(0, .pointer d0), (1, .int .i64 base1), (2, .int .i64 sectors2), (3, .int .i64 run3), (10, .int .i64 y1_)])) := by kernel_rfl
@[go_sem] theorem c17_r2 (d0 : Option Addr) (base1 : Int) (sectors2 : Int) (run3 : Int) (e10 : Int) (K : Env → W) : RP c17 2 [(0, .pointer d0), (1, .int .i64 base1), (2, .int .i64 sectors2), (3, .int .i64 run3), (10, .int .i64 e10)] K =
    (K [(0, .pointer d0), (1, .int .i64 base1), (2, .int .i64 sectors2), (3, .int .i64 run3), (10, .int .i64 e10), (21, .bool ((e10 != (0 : Int))))]) := by kernel_rfl
@[go_sem] theorem c17_r3 (e10 : Int) (K : Env → W) : RP c17 3 [(10, .int .i64 e10)] K =
    (K [(8, .pointer none), (9, .int .i64 e10)]) := by kernel_rfl
@[go_sem] theorem c17_r4 (d0 : Option Addr) (base1 : Int) (sectors2 : Int) (run3 : Int) (K : Env → W) : RP c17 4 [(0, .pointer d0), (1, .int .i64 base1), (2, .int .i64 sectors2), (3, .int .i64 run3)] K =
    (nwc #[.pointer (d0), .int .i64 (base1), .int .i64 (sectors2), .int .i64 (run3), str (([] : List UInt8)), .int .i64 (0 : Int), .bool (false)] 66 fun y1_ => (K [(11, .pointer (some y1_))])) := by kernel_rfl
@[go_sem] theorem c17_r5 (l11 : Addr) (K : Env → W) : RP c17 5 [(11, .pointer (some l11))] K =
    (cal (eT2 eS eI) Tryz.prog 68 #[.pointer (some l11)] fun (y1_ : ((List UInt8) × Int)) => (K [(11, .pointer (some l11)), (12, str y1_.1), (13, .int .i64 y1_.2)])) := by kernel_rfl
@[go_sem] theorem c17_r6 (l11 : Addr) (s12 : List UInt8) (e13 : Int) (K : Env → W) : RP c17 6 [(11, .pointer (some l11)), (12, str s12), (13, .int .i64 e13)] K =
    (K [(11, .pointer (some l11)), (12, str s12), (13, .int .i64 e13), (35, .bool ((e13 != (0 : Int))))]) := by kernel_rfl
@[go_sem] theorem c17_r7 (e13 : Int) (K : Env → W) : RP c17 7 [(13, .int .i64 e13)] K =
    (K [(8, .pointer none), (9, .int .i64 e13)]) := by kernel_rfl
@[go_sem] theorem c17_r8 (l11 : Addr) (s12 : List UInt8) (K : Env → W) : RP c17 8 [(11, .pointer (some l11)), (12, str s12)] K =
    (cal eI Tryz.prog 69 #[str s12] fun (y1_ : Int) => (rq (0 ≤ (0 : Int) ∧ 0 ≤ y1_ ∧ y1_ ≤ ((s12).length : Int)) (st ((l11.add 4)) (str ((ss s12 0 y1_))) (K [(11, .pointer (some l11))])))) := by kernel_rfl
@[go_sem] theorem c17_r9 (l11 : Addr) (K : Env → W) : RP c17 9 [(11, .pointer (some l11))] K =
    (ld eS ((l11.add 4)) fun (y1_ : List UInt8) => (st ((l11.add 5)) (.int .i64 (((y1_).length : Int))) (K [(11, .pointer (some l11))]))) := by kernel_rfl
@[go_sem] theorem c17_r10 (l11 : Addr) (K : Env → W) : RP c17 10 [(11, .pointer (some l11))] K =
    (cal eI Tryz.prog 70 #[.pointer (some l11)] fun (y1_ : Int) => (K [(11, .pointer (some l11)), (14, .int .i64 y1_)])) := by kernel_rfl
@[go_sem] theorem c17_r11 (l11 : Addr) (e14 : Int) (K : Env → W) : RP c17 11 [(11, .pointer (some l11)), (14, .int .i64 e14)] K =
    (K [(11, .pointer (some l11)), (14, .int .i64 e14), (55, .bool ((e14 != (0 : Int))))]) := by kernel_rfl
@[go_sem] theorem c17_r12 (e14 : Int) (K : Env → W) : RP c17 12 [(14, .int .i64 e14)] K =
    (K [(8, .pointer none), (9, .int .i64 e14)]) := by kernel_rfl
@[go_sem] theorem c17_r13 (l11 : Addr) (K : Env → W) : RP c17 13 [(11, .pointer (some l11))] K =
    (K [(8, .pointer (some l11)), (9, .int .i64 (0 : Int))]) := by kernel_rfl
@[go_sem] theorem c17_o : c17.lo 1000000 = [8, 9] := rfl
@[go_sem] theorem c17_e (t8 : Option Addr) (t9 : Int) (k : Value → W) : RTp c17 [(8, .pointer t8), (9, .int .i64 t9)] k = (k (.tuple #[.pointer t8, .int .i64 t9])) := by kernel_rfl
theorem c17_ok : (c17.P.follows .mixedOrders && okc c17 c17.body) = true := by kernel_rfl
theorem c17_fn {e : Enc} {args : Array Value} {G : e.α → W} {L : List HP} {ρ : Env} (hρ : envA 0 args.toList = ρ) (hs : Nat.ble args.size 58 = true) (h : E L (D c17 (.seq (.reg 0) (.seq (.seq (.reg 1) (.seq (.reg 2) (.cond (.tmp 21) (.seq (.reg 3) (.ret)) (.skip)))) (.seq (.reg 4) (.seq (.reg 5) (.seq (.seq (.reg 6) (.cond (.tmp 35) (.seq (.reg 7) (.ret)) (.skip))) (.seq (.reg 8) (.seq (.reg 9) (.seq (.seq (.reg 10) (.seq (.reg 11) (.cond (.tmp 55) (.seq (.reg 12) (.ret)) (.skip)))) (.seq (.reg 13) (.ret)))))))))) (fnQ c17 e G) ρ)) : E L (cal e Tryz.prog 17 args G) :=
  d_fn (c := c17) Tryz.func17 (by kernel_rfl) (by kernel_rfl) (by kernel_rfl) c17_ok (by kernel_rfl) (by kernel_rfl) hρ hs h
/-! (*gharry.wal.Log).Append -/
noncomputable def c20 : Cfg := { P := Tryz.prog, n := 27, T := TT, body := (Tryz.f20.body).getD .skip, res := Tryz.f20.results.toList, li := lk [] [(0, [0, 1]), (1, [0, 3]), (2, [0, 3, 6]), (3, [6]), (4, [0, 3]), (5, [0, 7, 8]), (6, [8]), (7, [0, 7])], lo := lk [] [(0, [0, 3]), (1, [0, 3, 6]), (2, [0, 3, 6, 12]), (3, [4, 5]), (4, [0, 7, 8]), (5, [0, 7, 8, 20]), (6, [4, 5]), (7, [4, 5]), (1000000, [4, 5])], ord := lk (false, []) [] }
@[go_sem] theorem c20_i0 : c20.li 0 = [0, 1] := rfl
@[go_sem] theorem c20_i1 : c20.li 1 = [0, 3] := rfl
@[go_sem] theorem c20_i2 : c20.li 2 = [0, 3, 6] := rfl
@[go_sem] theorem c20_i3 : c20.li 3 = [6] := rfl
@[go_sem] theorem c20_i4 : c20.li 4 = [0, 3] := rfl
@[go_sem] theorem c20_i5 : c20.li 5 = [0, 7, 8] := rfl
@[go_sem] theorem c20_i6 : c20.li 6 = [8] := rfl
@[go_sem] theorem c20_i7 : c20.li 7 = [0, 7] := rfl
@[go_sem] theorem c20_r0 (l0 : Option Addr) (r1 : api_Rec) (K : Env → W) : RP c20 0 [(0, .pointer l0), (1, v_api_Rec r1)] K =
    (nwc #[.int .i64 r1.Kind, .int .i64 r1.Txn, .int .i64 r1.Prev, .int .i64 r1.Page, .int .i64 r1.Act, str r1.Key, str r1.Old, str r1.New, .int .i64 r1.Next, .slice r1.Images.1 r1.Images.2.1 r1.Images.2.2, .slice r1.Table.1 r1.Table.2.1 r1.Table.2.2, .int .i64 r1.Epoch, .int .i64 r1.Node] 36 fun y1_ => (K [(0, .pointer l0), (3, .pointer (some y1_))])) := by kernel_rfl
@[go_sem] theorem c20_r1 (l0 : Option Addr) (r3 : Addr) (K : Env → W) : RP c20 1 [(0, .pointer l0), (3, .pointer (some r3))] K =
    (cal eI Tryz.prog 75 #[.pointer l0] fun (y1_ : Int) => (K [(0, .pointer l0), (3, .pointer (some r3)), (6, .int .i64 y1_)])) := by kernel_rfl
@[go_sem] theorem c20_r2 (l0 : Option Addr) (r3 : Addr) (e6 : Int) (K : Env → W) : RP c20 2 [(0, .pointer l0), (3, .pointer (some r3)), (6, .int .i64 e6)] K =
    (K [(0, .pointer l0), (3, .pointer (some r3)), (6, .int .i64 e6), (12, .bool ((e6 != (0 : Int))))]) := by kernel_rfl
@[go_sem] theorem c20_r3 (e6 : Int) (K : Env → W) : RP c20 3 [(6, .int .i64 e6)] K =
    (K [(4, .int .i64 (0 : Int)), (5, .int .i64 e6)]) := by kernel_rfl
@[go_sem] theorem c20_r4 (l0 : Option Addr) (r3 : Addr) (K : Env → W) : RP c20 4 [(0, .pointer l0), (3, .pointer (some r3))] K =
    (ldn e_api_Rec 13 r3 fun (y1_ : api_Rec) => (cal (eT2 eS eI) Tryz.prog 18 #[v_api_Rec y1_] fun (y2_ : ((List UInt8) × Int)) => (K [(0, .pointer l0), (7, str y2_.1), (8, .int .i64 y2_.2)]))) := by kernel_rfl
@[go_sem] theorem c20_r5 (l0 : Option Addr) (s7 : List UInt8) (e8 : Int) (K : Env → W) : RP c20 5 [(0, .pointer l0), (7, str s7), (8, .int .i64 e8)] K =
    (K [(0, .pointer l0), (7, str s7), (8, .int .i64 e8), (20, .bool ((e8 != (0 : Int))))]) := by kernel_rfl
@[go_sem] theorem c20_r6 (e8 : Int) (K : Env → W) : RP c20 6 [(8, .int .i64 e8)] K =
    (K [(4, .int .i64 (0 : Int)), (5, .int .i64 e8)]) := by kernel_rfl
@[go_sem] theorem c20_r7 (l0 : Option Addr) (s7 : List UInt8) (K : Env → W) : RP c20 7 [(0, .pointer l0), (7, str s7)] K =
    (cal (eT2 eI eI) Tryz.prog 76 #[.pointer l0, str s7] fun (y1_ : (Int × Int)) => (K [(4, .int .i64 y1_.1), (5, .int .i64 y1_.2)])) := by kernel_rfl
@[go_sem] theorem c20_o : c20.lo 1000000 = [4, 5] := rfl
@[go_sem] theorem c20_e (t4 : Int) (t5 : Int) (k : Value → W) : RTp c20 [(4, .int .i64 t4), (5, .int .i64 t5)] k = (k (.tuple #[.int .i64 t4, .int .i64 t5])) := by kernel_rfl
theorem c20_ok : (c20.P.follows .mixedOrders && okc c20 c20.body) = true := by kernel_rfl
theorem c20_fn {e : Enc} {args : Array Value} {G : e.α → W} {L : List HP} {ρ : Env} (hρ : envA 0 args.toList = ρ) (hs : Nat.ble args.size 27 = true) (h : E L (D c20 (.seq (.reg 0) (.seq (.seq (.reg 1) (.seq (.reg 2) (.cond (.tmp 12) (.seq (.reg 3) (.ret)) (.skip)))) (.seq (.reg 4) (.seq (.seq (.reg 5) (.cond (.tmp 20) (.seq (.reg 6) (.ret)) (.skip))) (.seq (.reg 7) (.ret)))))) (fnQ c20 e G) ρ)) : E L (cal e Tryz.prog 20 args G) :=
  d_fn (c := c20) Tryz.func20 (by kernel_rfl) (by kernel_rfl) (by kernel_rfl) c20_ok (by kernel_rfl) (by kernel_rfl) hρ hs h
/-! (*gharry.wal.Log).Flush -/
noncomputable def c21 : Cfg := { P := Tryz.prog, n := 63, T := TT, body := (Tryz.f21.body).getD .skip, res := Tryz.f21.results.toList, li := lk [] [(0, [0]), (1, [0]), (2, [0, 3]), (3, [3]), (4, [0]), (5, []), (6, [0]), (7, [0, 4]), (8, [0, 4]), (9, [0, 4]), (10, [0, 4, 5]), (11, [0, 5]), (12, [0]), (13, [0, 6]), (14, [0, 6]), (15, [0]), (16, [])], lo := lk [] [(0, [0]), (1, [0, 3]), (2, [0, 3, 10]), (3, [2]), (4, [0, 21]), (5, [2]), (6, [0, 4]), (7, [0, 4, 34]), (8, [0, 4]), (9, [0, 4, 5]), (10, [0, 4, 5, 41]), (11, [2]), (12, [0, 6]), (13, [0, 6, 51]), (14, [2]), (15, []), (16, [2]), (1000000, [2])], ord := lk (false, []) [(4, (true, [(0, 1), (1, 1), (2, 1), (3, 0), (4, 1), (5, 1), (6, 1), (7, 0), (8, 1), (9, 1)]))] }
@[go_sem] theorem c21_i0 : c21.li 0 = [0] := rfl
@[go_sem] theorem c21_i1 : c21.li 1 = [0] := rfl
@[go_sem] theorem c21_i2 : c21.li 2 = [0, 3] := rfl
@[go_sem] theorem c21_i3 : c21.li 3 = [3] := rfl
@[go_sem] theorem c21_i4 : c21.li 4 = [0] := rfl
@[go_sem] theorem c21_i5 : c21.li 5 = [] := rfl
@[go_sem] theorem c21_i6 : c21.li 6 = [0] := rfl
@[go_sem] theorem c21_i7 : c21.li 7 = [0, 4] := rfl
@[go_sem] theorem c21_i8 : c21.li 8 = [0, 4] := rfl
@[go_sem] theorem c21_i9 : c21.li 9 = [0, 4] := rfl
@[go_sem] theorem c21_i10 : c21.li 10 = [0, 4, 5] := rfl
@[go_sem] theorem c21_i11 : c21.li 11 = [0, 5] := rfl
@[go_sem] theorem c21_i12 : c21.li 12 = [0] := rfl
@[go_sem] theorem c21_i13 : c21.li 13 = [0, 6] := rfl
@[go_sem] theorem c21_i14 : c21.li 14 = [0, 6] := rfl
@[go_sem] theorem c21_i15 : c21.li 15 = [0] := rfl
@[go_sem] theorem c21_i16 : c21.li 16 = [] := rfl
@[go_sem] theorem c21_r0 (l0 : Option Addr) (K : Env → W) : RP c21 0 [(0, .pointer l0)] K =
    (K [(0, .pointer l0)]) := by kernel_rfl
@[go_sem] theorem c21_r1 (l0 : Option Addr) (K : Env → W) : RP c21 1 [(0, .pointer l0)] K =
    (cal eI Tryz.prog 75 #[.pointer l0] fun (y1_ : Int) => (K [(0, .pointer l0), (3, .int .i64 y1_)])) := by kernel_rfl
@[go_sem] theorem c21_r2 (l0 : Option Addr) (e3 : Int) (K : Env → W) : RP c21 2 [(0, .pointer l0), (3, .int .i64 e3)] K =
    (K [(0, .pointer l0), (3, .int .i64 e3), (10, .bool ((e3 != (0 : Int))))]) := by kernel_rfl
@[go_sem] theorem c21_r3 (e3 : Int) (K : Env → W) : RP c21 3 [(3, .int .i64 e3)] K =
    (K [(2, .int .i64 e3)]) := by kernel_rfl
@[go_sem] theorem c21_r4 (l0 : Option Addr) (K : Env → W) : RP c21 4 [(0, .pointer l0)] K =
    (ph fun S0 => (nn l0 fun y1_ => (ldq S0 eI ((y1_.add 5)) fun (y2_ : Int) => (nn l0 fun y3_ => (ldq S0 eS ((y3_.add 4)) fun (y4_ : List UInt8) => (K [(0, .pointer l0), (21, .bool ((y2_ == ((y4_).length : Int))))])))))) := by kernel_rfl
@[go_sem] theorem c21_r5 (K : Env → W) : RP c21 5 [] K =
    (K [(2, .int .i64 (0 : Int))]) := by kernel_rfl
@[go_sem] theorem c21_r6 (l0 : Option Addr) (K : Env → W) : RP c21 6 [(0, .pointer l0)] K =
    (nn l0 fun y1_ => (ld eI ((y1_.add 5)) fun (y2_ : Int) => (rq ((58 : Int) ≠ 0) (K [(0, .pointer l0), (4, .int .i64 ((IntKind.wrap .i64 ((y2_).tdiv (58 : Int)))))])))) := by kernel_rfl
@[go_sem] theorem c21_r7 (l0 : Option Addr) (i4 : Int) (K : Env → W) : RP c21 7 [(0, .pointer l0), (4, .int .i64 i4)] K =
    (nn l0 fun y1_ => (ld eS ((y1_.add 4)) fun (y2_ : List UInt8) => (K [(0, .pointer l0), (4, .int .i64 i4), (34, .bool ((decide ((IntKind.wrap .i64 (i4 * (58 : Int))) < ((y2_).length : Int)))))]))) := by kernel_rfl
@[go_sem] theorem c21_r8 (l0 : Option Addr) (i4 : Int) (K : Env → W) : RP c21 8 [(0, .pointer l0), (4, .int .i64 i4)] K =
    (K [(0, .pointer l0), (4, .int .i64 ((IntKind.wrap .i64 (i4 + (1 : Int)))))]) := by kernel_rfl
@[go_sem] theorem c21_r9 (l0 : Option Addr) (i4 : Int) (K : Env → W) : RP c21 9 [(0, .pointer l0), (4, .int .i64 i4)] K =
    (cal eI Tryz.prog 77 #[.pointer l0, .int .i64 i4] fun (y1_ : Int) => (K [(0, .pointer l0), (4, .int .i64 i4), (5, .int .i64 y1_)])) := by kernel_rfl
@[go_sem] theorem c21_r10 (l0 : Option Addr) (i4 : Int) (e5 : Int) (K : Env → W) : RP c21 10 [(0, .pointer l0), (4, .int .i64 i4), (5, .int .i64 e5)] K =
    (K [(0, .pointer l0), (4, .int .i64 i4), (5, .int .i64 e5), (41, .bool ((e5 != (0 : Int))))]) := by kernel_rfl
@[go_sem] theorem c21_r11 (l0 : Option Addr) (e5 : Int) (K : Env → W) : RP c21 11 [(0, .pointer l0), (5, .int .i64 e5)] K =
    (cal eI Tryz.prog 78 #[.pointer l0, .int .i64 e5] fun (y1_ : Int) => (K [(2, .int .i64 y1_)])) := by kernel_rfl
@[go_sem] theorem c21_r12 (l0 : Option Addr) (K : Env → W) : RP c21 12 [(0, .pointer l0)] K =
    (nn l0 fun y1_ => (ld eP y1_ fun (y2_ : Option Addr) => (cal eI Tryz.prog 79 #[.pointer y2_] fun (y3_ : Int) => (K [(0, .pointer l0), (6, .int .i64 y3_)])))) := by kernel_rfl
@[go_sem] theorem c21_r13 (l0 : Option Addr) (e6 : Int) (K : Env → W) : RP c21 13 [(0, .pointer l0), (6, .int .i64 e6)] K =
    (K [(0, .pointer l0), (6, .int .i64 e6), (51, .bool ((e6 != (0 : Int))))]) := by kernel_rfl
@[go_sem] theorem c21_r14 (l0 : Option Addr) (e6 : Int) (K : Env → W) : RP c21 14 [(0, .pointer l0), (6, .int .i64 e6)] K =
    (cal eI Tryz.prog 78 #[.pointer l0, .int .i64 e6] fun (y1_ : Int) => (K [(2, .int .i64 y1_)])) := by kernel_rfl
@[go_sem] theorem c21_r15 (l0 : Option Addr) (K : Env → W) : RP c21 15 [(0, .pointer l0)] K =
    (nn l0 fun y1_ => (ld eS ((y1_.add 4)) fun (y2_ : List UInt8) => (nn l0 fun y3_ => (st ((y3_.add 5)) (.int .i64 (((y2_).length : Int))) (K []))))) := by kernel_rfl
@[go_sem] theorem c21_r16 (K : Env → W) : RP c21 16 [] K =
    (K [(2, .int .i64 (0 : Int))]) := by kernel_rfl
@[go_sem] theorem c21_o : c21.lo 1000000 = [2] := rfl
@[go_sem] theorem c21_e (t2 : Int) (k : Value → W) : RTp c21 [(2, .int .i64 t2)] k = (k (.int .i64 t2)) := by kernel_rfl
theorem c21_ok : (c21.P.follows .mixedOrders && okc c21 c21.body) = true := by kernel_rfl
theorem c21_fn {e : Enc} {args : Array Value} {G : e.α → W} {L : List HP} {ρ : Env} (hρ : envA 0 args.toList = ρ) (hs : Nat.ble args.size 63 = true) (h : E L (D c21 (.seq (.reg 0) (.seq (.seq (.reg 1) (.seq (.reg 2) (.cond (.tmp 10) (.seq (.reg 3) (.ret)) (.skip)))) (.seq (.seq (.reg 4) (.cond (.tmp 21) (.seq (.reg 5) (.ret)) (.skip))) (.seq (.seq (.reg 6) (.block 0 (.loop (.seq (.seq (.reg 7) (.cond (.tmp 34) (.skip) (.exit 0))) (.seq (.block 1 (.seq (.reg 9) (.seq (.reg 10) (.cond (.tmp 41) (.seq (.reg 11) (.ret)) (.skip))))) (.reg 8)))))) (.seq (.seq (.reg 12) (.seq (.reg 13) (.cond (.tmp 51) (.seq (.reg 14) (.ret)) (.skip)))) (.seq (.reg 15) (.seq (.reg 16) (.ret)))))))) (fnQ c21 e G) ρ)) : E L (cal e Tryz.prog 21 args G) :=
  d_fn (c := c21) Tryz.func21 (by kernel_rfl) (by kernel_rfl) (by kernel_rfl) c21_ok (by kernel_rfl) (by kernel_rfl) hρ hs h
-- loop (first region 7): live slots 0:l0 4:i4, of which it writes [4]
/-! (*gharry.wal.Log).Records -/
/-! (*gharry.wal.Log).End -/
noncomputable def c28 : Cfg := { P := Tryz.prog, n := 11, T := TT, body := (Tryz.f28.body).getD .skip, res := Tryz.f28.results.toList, li := lk [] [(0, [0]), (1, [0]), (2, []), (3, [0])], lo := lk [] [(0, [0]), (1, [0, 4]), (2, [2]), (3, [2]), (1000000, [2])], ord := lk (false, []) [] }
@[go_sem] theorem c28_i0 : c28.li 0 = [0] := rfl
@[go_sem] theorem c28_i1 : c28.li 1 = [0] := rfl
@[go_sem] theorem c28_i2 : c28.li 2 = [] := rfl
@[go_sem] theorem c28_i3 : c28.li 3 = [0] := rfl
@[go_sem] theorem c28_r0 (l0 : Option Addr) (K : Env → W) : RP c28 0 [(0, .pointer l0)] K =
    (K [(0, .pointer l0)]) := by kernel_rfl
@[go_sem] theorem c28_r1 (l0 : Option Addr) (K : Env → W) : RP c28 1 [(0, .pointer l0)] K =
    (cal eB Tryz.prog 83 #[.pointer l0] fun (y1_ : Bool) => (K [(0, .pointer l0), (4, .bool y1_)])) := by kernel_rfl
@[go_sem] theorem c28_r2 (K : Env → W) : RP c28 2 [] K =
    (K [(2, .int .i64 (0 : Int))]) := by kernel_rfl
@[go_sem] theorem c28_r3 (l0 : Option Addr) (K : Env → W) : RP c28 3 [(0, .pointer l0)] K =
    (nn l0 fun y1_ => (ld eS ((y1_.add 4)) fun (y2_ : List UInt8) => (K [(2, .int .i64 ((IntKind.wrap .i64 (((y2_).length : Int) + (1 : Int)))))]))) := by kernel_rfl
@[go_sem] theorem c28_o : c28.lo 1000000 = [2] := rfl
@[go_sem] theorem c28_e (t2 : Int) (k : Value → W) : RTp c28 [(2, .int .i64 t2)] k = (k (.int .i64 t2)) := by kernel_rfl
theorem c28_ok : (c28.P.follows .mixedOrders && okc c28 c28.body) = true := by kernel_rfl
theorem c28_fn {e : Enc} {args : Array Value} {G : e.α → W} {L : List HP} {ρ : Env} (hρ : envA 0 args.toList = ρ) (hs : Nat.ble args.size 11 = true) (h : E L (D c28 (.seq (.reg 0) (.seq (.seq (.reg 1) (.cond (.tmp 4) (.seq (.reg 2) (.ret)) (.skip))) (.seq (.reg 3) (.ret)))) (fnQ c28 e G) ρ)) : E L (cal e Tryz.prog 28 args G) :=
  d_fn (c := c28) Tryz.func28 (by kernel_rfl) (by kernel_rfl) (by kernel_rfl) c28_ok (by kernel_rfl) (by kernel_rfl) hρ hs h
/-! (*gharry.wal.Log).Durable -/
noncomputable def c29 : Cfg := { P := Tryz.prog, n := 10, T := TT, body := (Tryz.f29.body).getD .skip, res := Tryz.f29.results.toList, li := lk [] [(0, [0]), (1, [0]), (2, []), (3, [0])], lo := lk [] [(0, [0]), (1, [0, 4]), (2, [2]), (3, [2]), (1000000, [2])], ord := lk (false, []) [] }
@[go_sem] theorem c29_i0 : c29.li 0 = [0] := rfl
@[go_sem] theorem c29_i1 : c29.li 1 = [0] := rfl
@[go_sem] theorem c29_i2 : c29.li 2 = [] := rfl
@[go_sem] theorem c29_i3 : c29.li 3 = [0] := rfl
@[go_sem] theorem c29_r0 (l0 : Option Addr) (K : Env → W) : RP c29 0 [(0, .pointer l0)] K =
    (K [(0, .pointer l0)]) := by kernel_rfl
@[go_sem] theorem c29_r1 (l0 : Option Addr) (K : Env → W) : RP c29 1 [(0, .pointer l0)] K =
    (cal eB Tryz.prog 83 #[.pointer l0] fun (y1_ : Bool) => (K [(0, .pointer l0), (4, .bool y1_)])) := by kernel_rfl
@[go_sem] theorem c29_r2 (K : Env → W) : RP c29 2 [] K =
    (K [(2, .int .i64 (0 : Int))]) := by kernel_rfl
@[go_sem] theorem c29_r3 (l0 : Option Addr) (K : Env → W) : RP c29 3 [(0, .pointer l0)] K =
    (nn l0 fun y1_ => (ld eI ((y1_.add 5)) fun (y2_ : Int) => (K [(2, .int .i64 ((IntKind.wrap .i64 (y2_ + (1 : Int)))))]))) := by kernel_rfl
@[go_sem] theorem c29_o : c29.lo 1000000 = [2] := rfl
@[go_sem] theorem c29_e (t2 : Int) (k : Value → W) : RTp c29 [(2, .int .i64 t2)] k = (k (.int .i64 t2)) := by kernel_rfl
theorem c29_ok : (c29.P.follows .mixedOrders && okc c29 c29.body) = true := by kernel_rfl
theorem c29_fn {e : Enc} {args : Array Value} {G : e.α → W} {L : List HP} {ρ : Env} (hρ : envA 0 args.toList = ρ) (hs : Nat.ble args.size 10 = true) (h : E L (D c29 (.seq (.reg 0) (.seq (.seq (.reg 1) (.cond (.tmp 4) (.seq (.reg 2) (.ret)) (.skip))) (.seq (.reg 3) (.ret)))) (fnQ c29 e G) ρ)) : E L (cal e Tryz.prog 29 args G) :=
  d_fn (c := c29) Tryz.func29 (by kernel_rfl) (by kernel_rfl) (by kernel_rfl) c29_ok (by kernel_rfl) (by kernel_rfl) hρ hs h
/-! (*gharry.wal.Log).Left -/
noncomputable def c30 : Cfg := { P := Tryz.prog, n := 16, T := TT, body := (Tryz.f30.body).getD .skip, res := Tryz.f30.results.toList, li := lk [] [(0, [0]), (1, [0]), (2, []), (3, [0])], lo := lk [] [(0, [0]), (1, [0, 4]), (2, [2]), (3, [2]), (1000000, [2])], ord := lk (false, []) [(3, (true, [(0, 1), (1, 1), (2, 1), (3, 0), (4, 1), (5, 1), (6, 1), (7, 1), (8, 0), (9, 1), (10, 1), (11, 1)]))] }
@[go_sem] theorem c30_i0 : c30.li 0 = [0] := rfl
@[go_sem] theorem c30_i1 : c30.li 1 = [0] := rfl
@[go_sem] theorem c30_i2 : c30.li 2 = [] := rfl
@[go_sem] theorem c30_i3 : c30.li 3 = [0] := rfl
@[go_sem] theorem c30_r0 (l0 : Option Addr) (K : Env → W) : RP c30 0 [(0, .pointer l0)] K =
    (K [(0, .pointer l0)]) := by kernel_rfl
@[go_sem] theorem c30_r1 (l0 : Option Addr) (K : Env → W) : RP c30 1 [(0, .pointer l0)] K =
    (cal eB Tryz.prog 83 #[.pointer l0] fun (y1_ : Bool) => (K [(0, .pointer l0), (4, .bool y1_)])) := by kernel_rfl
@[go_sem] theorem c30_r2 (K : Env → W) : RP c30 2 [] K =
    (K [(2, .int .i64 (0 : Int))]) := by kernel_rfl
@[go_sem] theorem c30_r3 (l0 : Option Addr) (K : Env → W) : RP c30 3 [(0, .pointer l0)] K =
    (ph fun S0 => (nn l0 fun y1_ => (ldq S0 eI ((y1_.add 2)) fun (y2_ : Int) => (nn l0 fun y3_ => (ldq S0 eS ((y3_.add 4)) fun (y4_ : List UInt8) => (K [(2, .int .i64 ((IntKind.wrap .i64 ((IntKind.wrap .i64 (y2_ * (58 : Int))) - ((y4_).length : Int)))))])))))) := by kernel_rfl
@[go_sem] theorem c30_o : c30.lo 1000000 = [2] := rfl
@[go_sem] theorem c30_e (t2 : Int) (k : Value → W) : RTp c30 [(2, .int .i64 t2)] k = (k (.int .i64 t2)) := by kernel_rfl
theorem c30_ok : (c30.P.follows .mixedOrders && okc c30 c30.body) = true := by kernel_rfl
theorem c30_fn {e : Enc} {args : Array Value} {G : e.α → W} {L : List HP} {ρ : Env} (hρ : envA 0 args.toList = ρ) (hs : Nat.ble args.size 16 = true) (h : E L (D c30 (.seq (.reg 0) (.seq (.seq (.reg 1) (.cond (.tmp 4) (.seq (.reg 2) (.ret)) (.skip))) (.seq (.reg 3) (.ret)))) (fnQ c30 e G) ρ)) : E L (cal e Tryz.prog 30 args G) :=
  d_fn (c := c30) Tryz.func30 (by kernel_rfl) (by kernel_rfl) (by kernel_rfl) c30_ok (by kernel_rfl) (by kernel_rfl) hρ hs h
/-! (*gharry.wal.Log).Run -/
/-! (*gharry.wal.Log).Bound -/
/-! (*gharry.wal.Log).Cut -/
/-! (*gharry.wal.Log).Read -/
/-! (*gharry.wal.Log).Put -/
/-! (*gharry.wal.Log).From -/
/-! (*gharry.wal.Log).Need -/
noncomputable def c40 : Cfg := { P := Tryz.prog, n := 17, T := TT, body := (Tryz.f40.body).getD .skip, res := Tryz.f40.results.toList, li := lk [] [(0, [0, 1]), (1, [0, 1]), (2, [0, 1, 5]), (3, [5]), (4, [0, 1]), (5, []), (6, [0])], lo := lk [] [(0, [0, 1]), (1, [0, 1, 5]), (2, [0, 1, 5, 9]), (3, [4]), (4, [0, 14]), (5, [4]), (6, [4]), (1000000, [4])], ord := lk (false, []) [] }
@[go_sem] theorem c40_i0 : c40.li 0 = [0, 1] := rfl
@[go_sem] theorem c40_i1 : c40.li 1 = [0, 1] := rfl
@[go_sem] theorem c40_i2 : c40.li 2 = [0, 1, 5] := rfl
@[go_sem] theorem c40_i3 : c40.li 3 = [5] := rfl
@[go_sem] theorem c40_i4 : c40.li 4 = [0, 1] := rfl
@[go_sem] theorem c40_i5 : c40.li 5 = [] := rfl
@[go_sem] theorem c40_i6 : c40.li 6 = [0] := rfl
@[go_sem] theorem c40_r0 (l0 : Option Addr) (lsn1 : Int) (K : Env → W) : RP c40 0 [(0, .pointer l0), (1, .int .i64 lsn1)] K =
    (K [(0, .pointer l0), (1, .int .i64 lsn1)]) := by kernel_rfl
@[go_sem] theorem c40_r1 (l0 : Option Addr) (lsn1 : Int) (K : Env → W) : RP c40 1 [(0, .pointer l0), (1, .int .i64 lsn1)] K =
    (cal eI Tryz.prog 75 #[.pointer l0] fun (y1_ : Int) => (K [(0, .pointer l0), (1, .int .i64 lsn1), (5, .int .i64 y1_)])) := by kernel_rfl
@[go_sem] theorem c40_r2 (l0 : Option Addr) (lsn1 : Int) (e5 : Int) (K : Env → W) : RP c40 2 [(0, .pointer l0), (1, .int .i64 lsn1), (5, .int .i64 e5)] K =
    (K [(0, .pointer l0), (1, .int .i64 lsn1), (5, .int .i64 e5), (9, .bool ((e5 != (0 : Int))))]) := by kernel_rfl
@[go_sem] theorem c40_r3 (e5 : Int) (K : Env → W) : RP c40 3 [(5, .int .i64 e5)] K =
    (K [(4, .int .i64 e5)]) := by kernel_rfl
@[go_sem] theorem c40_r4 (l0 : Option Addr) (lsn1 : Int) (K : Env → W) : RP c40 4 [(0, .pointer l0), (1, .int .i64 lsn1)] K =
    (cal eI Tryz.prog 29 #[.pointer l0] fun (y1_ : Int) => (K [(0, .pointer l0), (14, .bool ((decide (lsn1 < y1_))))])) := by kernel_rfl
@[go_sem] theorem c40_r5 (K : Env → W) : RP c40 5 [] K =
    (K [(4, .int .i64 (0 : Int))]) := by kernel_rfl
@[go_sem] theorem c40_r6 (l0 : Option Addr) (K : Env → W) : RP c40 6 [(0, .pointer l0)] K =
    (cal eI Tryz.prog 21 #[.pointer l0] fun (y1_ : Int) => (K [(4, .int .i64 y1_)])) := by kernel_rfl
@[go_sem] theorem c40_o : c40.lo 1000000 = [4] := rfl
@[go_sem] theorem c40_e (t4 : Int) (k : Value → W) : RTp c40 [(4, .int .i64 t4)] k = (k (.int .i64 t4)) := by kernel_rfl
theorem c40_ok : (c40.P.follows .mixedOrders && okc c40 c40.body) = true := by kernel_rfl
theorem c40_fn {e : Enc} {args : Array Value} {G : e.α → W} {L : List HP} {ρ : Env} (hρ : envA 0 args.toList = ρ) (hs : Nat.ble args.size 17 = true) (h : E L (D c40 (.seq (.reg 0) (.seq (.seq (.reg 1) (.seq (.reg 2) (.cond (.tmp 9) (.seq (.reg 3) (.ret)) (.skip)))) (.seq (.seq (.reg 4) (.cond (.tmp 14) (.seq (.reg 5) (.ret)) (.skip))) (.seq (.reg 6) (.ret))))) (fnQ c40 e G) ρ)) : E L (cal e Tryz.prog 40 args G) :=
  d_fn (c := c40) Tryz.func40 (by kernel_rfl) (by kernel_rfl) (by kernel_rfl) c40_ok (by kernel_rfl) (by kernel_rfl) hρ hs h
end Go.Sp
/- The log: its small functions; how far a text is whole. -/
namespace Go.Sp
open Go Go.Proofs
set_option linter.unusedSimpArgs false
set_option linter.unusedVariables false
set_option maxRecDepth 10000
structure Lg where
  q : Nat
  base : Nat
  sectors : Nat
  run : Nat
  all : List UInt8
  durable : Nat
  dead : Bool
abbrev lgp (G : Lg) (sb : Nat) : HP := ar G.q 66 [.pointer (some ⟨sb, 0, none⟩), .int .i64 (G.base : Int), .int .i64 (G.sectors : Int), .int .i64 (G.run : Int), str G.all, .int .i64 (G.durable : Int), .bool G.dead]
abbrev Lg.p (G : Lg) : Value := .pointer (some ⟨G.q, 0, none⟩)
structure Lg.ok (G : Lg) (n : Nat) : Prop where
  s1 : 1 ≤ G.sectors
  fit : G.base + G.sectors ≤ n
  n1 : n ≤ 8192
  r1 : 1 ≤ G.run
  r2 : G.run < 4294967296
  du : G.durable ≤ G.all.length
  le : G.all.length ≤ 58 * G.sectors
theorem g83 (G : Lg) (sb : Nat) : Fp eB Tryz.prog 83 #[G.p] [lgp G sb] false := fun L => by
  refine c83_fn rfl rfl ?_
  repeat' (first | (with_reducible first | (refine d_seq ?_; intro K hK) | (refine hK _ _ ?_; clear hK K) | (refine SG.p ?_; try intro b)) | ((with_reducible refine SC.p ?_); refine And.intro ?_ ?_) <;> intro hc <;> try simp only [push_cast, Int.reduceEq, Int.reduceLT, Int.reduceLE, Int.reduceNe] at hc | with_reducible refine r_rq (by first | decide | omega) ?_ | ((with_reducible refine SL.p ?_); first | refine ⟨_, rfl, ?_⟩ | refine ⟨_, _, _, rfl, ?_⟩ | (refine ⟨?_, rfl, ?_⟩; focus (simp; done))) | ((with_reducible first | apply i_ldn | apply i_ldnq); exact rfl; exact rfl; exact rfl) | ((try with_reducible refine d_reg ?_); simp only [go_sem, Nat.reduceAdd, Nat.reduceEqDiff, Int.reduceToNat, Nat.reduceMul, Nat.reduceSub]) | clear hK K)
  (with_reducible first | apply i_ret0 | apply i_ret2 | apply i_ret3 | apply i_ret); exact rfl
  rfl
def Lg.off (G : Lg) : Int := if G.dead then 9 else 0
theorem g75 (G : Lg) (sb : Nat) : Fp eI Tryz.prog 75 #[G.p] [lgp G sb] G.off := fun L => by
  unfold Lg.off
  refine c75_fn rfl rfl ?_
  repeat' ((fail_if_success with_reducible refine nph ?_); first | (with_reducible first | (refine d_seq ?_; intro K hK) | (refine hK _ _ ?_; clear hK K) | (refine SG.p ?_; try intro b)) | ((with_reducible refine SC.p ?_); refine And.intro ?_ ?_) <;> intro hc <;> try simp only [push_cast, Int.reduceEq, Int.reduceLT, Int.reduceLE, Int.reduceNe] at hc | with_reducible refine r_rq (by first | decide | omega) ?_ | ((with_reducible refine SL.p ?_); first | refine ⟨_, rfl, ?_⟩ | refine ⟨_, _, _, rfl, ?_⟩ | (refine ⟨?_, rfl, ?_⟩; focus (simp; done))) | ((with_reducible first | apply i_ldn | apply i_ldnq); exact rfl; exact rfl; exact rfl) | ((try with_reducible refine d_reg ?_); simp only [go_sem, Nat.reduceAdd, Nat.reduceEqDiff, Int.reduceToNat, Nat.reduceMul, Nat.reduceSub]) | clear hK K)
  refine i_clp (g83 G sb) ?_
  repeat' ((fail_if_success with_reducible refine nph ?_); first | (with_reducible first | (refine d_seq ?_; intro K hK) | (refine hK _ _ ?_; clear hK K) | (refine SG.p ?_; try intro b)) | ((with_reducible refine SC.p ?_); refine And.intro ?_ ?_) <;> intro hc <;> try simp only [push_cast, Int.reduceEq, Int.reduceLT, Int.reduceLE, Int.reduceNe] at hc | with_reducible refine r_rq (by first | decide | omega) ?_ | ((with_reducible refine SL.p ?_); first | refine ⟨_, rfl, ?_⟩ | refine ⟨_, _, _, rfl, ?_⟩ | (refine ⟨?_, rfl, ?_⟩; focus (simp; done))) | ((with_reducible first | apply i_ldn | apply i_ldnq); exact rfl; exact rfl; exact rfl) | ((try with_reducible refine d_reg ?_); simp only [go_sem, Nat.reduceAdd, Nat.reduceEqDiff, Int.reduceToNat, Nat.reduceMul, Nat.reduceSub]) | clear hK K)
  all_goals try contradiction
  · (with_reducible first | apply i_ret0 | apply i_ret2 | apply i_ret3 | apply i_ret); exact rfl
    rw [if_pos (by assumption)]
  · (with_reducible first | apply i_ret0 | apply i_ret2 | apply i_ret3 | apply i_ret); exact rfl
    rw [if_neg (by simpa using hc)]
def Lg.down (G : Lg) (e : Int) : Lg := if e = 0 then G else { G with dead := true }
theorem g78 (G : Lg) (sb : Nat) (e : Int) : Fq eI Tryz.prog 78 #[G.p, .int .i64 e] [lgp G sb] [lgp (G.down e) sb] e := fun L => by
  unfold Lg.down
  refine c78_fn rfl rfl ?_
  by_cases he : e = 0
  · rw [if_pos he]
    repeat' ((fail_if_success with_reducible refine nph ?_); first | (with_reducible first | (refine d_seq ?_; intro K hK) | (refine hK _ _ ?_; clear hK K) | (refine SG.p ?_; try intro b)) | ((with_reducible refine SC.p ?_); refine And.intro ?_ ?_) <;> intro hc <;> try simp only [push_cast, Int.reduceEq, Int.reduceLT, Int.reduceLE, Int.reduceNe] at hc | with_reducible refine r_rq (by first | decide | omega) ?_ | ((with_reducible refine SL.p ?_); first | refine ⟨_, rfl, ?_⟩ | refine ⟨_, _, _, rfl, ?_⟩ | (refine ⟨?_, rfl, ?_⟩; focus (simp; done))) | ((with_reducible first | apply i_ldn | apply i_ldnq); exact rfl; exact rfl; exact rfl) | ((try with_reducible refine d_reg ?_); simp only [go_sem, Nat.reduceAdd, Nat.reduceEqDiff, Int.reduceToNat, Nat.reduceMul, Nat.reduceSub]) | clear hK K)
    all_goals try (first | contradiction | (simp only [ reduceCtorEq] at *; done) | (exfalso; omega))
    (with_reducible first | apply i_ret0 | apply i_ret2 | apply i_ret3 | apply i_ret); exact rfl
    rfl
  · rw [if_neg he]
    repeat' ((fail_if_success with_reducible refine nph ?_); first | (with_reducible first | (refine d_seq ?_; intro K hK) | (refine hK _ _ ?_; clear hK K) | (refine SG.p ?_; try intro b)) | ((with_reducible refine SC.p ?_); refine And.intro ?_ ?_) <;> intro hc <;> try simp only [push_cast, Int.reduceEq, Int.reduceLT, Int.reduceLE, Int.reduceNe] at hc | with_reducible refine r_rq (by first | decide | omega) ?_ | ((with_reducible refine SL.p ?_); first | refine ⟨_, rfl, ?_⟩ | refine ⟨_, _, _, rfl, ?_⟩ | (refine ⟨?_, rfl, ?_⟩; focus (simp; done))) | ((with_reducible first | apply i_ldn | apply i_ldnq); exact rfl; exact rfl; exact rfl) | ((try with_reducible refine d_reg ?_); simp only [go_sem, Nat.reduceAdd, Nat.reduceEqDiff, Int.reduceToNat, Nat.reduceMul, Nat.reduceSub]) | clear hK K)
    all_goals try (first | contradiction | (simp only [ reduceCtorEq] at *; done) | (exfalso; omega))
    (with_reducible first | apply i_ret0 | apply i_ret2 | apply i_ret3 | apply i_ret); exact rfl
    rfl
theorem g28 (G : Lg) (sb : Nat) (h : G.all.length ≤ 1000000) : Fp eI Tryz.prog 28 #[G.p] [lgp G sb] ((G.all.length + 1 : Nat) : Int) := fun L => by
  refine c28_fn rfl rfl ?_
  repeat' ((fail_if_success with_reducible refine nph ?_); first | (with_reducible first | (refine d_seq ?_; intro K hK) | (refine hK _ _ ?_; clear hK K) | (refine SG.p ?_; try intro b)) | ((with_reducible refine SC.p ?_); refine And.intro ?_ ?_) <;> intro hc <;> try simp only [push_cast, Int.reduceEq, Int.reduceLT, Int.reduceLE, Int.reduceNe] at hc | with_reducible refine r_rq (by first | decide | omega) ?_ | ((with_reducible refine SL.p ?_); first | refine ⟨_, rfl, ?_⟩ | refine ⟨_, _, _, rfl, ?_⟩ | (refine ⟨?_, rfl, ?_⟩; focus (simp; done))) | ((with_reducible first | apply i_ldn | apply i_ldnq); exact rfl; exact rfl; exact rfl) | ((try with_reducible refine d_reg ?_); simp only [go_sem, Nat.reduceAdd, Nat.reduceEqDiff, Int.reduceToNat, Nat.reduceMul, Nat.reduceSub]) | clear hK K)
  refine i_clp (g83 G sb) ?_
  repeat' (first | (with_reducible first | (refine d_seq ?_; intro K hK) | (refine hK _ _ ?_; clear hK K) | (refine SG.p ?_; try intro b)) | ((with_reducible refine SC.p ?_); refine And.intro ?_ ?_) <;> intro hc <;> try simp only [push_cast, Int.reduceEq, Int.reduceLT, Int.reduceLE, Int.reduceNe] at hc | with_reducible refine r_rq (by first | decide | omega) ?_ | ((with_reducible refine SL.p ?_); first | refine ⟨_, rfl, ?_⟩ | refine ⟨_, _, _, rfl, ?_⟩ | (refine ⟨?_, rfl, ?_⟩; focus (simp; done))) | ((with_reducible first | apply i_ldn | apply i_ldnq); exact rfl; exact rfl; exact rfl) | ((try with_reducible refine d_reg ?_); simp only [go_sem, Nat.reduceAdd, Nat.reduceEqDiff, Int.reduceToNat, Nat.reduceMul, Nat.reduceSub]) | clear hK K)
  (with_reducible first | apply i_ret0 | apply i_ret2 | apply i_ret3 | apply i_ret); exact rfl
  rw [w64 (by omega) (by omega)]
  rfl
theorem g29 (G : Lg) (sb : Nat) (h : G.durable ≤ 1000000) : Fp eI Tryz.prog 29 #[G.p] [lgp G sb] ((G.durable + 1 : Nat) : Int) := fun L => by
  refine c29_fn rfl rfl ?_
  repeat' ((fail_if_success with_reducible refine nph ?_); first | (with_reducible first | (refine d_seq ?_; intro K hK) | (refine hK _ _ ?_; clear hK K) | (refine SG.p ?_; try intro b)) | ((with_reducible refine SC.p ?_); refine And.intro ?_ ?_) <;> intro hc <;> try simp only [push_cast, Int.reduceEq, Int.reduceLT, Int.reduceLE, Int.reduceNe] at hc | with_reducible refine r_rq (by first | decide | omega) ?_ | ((with_reducible refine SL.p ?_); first | refine ⟨_, rfl, ?_⟩ | refine ⟨_, _, _, rfl, ?_⟩ | (refine ⟨?_, rfl, ?_⟩; focus (simp; done))) | ((with_reducible first | apply i_ldn | apply i_ldnq); exact rfl; exact rfl; exact rfl) | ((try with_reducible refine d_reg ?_); simp only [go_sem, Nat.reduceAdd, Nat.reduceEqDiff, Int.reduceToNat, Nat.reduceMul, Nat.reduceSub]) | clear hK K)
  refine i_clp (g83 G sb) ?_
  repeat' (first | (with_reducible first | (refine d_seq ?_; intro K hK) | (refine hK _ _ ?_; clear hK K) | (refine SG.p ?_; try intro b)) | ((with_reducible refine SC.p ?_); refine And.intro ?_ ?_) <;> intro hc <;> try simp only [push_cast, Int.reduceEq, Int.reduceLT, Int.reduceLE, Int.reduceNe] at hc | with_reducible refine r_rq (by first | decide | omega) ?_ | ((with_reducible refine SL.p ?_); first | refine ⟨_, rfl, ?_⟩ | refine ⟨_, _, _, rfl, ?_⟩ | (refine ⟨?_, rfl, ?_⟩; focus (simp; done))) | ((with_reducible first | apply i_ldn | apply i_ldnq); exact rfl; exact rfl; exact rfl) | ((try with_reducible refine d_reg ?_); simp only [go_sem, Nat.reduceAdd, Nat.reduceEqDiff, Int.reduceToNat, Nat.reduceMul, Nat.reduceSub]) | clear hK K)
  (with_reducible first | apply i_ret0 | apply i_ret2 | apply i_ret3 | apply i_ret); exact rfl
  rw [w64 (by omega) (by omega)]
  rfl
theorem g30 (G : Lg) (sb : Nat) (h : G.all.length ≤ 58 * G.sectors) (h2 : G.sectors ≤ 8192) : Fp eI Tryz.prog 30 #[G.p] [lgp G sb] ((58 * G.sectors - G.all.length : Nat) : Int) := fun L => by
  refine c30_fn rfl rfl ?_
  repeat' ((fail_if_success with_reducible refine nph ?_); first | (with_reducible first | (refine d_seq ?_; intro K hK) | (refine hK _ _ ?_; clear hK K) | (refine SG.p ?_; try intro b)) | ((with_reducible refine SC.p ?_); refine And.intro ?_ ?_) <;> intro hc <;> try simp only [push_cast, Int.reduceEq, Int.reduceLT, Int.reduceLE, Int.reduceNe] at hc | with_reducible refine r_rq (by first | decide | omega) ?_ | ((with_reducible refine SL.p ?_); first | refine ⟨_, rfl, ?_⟩ | refine ⟨_, _, _, rfl, ?_⟩ | (refine ⟨?_, rfl, ?_⟩; focus (simp; done))) | ((with_reducible first | apply i_ldn | apply i_ldnq); exact rfl; exact rfl; exact rfl) | ((try with_reducible refine d_reg ?_); simp only [go_sem, Nat.reduceAdd, Nat.reduceEqDiff, Int.reduceToNat, Nat.reduceMul, Nat.reduceSub]) | clear hK K)
  refine i_clp (g83 G sb) ?_
  repeat' (first | (with_reducible first | (refine d_seq ?_; intro K hK) | (refine hK _ _ ?_; clear hK K) | (refine SG.p ?_; try intro b)) | ((with_reducible refine SC.p ?_); refine And.intro ?_ ?_) <;> intro hc <;> try simp only [push_cast, Int.reduceEq, Int.reduceLT, Int.reduceLE, Int.reduceNe] at hc | with_reducible refine r_rq (by first | decide | omega) ?_ | ((with_reducible refine SL.p ?_); first | refine ⟨_, rfl, ?_⟩ | refine ⟨_, _, _, rfl, ?_⟩ | (refine ⟨?_, rfl, ?_⟩; focus (simp; done))) | ((with_reducible first | apply i_ldn | apply i_ldnq); exact rfl; exact rfl; exact rfl) | ((try with_reducible refine d_reg ?_); simp only [go_sem, Nat.reduceAdd, Nat.reduceEqDiff, Int.reduceToNat, Nat.reduceMul, Nat.reduceSub]) | clear hK K)
  (with_reducible first | apply i_ret0 | apply i_ret2 | apply i_ret3 | apply i_ret); exact rfl
  rw [w64 (n := (G.sectors : Int) * 58) (by omega) (by omega), w64 (by omega) (by omega)]
  show ((G.sectors : Int) * 58 - (G.all.length : Int)) = ((58 * G.sectors - G.all.length : Nat) : Int)
  omega
def lchk (n : Nat) (base sectors run : Int) : Int := if base < 0 ∨ sectors < 1 ∨ run < 1 ∨ 4294967296 ≤ run then 1 else if (n : Int) < base ∨ (n : Int) - base < sectors then 6 else 0
theorem g67 (Z : Dk) (h : Z.ok) (base sectors run : Int) (hb : wf64 base) : Fp eI Tryz.prog 67 #[.pointer (some ⟨Z.sb, 0, none⟩), .int .i64 base, .int .i64 sectors, .int .i64 run] [dk Z] (lchk Z.sure.length base sectors run) := fun L => by
  have F := F26 Z h
  have hn := h.n1
  unfold wf64 at hb
  unfold lchk
  simp only [Dk.p] at F
  refine c67_fn rfl rfl ?_
  by_cases h1 : base < 0 ∨ sectors < 1 ∨ run < 1 ∨ 4294967296 ≤ run
  · rw [if_pos h1]
    repeat' ((fail_if_success with_reducible refine nph ?_); first | (with_reducible first | (refine d_seq ?_; intro K hK) | (refine hK _ _ ?_; clear hK K) | (refine SG.p ?_; try intro b)) | ((with_reducible refine SC.p ?_); refine And.intro ?_ ?_) <;> intro hc <;> try simp only [push_cast, Int.reduceEq, Int.reduceLT, Int.reduceLE, Int.reduceNe] at hc | with_reducible refine r_rq (by first | decide | omega) ?_ | ((with_reducible refine SL.p ?_); first | refine ⟨_, rfl, ?_⟩ | refine ⟨_, _, _, rfl, ?_⟩ | (refine ⟨?_, rfl, ?_⟩; focus (simp; done))) | ((with_reducible first | apply i_ldn | apply i_ldnq); exact rfl; exact rfl; exact rfl) | ((try with_reducible refine d_reg ?_); simp only [go_sem, Nat.reduceAdd, Nat.reduceEqDiff, Int.reduceToNat, Nat.reduceMul, Nat.reduceSub]) | clear hK K)
    all_goals try (exfalso; omega)
    all_goals first | contradiction | ((with_reducible first | apply i_ret0 | apply i_ret2 | apply i_ret3 | apply i_ret); exact rfl; rfl)
  · rw [if_neg h1]
    by_cases h2 : (Z.sure.length : Int) < base ∨ (Z.sure.length : Int) - base < sectors
    · rw [if_pos h2]
      repeat' ((fail_if_success with_reducible refine nph ?_); first | (with_reducible first | (refine d_seq ?_; intro K hK) | (refine hK _ _ ?_; clear hK K) | (refine SG.p ?_; try intro b)) | ((with_reducible refine SC.p ?_); refine And.intro ?_ ?_) <;> intro hc <;> try simp only [push_cast, Int.reduceEq, Int.reduceLT, Int.reduceLE, Int.reduceNe] at hc | with_reducible refine r_rq (by first | decide | omega) ?_ | ((with_reducible refine SL.p ?_); first | refine ⟨_, rfl, ?_⟩ | refine ⟨_, _, _, rfl, ?_⟩ | (refine ⟨?_, rfl, ?_⟩; focus (simp; done))) | ((with_reducible first | apply i_ldn | apply i_ldnq); exact rfl; exact rfl; exact rfl) | ((try with_reducible refine d_reg ?_); simp only [go_sem, Nat.reduceAdd, Nat.reduceEqDiff, Int.reduceToNat, Nat.reduceMul, Nat.reduceSub]) | clear hK K)
      all_goals try (exfalso; omega)
      all_goals try contradiction
      refine i_clp F ?_
      repeat' ((fail_if_success with_reducible refine nph ?_); first | (with_reducible first | (refine d_seq ?_; intro K hK) | (refine hK _ _ ?_; clear hK K) | (refine SG.p ?_; try intro b)) | ((with_reducible refine SC.p ?_); refine And.intro ?_ ?_) <;> intro hc <;> try simp only [push_cast, Int.reduceEq, Int.reduceLT, Int.reduceLE, Int.reduceNe] at hc | with_reducible refine r_rq (by first | decide | omega) ?_ | ((with_reducible refine SL.p ?_); first | refine ⟨_, rfl, ?_⟩ | refine ⟨_, _, _, rfl, ?_⟩ | (refine ⟨?_, rfl, ?_⟩; focus (simp; done))) | ((with_reducible first | apply i_ldn | apply i_ldnq); exact rfl; exact rfl; exact rfl) | ((try with_reducible refine d_reg ?_); simp only [go_sem, Nat.reduceAdd, Nat.reduceEqDiff, Int.reduceToNat, Nat.reduceMul, Nat.reduceSub]) | clear hK K)
      all_goals try (exfalso; omega)
      · (with_reducible first | apply i_ret0 | apply i_ret2 | apply i_ret3 | apply i_ret); exact rfl
        rfl
      · refine i_clp F ?_
        rw [w64 (by omega) (by omega)]
        repeat' ((fail_if_success with_reducible refine nph ?_); first | (with_reducible first | (refine d_seq ?_; intro K hK) | (refine hK _ _ ?_; clear hK K) | (refine SG.p ?_; try intro b)) | ((with_reducible refine SC.p ?_); refine And.intro ?_ ?_) <;> intro hc <;> try simp only [push_cast, Int.reduceEq, Int.reduceLT, Int.reduceLE, Int.reduceNe] at hc | with_reducible refine r_rq (by first | decide | omega) ?_ | ((with_reducible refine SL.p ?_); first | refine ⟨_, rfl, ?_⟩ | refine ⟨_, _, _, rfl, ?_⟩ | (refine ⟨?_, rfl, ?_⟩; focus (simp; done))) | ((with_reducible first | apply i_ldn | apply i_ldnq); exact rfl; exact rfl; exact rfl) | ((try with_reducible refine d_reg ?_); simp only [go_sem, Nat.reduceAdd, Nat.reduceEqDiff, Int.reduceToNat, Nat.reduceMul, Nat.reduceSub]) | clear hK K)
        all_goals try (exfalso; omega)
        (with_reducible first | apply i_ret0 | apply i_ret2 | apply i_ret3 | apply i_ret); exact rfl
        rfl
    · rw [if_neg h2]
      repeat' ((fail_if_success with_reducible refine nph ?_); first | (with_reducible first | (refine d_seq ?_; intro K hK) | (refine hK _ _ ?_; clear hK K) | (refine SG.p ?_; try intro b)) | ((with_reducible refine SC.p ?_); refine And.intro ?_ ?_) <;> intro hc <;> try simp only [push_cast, Int.reduceEq, Int.reduceLT, Int.reduceLE, Int.reduceNe] at hc | with_reducible refine r_rq (by first | decide | omega) ?_ | ((with_reducible refine SL.p ?_); first | refine ⟨_, rfl, ?_⟩ | refine ⟨_, _, _, rfl, ?_⟩ | (refine ⟨?_, rfl, ?_⟩; focus (simp; done))) | ((with_reducible first | apply i_ldn | apply i_ldnq); exact rfl; exact rfl; exact rfl) | ((try with_reducible refine d_reg ?_); simp only [go_sem, Nat.reduceAdd, Nat.reduceEqDiff, Int.reduceToNat, Nat.reduceMul, Nat.reduceSub]) | clear hK K)
      all_goals try (exfalso; omega)
      all_goals try contradiction
      refine i_clp F ?_
      repeat' ((fail_if_success with_reducible refine nph ?_); first | (with_reducible first | (refine d_seq ?_; intro K hK) | (refine hK _ _ ?_; clear hK K) | (refine SG.p ?_; try intro b)) | ((with_reducible refine SC.p ?_); refine And.intro ?_ ?_) <;> intro hc <;> try simp only [push_cast, Int.reduceEq, Int.reduceLT, Int.reduceLE, Int.reduceNe] at hc | with_reducible refine r_rq (by first | decide | omega) ?_ | ((with_reducible refine SL.p ?_); first | refine ⟨_, rfl, ?_⟩ | refine ⟨_, _, _, rfl, ?_⟩ | (refine ⟨?_, rfl, ?_⟩; focus (simp; done))) | ((with_reducible first | apply i_ldn | apply i_ldnq); exact rfl; exact rfl; exact rfl) | ((try with_reducible refine d_reg ?_); simp only [go_sem, Nat.reduceAdd, Nat.reduceEqDiff, Int.reduceToNat, Nat.reduceMul, Nat.reduceSub]) | clear hK K)
      all_goals try (exfalso; omega)
      refine i_clp F ?_
      rw [w64 (by omega) (by omega)]
      repeat' ((fail_if_success with_reducible refine nph ?_); first | (with_reducible first | (refine d_seq ?_; intro K hK) | (refine hK _ _ ?_; clear hK K) | (refine SG.p ?_; try intro b)) | ((with_reducible refine SC.p ?_); refine And.intro ?_ ?_) <;> intro hc <;> try simp only [push_cast, Int.reduceEq, Int.reduceLT, Int.reduceLE, Int.reduceNe] at hc | with_reducible refine r_rq (by first | decide | omega) ?_ | ((with_reducible refine SL.p ?_); first | refine ⟨_, rfl, ?_⟩ | refine ⟨_, _, _, rfl, ?_⟩ | (refine ⟨?_, rfl, ?_⟩; focus (simp; done))) | ((with_reducible first | apply i_ldn | apply i_ldnq); exact rfl; exact rfl; exact rfl) | ((try with_reducible refine d_reg ?_); simp only [go_sem, Nat.reduceAdd, Nat.reduceEqDiff, Int.reduceToNat, Nat.reduceMul, Nat.reduceSub]) | clear hK K)
      all_goals try (exfalso; omega)
      (with_reducible first | apply i_ret0 | apply i_ret2 | apply i_ret3 | apply i_ret); exact rfl
      rfl
/-- How many bytes from a place on are whole records. -/
def whl (s : List UInt8) : Nat → Nat → Nat
  | 0, a => a
  | k + 1, a => if (opn s (a : Int)).2.2 = 0 then whl s k (a + (opn s (a : Int)).2.1.toNat) else a
def whole (s : List UInt8) : Nat := whl s (s.length + 1) 0
end Go.Sp
/- A contract that keeps what lies below a block: the kit's strings.Builder over parts that lie below it. -/
namespace Go.Sp
open Go
/-- Just this. -/
def ex (h0 : PH) : HP := fun h => h = h0
def dm (b : Nat) (h : PH) : Prop := ∀ n, b < n → h n = none
def lo (b : Nat) (h : PH) : PH := fun n => if n ≤ b then h n else none
/-- What lies below a block tells the part. -/
def Low (b : Nat) (A : HP) : Prop := ∀ h, A h → A (lo b h)
theorem lo_mono {b : Nat} {a h : PH} (s : sub a h) : sub (lo b a) (lo b h) := fun n o e => by
  unfold lo at e ⊢
  split at e
  · rename_i hn
    rw [if_pos hn]
    exact s n o e
  · cases e
theorem Low.blk {b c : Nat} {o : Obj} (h : c < b) : Low b (blk c o) := fun x hx => by
  show lo b x (c + 1) = _
  unfold lo
  rw [if_pos (by omega)]
  exact hx
theorem Low.ex {b : Nat} {h0 : PH} (h : dm b h0) : Low b (ex h0) := fun x hx => by
  subst hx
  funext n
  unfold lo
  split
  · rfl
  · rename_i hn
    exact (h n (by omega)).symm
theorem Low.HS {b : Nat} : ∀ {L : List HP}, (∀ A ∈ L, Low b A) → ∀ h, HS L h → HS L (lo b h)
  | [], _, _, _ => trivial
  | A :: L, hl, h, ⟨x, y, d, sx, sy, px, py⟩ => by
    refine ⟨lo b x, lo b y, fun n => ?_, lo_mono sx, lo_mono sy, hl A (by simp) x px, Low.HS (fun B hB => hl B (by simp [hB])) y py⟩
    unfold lo
    split
    · exact d n
    · exact .inl rfl
theorem Low.fold {b : Nat} {L : List HP} (h : ∀ A ∈ L, Low b A) : Low b (Sp.HS L) := Low.HS h
/-- The frame may be taken as it is. -/
theorem HS.ex {L : List HP} : ∀ {A : List HP} {h : PH}, HS (A ++ L) h → ∃ h0, HS L h0 ∧ HS (A ++ [Sp.ex h0]) h
  | [], h, x => ⟨h, x, h, fun _ => none, fun _ => .inr rfl, sub.refl _, sub.none _, rfl, trivial⟩
  | B :: A, h, ⟨x, y, d, sx, sy, px, py⟩ => by
    obtain ⟨h0, h1, h2⟩ := HS.ex (A := A) py
    exact ⟨h0, h1, x, y, d, sx, sy, px, h2⟩
theorem HS.unex {L : List HP} {h0 : PH} (hL : HS L h0) : ∀ {A : List HP} {h : PH}, HS (A ++ [Sp.ex h0]) h → HS (A ++ L) h
  | [], h, ⟨x, y, d, sx, sy, px, py⟩ => by
    have e : x = h0 := px
    subst e
    exact HS.mono hL sx
  | B :: A, h, ⟨x, y, d, sx, sy, px, py⟩ => ⟨x, y, d, sx, sy, px, HS.unex hL py⟩
theorem Fn.ex {e : Enc} {P : Program} {f : FuncId} {args : Array Value} {A : List HP} {B : e.α → List HP → Prop} (h : ∀ h0, E (A ++ [Sp.ex h0]) (cal e P f args fun x w => ∃ X, B x X ∧ Holds w (X ++ [Sp.ex h0]))) : Fn e P f args A B := fun L w hw => by
  obtain ⟨h0, h1, h2⟩ := HS.ex hw
  refine (h h0 w h2).mono ?_
  rintro _ w' ⟨x, he, X, hB, hX⟩
  exact ⟨x, he, X, hB, HS.unex h1 hX⟩
/-- A new block lies behind all that is there. -/
theorem HS.dom {b : Nat} : ∀ {L : List HP} {h : PH}, HS L h → dm b h → ∀ X ∈ L, ∃ a, X a ∧ dm b a
  | A :: L, h, ⟨x, y, d, sx, sy, px, py⟩, hd, X, hX => by
    have dx : dm b x := fun n hn => by
      cases hx : x n with
      | none => rfl
      | some o => exact absurd (sx n o hx) (by simp [hd n hn])
    have dy : dm b y := fun n hn => by
      cases hy : y n with
      | none => rfl
      | some o => exact absurd (sy n o hy) (by simp [hd n hn])
    rcases List.mem_cons.1 hX with rfl | hX
    · exact ⟨x, px, dx⟩
    · exact HS.dom py dy X hX
theorem r_nwcD {L : List HP} {k : Addr → W} {l : List Value} {t : TypeId} (h : ∀ b, (∀ X ∈ L, ∃ a, X a ∧ dm b a) → E (ar b t l :: L) (k ⟨b, 0, none⟩)) : E L (nwc l.toArray t k) := fun w hw => by
  refine h w.heap.size (HS.dom hw fun n hn => ?_) _ (Holds.push hw (.cells ⟨l⟩ t (0, 0)) rfl)
  cases n with
  | zero => omega
  | succ n => rw [hp_s, Array.getElem?_eq_none (by omega)]; rfl
theorem dm_blk {b c : Nat} {o : Obj} {a : PH} (h : blk c o a) (hd : dm b a) : c < b := by
  rcases Nat.lt_or_ge b (c + 1) with h1 | h1
  · have := hd (c + 1) h1
    rw [show a (c + 1) = some (.inl o) from h] at this
    cases this
  · omega
/-! ### The builder -/
abbrev bld (b T e : TypeId) (p : Option Addr) (s : SlV) (bs : List Value) : List HP := [ar b T [.pointer p, .slice s.1 s.2.1 s.2.2], ow e 1 s bs]
section
variable {T e : TypeId} {b : Nat} {p : Option Addr} {s : SlV} {bs : List Value} {L : List HP} {w w' : World}
theorem bld_is (hp : p = none ∨ p = some ⟨b, 0, none⟩) (hs : ∀ g, s.1 = some g → b < g.block) (h : Holds w (bld b T e p s bs ++ L)) : Lib.IsBuilder T e b b bs w := by
  have h1 : Holds w (ar b T [.pointer p, .slice s.1 s.2.1 s.2.2] :: (ow e 1 s bs :: L)) := h
  have h2 : Holds w (ow e 1 s bs :: L) := HS.tl h1
  have hg := Holds.get h1
  have ho := ow_world h2 b (fun g hg => by have := hs g hg; omega)
  have hl : bs.length = s.2.1 := by have := ho.1; omega
  have hA : Lib.BuilderAt T e b b (.pointer p) bs w := by
    refine ⟨Nat.le_refl _, _, hg, ?_, ?_⟩
    · rw [hl]; exact ho
    · obtain ⟨q, n, c⟩ := s
      cases q with
      | none => simp [Value.ownBlock]
      | some g =>
        have := hs g rfl
        simp only [Value.ownBlock, ne_eq, Option.some.injEq]
        omega
  rcases hp with rfl | rfl
  · exact .inl hA
  · exact .inr hA
theorem bld_of (hL : ∀ A ∈ L, Low b A) (h : Holds w (bld b T e p s bs ++ L)) {bs' : List Value} (hb : Lib.BuilderAt T e b b (.pointer (some ⟨b, 0, none⟩)) bs' w') (hbe : RowKit.Below b w w') :
    ∃ s' : SlV, (∀ g, s'.1 = some g → b < g.block) ∧ Holds w' (bld b T e (some ⟨b, 0, none⟩) s' bs' ++ L) := by
  obtain ⟨x, y, d, sx, sy, px, x2, y2, d2, sx2, sy2, px2, hr⟩ := h
  have hrl := Low.HS hL y2 hr
  have srl : sub (lo b y2) (Sp.hp w') := fun n o hn => by
    unfold lo at hn
    split at hn
    · rename_i hnb
      have h1 := sy n o (sy2 n o hn)
      cases n with
      | zero => simpa [Sp.hp, hbe.os, hbe.output, hbe.tape] using h1
      | succ n =>
        rw [hp_s] at h1 ⊢
        rw [hbe.block n (by omega)]
        exact h1
    · cases hn
  obtain ⟨_, v, hv, hown, hne⟩ := hb
  obtain ⟨ho1, ho2⟩ := hown
  rcases ho2 with ⟨rfl, hn0⟩ | ⟨g, cap, cur, rfl, hbg, hgc, hn, hm, hcs, ht⟩
  · have : bs' = [] := List.eq_nil_of_length_eq_zero (by omega)
    subst this
    refine ⟨(none, 0, 0), ⟨fun g hg => (by cases hg), ?_⟩⟩
    refine ⟨fun n => if n = b + 1 then some (.inl (.cells ⟨[.pointer (some ⟨b, 0, none⟩), .slice none 0 0]⟩ T (0, 0))) else none, lo b y2, fun n => ?_, ?_, srl, by show (if b + 1 = b + 1 then _ else _) = _; rw [if_pos rfl], ?_⟩
    · by_cases hnb : n = b + 1
      · right; unfold lo; rw [if_neg (by omega)]
      · left; dsimp only; rw [if_neg hnb]
    · intro n o hn
      dsimp only at hn
      split at hn
      · rename_i hnb
        subst hnb
        simp only [Option.some.injEq] at hn
        subst hn
        exact hp_o.2 hv
      · cases hn
    · exact ⟨fun _ => none, lo b y2, fun _ => .inl rfl, sub.none _, sub.refl _, ow_nil _ _ _, hrl⟩
  · have hgb : g ≠ b := fun h => hne (by simp [Value.ownBlock, h])
    refine ⟨(some ⟨g, 0, none⟩, bs'.length, cap), fun g' hg' => by simp only [Option.some.injEq] at hg'; subst hg'; show b < g; omega, ?_⟩
    refine ⟨fun n => if n = b + 1 then some (.inl (.cells ⟨[.pointer (some ⟨b, 0, none⟩), .slice (some ⟨g, 0, none⟩) bs'.length cap]⟩ T (0, 0))) else none, fun n => if n = g + 1 then some (.inl (.cells cur e (0, 0))) else lo b y2 n, fun n => ?_, ?_, ?_, by show (if b + 1 = b + 1 then _ else _) = _; rw [if_pos rfl], ?_⟩
    · by_cases hnb : n = b + 1
      · right; dsimp only; rw [if_neg (by omega)]; unfold lo; rw [if_neg (by omega)]
      · left; dsimp only; rw [if_neg hnb]
    · intro n o hn
      dsimp only at hn
      split at hn
      · rename_i hnb
        subst hnb
        simp only [Option.some.injEq] at hn
        subst hn
        exact hp_o.2 hv
      · cases hn
    · intro n o hn
      dsimp only at hn
      split at hn
      · rename_i hnb
        subst hnb
        simp only [Option.some.injEq] at hn
        subst hn
        exact hp_o.2 hgc
      · exact srl n o hn
    · refine ⟨fun n => if n = g + 1 then some (.inl (.cells cur e (0, 0))) else none, lo b y2, fun n => ?_, ?_, ?_, ⟨by simp, .inr ⟨g, cap, cur, rfl, by simp, hn, hm, by simpa using hcs, by simpa using ht⟩⟩, hrl⟩
      · by_cases hng : n = g + 1
        · right; unfold lo; rw [if_neg (by omega)]
        · left; dsimp only; rw [if_neg hng]
      · intro n o hn
        dsimp only at hn ⊢
        split at hn
        · rename_i hng
          rw [if_pos hng]; exact hn
        · cases hn
      · intro n o hn
        dsimp only
        by_cases hng : n = g + 1
        · subst hng
          unfold lo at hn
          rw [if_neg (by omega)] at hn
          cases hn
        · rw [if_neg hng]; exact hn
end
end Go.Sp
/- What each region of the Go functions does. Written by my own generator. -/
namespace Go.Sp
open Go
set_option maxRecDepth 100000
set_option linter.unusedVariables false
open Go.Proofs
/-! (*gharry.store.Store).Is -/
noncomputable def c51 : Cfg := { P := Tryz.prog, n := 24, T := TT, body := (Tryz.f51.body).getD .skip, res := Tryz.f51.results.toList, li := lk [] [(0, [0, 1, 2]), (1, [0, 1, 2]), (2, [2, 8, 9])], lo := lk [] [(0, [0, 1, 2]), (1, [2, 8, 9]), (2, [6]), (1000000, [6])], ord := lk (false, []) [] }
@[go_sem] theorem c51_i0 : c51.li 0 = [0, 1, 2] := rfl
@[go_sem] theorem c51_i1 : c51.li 1 = [0, 1, 2] := rfl
@[go_sem] theorem c51_i2 : c51.li 2 = [2, 8, 9] := rfl
@[go_sem] theorem c51_r0 (s0 : Option Addr) (id1 : Int) (lsn2 : Int) (K : Env → W) : RP c51 0 [(0, .pointer s0), (1, .int .i64 id1), (2, .int .i64 lsn2)] K =
    (K [(0, .pointer s0), (1, .int .i64 id1), (2, .int .i64 lsn2)]) := by kernel_rfl
@[go_sem] theorem c51_r1 (s0 : Option Addr) (id1 : Int) (lsn2 : Int) (K : Env → W) : RP c51 1 [(0, .pointer s0), (1, .int .i64 id1), (2, .int .i64 lsn2)] K =
    (cal (eT3 eS eI eI) Tryz.prog 65 #[.pointer s0, .int .i64 id1] fun (y1_ : ((List UInt8) × Int × Int)) => (K [(2, .int .i64 lsn2), (8, .int .i64 y1_.2.1), (9, .int .i64 y1_.2.2)])) := by kernel_rfl
@[go_sem] theorem c51_r2 (lsn2 : Int) (n8 : Int) (e9 : Int) (K : Env → W) : RP c51 2 [(2, .int .i64 lsn2), (8, .int .i64 n8), (9, .int .i64 e9)] K =
    (cnd ((e9 == (0 : Int))) (K [(6, .bool ((n8 == lsn2)))]) (K [(6, .bool false)])) := by kernel_rfl
@[go_sem] theorem c51_o : c51.lo 1000000 = [6] := rfl
@[go_sem] theorem c51_e (t6 : Bool) (k : Value → W) : RTp c51 [(6, .bool t6)] k = (k (.bool t6)) := by kernel_rfl
theorem c51_ok : (c51.P.follows .mixedOrders && okc c51 c51.body) = true := by kernel_rfl
theorem c51_fn {e : Enc} {args : Array Value} {G : e.α → W} {L : List HP} {ρ : Env} (hρ : envA 0 args.toList = ρ) (hs : Nat.ble args.size 24 = true) (h : E L (D c51 (.seq (.reg 0) (.seq (.reg 1) (.seq (.reg 2) (.ret)))) (fnQ c51 e G) ρ)) : E L (cal e Tryz.prog 51 args G) :=
  d_fn (c := c51) Tryz.func51 (by kernel_rfl) (by kernel_rfl) (by kernel_rfl) c51_ok (by kernel_rfl) (by kernel_rfl) hρ hs h
/-! (*gharry.store.Store).Read -/
noncomputable def c65 : Cfg := { P := Tryz.prog, n := 87, T := TT, body := (Tryz.f65.body).getD .skip, res := Tryz.f65.results.toList, li := lk [] [(0, [0, 1]), (1, [0, 1]), (2, [0, 1, 7]), (3, [7]), (4, [0, 1]), (5, [0, 1, 8, 9]), (6, [0, 1, 8, 9, 10, 11]), (7, [0, 1, 8, 9, 10, 11, 23]), (8, [0, 1, 8, 9, 10, 11, 23]), (9, [0, 1, 8, 9, 10, 11, 12, 23]), (10, [0, 1, 8, 9, 10, 11, 12, 13, 14, 23]), (11, [14]), (12, [0, 1, 8, 9, 10, 11, 12, 13, 23]), (13, [0, 1, 8, 10, 11, 13, 23]), (14, [0, 1, 8, 9, 10, 11, 13, 23]), (15, [0, 1, 8, 9, 10, 11, 13, 15, 23]), (16, [0, 1, 8, 9, 10, 11, 13, 23]), (17, [0, 1, 8, 9, 10, 11, 13, 23]), (18, [0, 1, 8, 9, 10, 11, 23]), (19, [8, 9, 10, 11]), (20, []), (21, [8, 9, 11]), (22, []), (23, [8, 9]), (24, [8, 16]), (25, [8, 16])], lo := lk [] [(0, [0, 1]), (1, [0, 1, 7]), (2, [0, 1, 7, 21]), (3, [4, 5, 6]), (4, [0, 1, 8, 9]), (5, [0, 1, 8, 9, 10, 11]), (6, [0, 1, 8, 9, 10, 11, 23]), (7, [0, 1, 8, 9, 10, 11, 23, 24]), (8, [0, 1, 8, 9, 10, 11, 12, 23]), (9, [0, 1, 8, 9, 10, 11, 12, 13, 14, 23]), (10, [0, 1, 8, 9, 10, 11, 12, 13, 14, 23, 44]), (11, [4, 5, 6]), (12, [0, 1, 8, 9, 10, 11, 13, 23, 47]), (13, [0, 1, 8, 9, 10, 11, 13, 23]), (14, [0, 1, 8, 9, 10, 11, 13, 15, 23]), (15, [0, 1, 8, 9, 10, 11, 13, 23]), (16, [0, 1, 8, 9, 10, 11, 13, 23]), (17, [0, 1, 8, 9, 10, 11, 23]), (18, [0, 1, 8, 9, 10, 11, 23]), (19, [8, 9, 11, 74]), (20, [4, 5, 6]), (21, [8, 9, 77]), (22, [4, 5, 6]), (23, [8, 16]), (24, [8, 16]), (25, [4, 5, 6]), (1000000, [4, 5, 6])], ord := lk (false, []) [(9, (true, [(0, 1), (1, 1), (2, 1), (3, 0), (4, 1), (5, 1), (6, 1), (7, 0), (8, 1), (9, 1), (10, 1), (11, 1), (12, 1), (13, 4), (14, 1), (15, 1), (16, 1), (17, 1), (18, 1)])), (15, (true, [(0, 1), (1, 1), (2, 1), (4, 1), (5, 1), (6, 1), (7, 0), (3, 2), (8, 1), (9, 1), (10, 1)]))] }
@[go_sem] theorem c65_i0 : c65.li 0 = [0, 1] := rfl
@[go_sem] theorem c65_i1 : c65.li 1 = [0, 1] := rfl
@[go_sem] theorem c65_i2 : c65.li 2 = [0, 1, 7] := rfl
@[go_sem] theorem c65_i3 : c65.li 3 = [7] := rfl
@[go_sem] theorem c65_i4 : c65.li 4 = [0, 1] := rfl
@[go_sem] theorem c65_i5 : c65.li 5 = [0, 1, 8, 9] := rfl
@[go_sem] theorem c65_i6 : c65.li 6 = [0, 1, 8, 9, 10, 11] := rfl
@[go_sem] theorem c65_i7 : c65.li 7 = [0, 1, 8, 9, 10, 11, 23] := rfl
@[go_sem] theorem c65_i8 : c65.li 8 = [0, 1, 8, 9, 10, 11, 23] := rfl
@[go_sem] theorem c65_i9 : c65.li 9 = [0, 1, 8, 9, 10, 11, 12, 23] := rfl
@[go_sem] theorem c65_i10 : c65.li 10 = [0, 1, 8, 9, 10, 11, 12, 13, 14, 23] := rfl
@[go_sem] theorem c65_i11 : c65.li 11 = [14] := rfl
@[go_sem] theorem c65_i12 : c65.li 12 = [0, 1, 8, 9, 10, 11, 12, 13, 23] := rfl
@[go_sem] theorem c65_i13 : c65.li 13 = [0, 1, 8, 10, 11, 13, 23] := rfl
@[go_sem] theorem c65_i14 : c65.li 14 = [0, 1, 8, 9, 10, 11, 13, 23] := rfl
@[go_sem] theorem c65_i15 : c65.li 15 = [0, 1, 8, 9, 10, 11, 13, 15, 23] := rfl
@[go_sem] theorem c65_i16 : c65.li 16 = [0, 1, 8, 9, 10, 11, 13, 23] := rfl
@[go_sem] theorem c65_i17 : c65.li 17 = [0, 1, 8, 9, 10, 11, 13, 23] := rfl
@[go_sem] theorem c65_i18 : c65.li 18 = [0, 1, 8, 9, 10, 11, 23] := rfl
@[go_sem] theorem c65_i19 : c65.li 19 = [8, 9, 10, 11] := rfl
@[go_sem] theorem c65_i20 : c65.li 20 = [] := rfl
@[go_sem] theorem c65_i21 : c65.li 21 = [8, 9, 11] := rfl
@[go_sem] theorem c65_i22 : c65.li 22 = [] := rfl
@[go_sem] theorem c65_i23 : c65.li 23 = [8, 9] := rfl
@[go_sem] theorem c65_i24 : c65.li 24 = [8, 16] := rfl
@[go_sem] theorem c65_i25 : c65.li 25 = [8, 16] := rfl
@[go_sem] theorem c65_r0 (s0 : Option Addr) (id1 : Int) (K : Env → W) : RP c65 0 [(0, .pointer s0), (1, .int .i64 id1)] K =
    (K [(0, .pointer s0), (1, .int .i64 id1)]) := by kernel_rfl
@[go_sem] theorem c65_r1 (s0 : Option Addr) (id1 : Int) (K : Env → W) : RP c65 1 [(0, .pointer s0), (1, .int .i64 id1)] K =
    (cal eI Tryz.prog 98 #[.pointer s0, .int .i64 id1] fun (y1_ : Int) => (K [(0, .pointer s0), (1, .int .i64 id1), (7, .int .i64 y1_)])) := by kernel_rfl
@[go_sem] theorem c65_r2 (s0 : Option Addr) (id1 : Int) (e7 : Int) (K : Env → W) : RP c65 2 [(0, .pointer s0), (1, .int .i64 id1), (7, .int .i64 e7)] K =
    (K [(0, .pointer s0), (1, .int .i64 id1), (7, .int .i64 e7), (21, .bool ((e7 != (0 : Int))))]) := by kernel_rfl
@[go_sem] theorem c65_r3 (e7 : Int) (K : Env → W) : RP c65 3 [(7, .int .i64 e7)] K =
    (K [(4, str (([] : List UInt8))), (5, .int .i64 (0 : Int)), (6, .int .i64 e7)]) := by kernel_rfl
@[go_sem] theorem c65_r4 (s0 : Option Addr) (id1 : Int) (K : Env → W) : RP c65 4 [(0, .pointer s0), (1, .int .i64 id1)] K =
    (K [(0, .pointer s0), (1, .int .i64 id1), (8, str (([] : List UInt8))), (9, str (([] : List UInt8)))]) := by kernel_rfl
@[go_sem] theorem c65_r5 (s0 : Option Addr) (id1 : Int) (text8 : List UInt8) (first9 : List UInt8) (K : Env → W) : RP c65 5 [(0, .pointer s0), (1, .int .i64 id1), (8, str text8), (9, str first9)] K =
    (K [(0, .pointer s0), (1, .int .i64 id1), (8, str text8), (9, str first9), (10, .bool false), (11, .bool true)]) := by kernel_rfl
@[go_sem] theorem c65_r6 (s0 : Option Addr) (id1 : Int) (text8 : List UInt8) (first9 : List UInt8) (some10 : Bool) (whole11 : Bool) (K : Env → W) : RP c65 6 [(0, .pointer s0), (1, .int .i64 id1), (8, str text8), (9, str first9), (10, .bool some10), (11, .bool whole11)] K =
    (K [(0, .pointer s0), (1, .int .i64 id1), (8, str text8), (9, str first9), (10, .bool some10), (11, .bool whole11), (23, .int .i64 (0 : Int))]) := by kernel_rfl
@[go_sem] theorem c65_r7 (s0 : Option Addr) (id1 : Int) (text8 : List UInt8) (first9 : List UInt8) (some10 : Bool) (whole11 : Bool) (t23 : Int) (K : Env → W) : RP c65 7 [(0, .pointer s0), (1, .int .i64 id1), (8, str text8), (9, str first9), (10, .bool some10), (11, .bool whole11), (23, .int .i64 t23)] K =
    (K [(0, .pointer s0), (1, .int .i64 id1), (8, str text8), (9, str first9), (10, .bool some10), (11, .bool whole11), (23, .int .i64 t23), (24, .bool ((decide (t23 < (4 : Int)))))]) := by kernel_rfl
@[go_sem] theorem c65_r8 (s0 : Option Addr) (id1 : Int) (text8 : List UInt8) (first9 : List UInt8) (some10 : Bool) (whole11 : Bool) (t23 : Int) (K : Env → W) : RP c65 8 [(0, .pointer s0), (1, .int .i64 id1), (8, str text8), (9, str first9), (10, .bool some10), (11, .bool whole11), (23, .int .i64 t23)] K =
    (K [(0, .pointer s0), (1, .int .i64 id1), (8, str text8), (9, str first9), (10, .bool some10), (11, .bool whole11), (12, .int .i64 t23), (23, .int .i64 t23)]) := by kernel_rfl
@[go_sem] theorem c65_r9 (s0 : Option Addr) (id1 : Int) (text8 : List UInt8) (first9 : List UInt8) (some10 : Bool) (whole11 : Bool) (i12 : Int) (t23 : Int) (K : Env → W) : RP c65 9 [(0, .pointer s0), (1, .int .i64 id1), (8, str text8), (9, str first9), (10, .bool some10), (11, .bool whole11), (12, .int .i64 i12), (23, .int .i64 t23)] K =
    (ph fun S0 => (nn s0 fun y1_ => (ldq S0 eP y1_ fun (y2_ : Option Addr) => (nn s0 fun y3_ => (ldq S0 eI ((y3_.add 1)) fun (y4_ : Int) => (cal (eT2 eS eI) Tryz.prog 22 #[.pointer y2_, .int .i64 ((IntKind.wrap .i64 ((IntKind.wrap .i64 (y4_ + (IntKind.wrap .i64 ((4 : Int) * id1)))) + i12)))] fun (y5_ : ((List UInt8) × Int)) => (K [(0, .pointer s0), (1, .int .i64 id1), (8, str text8), (9, str first9), (10, .bool some10), (11, .bool whole11), (12, .int .i64 i12), (13, str y5_.1), (14, .int .i64 y5_.2), (23, .int .i64 t23)]))))))) := by kernel_rfl
@[go_sem] theorem c65_r10 (s0 : Option Addr) (id1 : Int) (text8 : List UInt8) (first9 : List UInt8) (some10 : Bool) (whole11 : Bool) (i12 : Int) (b13 : List UInt8) (e14 : Int) (t23 : Int) (K : Env → W) : RP c65 10 [(0, .pointer s0), (1, .int .i64 id1), (8, str text8), (9, str first9), (10, .bool some10), (11, .bool whole11), (12, .int .i64 i12), (13, str b13), (14, .int .i64 e14), (23, .int .i64 t23)] K =
    (K [(0, .pointer s0), (1, .int .i64 id1), (8, str text8), (9, str first9), (10, .bool some10), (11, .bool whole11), (12, .int .i64 i12), (13, str b13), (14, .int .i64 e14), (23, .int .i64 t23), (44, .bool ((e14 != (0 : Int))))]) := by kernel_rfl
@[go_sem] theorem c65_r11 (e14 : Int) (K : Env → W) : RP c65 11 [(14, .int .i64 e14)] K =
    (K [(4, str (([] : List UInt8))), (5, .int .i64 (0 : Int)), (6, .int .i64 e14)]) := by kernel_rfl
@[go_sem] theorem c65_r12 (s0 : Option Addr) (id1 : Int) (text8 : List UInt8) (first9 : List UInt8) (some10 : Bool) (whole11 : Bool) (i12 : Int) (b13 : List UInt8) (t23 : Int) (K : Env → W) : RP c65 12 [(0, .pointer s0), (1, .int .i64 id1), (8, str text8), (9, str first9), (10, .bool some10), (11, .bool whole11), (12, .int .i64 i12), (13, str b13), (23, .int .i64 t23)] K =
    (K [(0, .pointer s0), (1, .int .i64 id1), (8, str text8), (9, str first9), (10, .bool some10), (11, .bool whole11), (13, str b13), (23, .int .i64 t23), (47, .bool ((i12 == (0 : Int))))]) := by kernel_rfl
@[go_sem] theorem c65_r13 (s0 : Option Addr) (id1 : Int) (text8 : List UInt8) (some10 : Bool) (whole11 : Bool) (b13 : List UInt8) (t23 : Int) (K : Env → W) : RP c65 13 [(0, .pointer s0), (1, .int .i64 id1), (8, str text8), (10, .bool some10), (11, .bool whole11), (13, str b13), (23, .int .i64 t23)] K =
    (rq (0 ≤ (0 : Int) ∧ 0 ≤ (8 : Int) ∧ (8 : Int) ≤ ((b13).length : Int)) (K [(0, .pointer s0), (1, .int .i64 id1), (8, str text8), (9, str ((ss b13 0 (8 : Int)))), (10, .bool some10), (11, .bool whole11), (13, str b13), (23, .int .i64 t23)])) := by kernel_rfl
@[go_sem] theorem c65_r14 (s0 : Option Addr) (id1 : Int) (text8 : List UInt8) (first9 : List UInt8) (some10 : Bool) (whole11 : Bool) (b13 : List UInt8) (t23 : Int) (K : Env → W) : RP c65 14 [(0, .pointer s0), (1, .int .i64 id1), (8, str text8), (9, str first9), (10, .bool some10), (11, .bool whole11), (13, str b13), (23, .int .i64 t23)] K =
    (cal eP Tryz.prog 84 #[str b13] fun (y1_ : Option Addr) => (K [(0, .pointer s0), (1, .int .i64 id1), (8, str text8), (9, str first9), (10, .bool some10), (11, .bool whole11), (13, str b13), (15, .pointer y1_), (23, .int .i64 t23)])) := by kernel_rfl
@[go_sem] theorem c65_r15 (s0 : Option Addr) (id1 : Int) (text8 : List UInt8) (first9 : List UInt8) (some10 : Bool) (whole11 : Bool) (b13 : List UInt8) (r15 : Option Addr) (t23 : Int) (K : Env → W) : RP c65 15 [(0, .pointer s0), (1, .int .i64 id1), (8, str text8), (9, str first9), (10, .bool some10), (11, .bool whole11), (13, str b13), (15, .pointer r15), (23, .int .i64 t23)] K =
    (ph fun S0 => (cnd some10 (kpn S0 fun S1 => (K [(0, .pointer s0), (1, .int .i64 id1), (8, str text8), (9, str first9), (10, .bool true), (11, .bool whole11), (13, str b13), (23, .int .i64 t23)])) (nn s0 fun y1_ => (ldq S0 eI ((y1_.add 3)) fun (y2_ : Int) => (cal eI Tryz.prog 85 #[.pointer r15, .int .i64 (2 : Int)] fun (y3_ : Int) => (kpn S0 fun S2 => (K [(0, .pointer s0), (1, .int .i64 id1), (8, str text8), (9, str first9), (10, .bool ((y3_ == y2_))), (11, .bool whole11), (13, str b13), (23, .int .i64 t23)]))))))) := by kernel_rfl
@[go_sem] theorem c65_r16 (s0 : Option Addr) (id1 : Int) (text8 : List UInt8) (first9 : List UInt8) (some10 : Bool) (whole11 : Bool) (b13 : List UInt8) (t23 : Int) (K : Env → W) : RP c65 16 [(0, .pointer s0), (1, .int .i64 id1), (8, str text8), (9, str first9), (10, .bool some10), (11, .bool whole11), (13, str b13), (23, .int .i64 t23)] K =
    (cnd whole11 (rq (0 ≤ (0 : Int) ∧ 0 ≤ (8 : Int) ∧ (8 : Int) ≤ ((b13).length : Int)) (K [(0, .pointer s0), (1, .int .i64 id1), (8, str text8), (9, str first9), (10, .bool some10), (11, .bool (((ss b13 0 (8 : Int)) == first9))), (13, str b13), (23, .int .i64 t23)])) (K [(0, .pointer s0), (1, .int .i64 id1), (8, str text8), (9, str first9), (10, .bool some10), (11, .bool false), (13, str b13), (23, .int .i64 t23)])) := by kernel_rfl
@[go_sem] theorem c65_r17 (s0 : Option Addr) (id1 : Int) (text8 : List UInt8) (first9 : List UInt8) (some10 : Bool) (whole11 : Bool) (b13 : List UInt8) (t23 : Int) (K : Env → W) : RP c65 17 [(0, .pointer s0), (1, .int .i64 id1), (8, str text8), (9, str first9), (10, .bool some10), (11, .bool whole11), (13, str b13), (23, .int .i64 t23)] K =
    (rq (0 ≤ ((8 : Int) : Int) ∧ (8 : Int) ≤ ((b13).length : Int) ∧ ((b13).length : Int) ≤ ((b13).length : Int)) (rq (((text8).length : Int) + (((ss b13 (8 : Int) (((b13).length : Int)))).length : Int) ≤ 9223372036854775807) (K [(0, .pointer s0), (1, .int .i64 id1), (8, str ((text8 ++ (ss b13 (8 : Int) (((b13).length : Int)))))), (9, str first9), (10, .bool some10), (11, .bool whole11), (23, .int .i64 t23)]))) := by kernel_rfl
@[go_sem] theorem c65_r18 (s0 : Option Addr) (id1 : Int) (text8 : List UInt8) (first9 : List UInt8) (some10 : Bool) (whole11 : Bool) (t23 : Int) (K : Env → W) : RP c65 18 [(0, .pointer s0), (1, .int .i64 id1), (8, str text8), (9, str first9), (10, .bool some10), (11, .bool whole11), (23, .int .i64 t23)] K =
    (K [(0, .pointer s0), (1, .int .i64 id1), (8, str text8), (9, str first9), (10, .bool some10), (11, .bool whole11), (23, .int .i64 ((IntKind.wrap .i64 (t23 + (1 : Int)))))]) := by kernel_rfl
@[go_sem] theorem c65_r19 (text8 : List UInt8) (first9 : List UInt8) (some10 : Bool) (whole11 : Bool) (K : Env → W) : RP c65 19 [(8, str text8), (9, str first9), (10, .bool some10), (11, .bool whole11)] K =
    (K [(8, str text8), (9, str first9), (11, .bool whole11), (74, .bool ((!some10)))]) := by kernel_rfl
@[go_sem] theorem c65_r20 (K : Env → W) : RP c65 20 [] K =
    (K [(4, str (([] : List UInt8))), (5, .int .i64 (0 : Int)), (6, .int .i64 (8 : Int))]) := by kernel_rfl
@[go_sem] theorem c65_r21 (text8 : List UInt8) (first9 : List UInt8) (whole11 : Bool) (K : Env → W) : RP c65 21 [(8, str text8), (9, str first9), (11, .bool whole11)] K =
    (K [(8, str text8), (9, str first9), (77, .bool ((!whole11)))]) := by kernel_rfl
@[go_sem] theorem c65_r22 (K : Env → W) : RP c65 22 [] K =
    (K [(4, str (([] : List UInt8))), (5, .int .i64 (0 : Int)), (6, .int .i64 (10 : Int))]) := by kernel_rfl
@[go_sem] theorem c65_r23 (text8 : List UInt8) (first9 : List UInt8) (K : Env → W) : RP c65 23 [(8, str text8), (9, str first9)] K =
    (cal eP Tryz.prog 84 #[str first9] fun (y1_ : Option Addr) => (K [(8, str text8), (16, .pointer y1_)])) := by kernel_rfl
@[go_sem] theorem c65_r24 (text8 : List UInt8) (r16 : Option Addr) (K : Env → W) : RP c65 24 [(8, str text8), (16, .pointer r16)] K =
    (cal eI Tryz.prog 85 #[.pointer r16, .int .i64 (2 : Int)] fun (y1_ : Int) => (K [(8, str text8), (16, .pointer r16)])) := by kernel_rfl
@[go_sem] theorem c65_r25 (text8 : List UInt8) (r16 : Option Addr) (K : Env → W) : RP c65 25 [(8, str text8), (16, .pointer r16)] K =
    (cal eI Tryz.prog 85 #[.pointer r16, .int .i64 (6 : Int)] fun (y1_ : Int) => (K [(4, str text8), (5, .int .i64 y1_), (6, .int .i64 (0 : Int))])) := by kernel_rfl
@[go_sem] theorem c65_o : c65.lo 1000000 = [4, 5, 6] := rfl
@[go_sem] theorem c65_e (t4 : List UInt8) (t5 : Int) (t6 : Int) (k : Value → W) : RTp c65 [(4, str t4), (5, .int .i64 t5), (6, .int .i64 t6)] k = (k (.tuple #[str t4, .int .i64 t5, .int .i64 t6])) := by kernel_rfl
theorem c65_ok : (c65.P.follows .mixedOrders && okc c65 c65.body) = true := by kernel_rfl
theorem c65_fn {e : Enc} {args : Array Value} {G : e.α → W} {L : List HP} {ρ : Env} (hρ : envA 0 args.toList = ρ) (hs : Nat.ble args.size 87 = true) (h : E L (D c65 (.seq (.reg 0) (.seq (.seq (.reg 1) (.seq (.reg 2) (.cond (.tmp 21) (.seq (.reg 3) (.ret)) (.skip)))) (.seq (.reg 4) (.seq (.reg 5) (.seq (.seq (.reg 6) (.block 0 (.loop (.seq (.reg 7) (.seq (.cond (.tmp 24) (.skip) (.exit 0)) (.seq (.block 1 (.seq (.reg 8) (.seq (.reg 9) (.seq (.seq (.reg 10) (.cond (.tmp 44) (.seq (.reg 11) (.ret)) (.skip))) (.seq (.seq (.reg 12) (.cond (.tmp 47) (.reg 13) (.skip))) (.seq (.reg 14) (.seq (.reg 15) (.seq (.reg 16) (.reg 17))))))))) (.reg 18))))))) (.seq (.block 2 (.seq (.reg 19) (.cond (.tmp 74) (.seq (.reg 20) (.ret)) (.seq (.reg 21) (.cond (.tmp 77) (.seq (.reg 22) (.ret)) (.skip)))))) (.seq (.reg 23) (.seq (.reg 24) (.seq (.reg 25) (.ret)))))))))) (fnQ c65 e G) ρ)) : E L (cal e Tryz.prog 65 args G) :=
  d_fn (c := c65) Tryz.func65 (by kernel_rfl) (by kernel_rfl) (by kernel_rfl) c65_ok (by kernel_rfl) (by kernel_rfl) hρ hs h
-- loop (first region 7): live slots 0:s0 1:id1 8:text8 9:first9 10:some10 11:whole11 23:t23, of which it writes [8, 9, 10, 11, 23]
/-! gharry.store.New -/
noncomputable def c88 : Cfg := { P := Tryz.prog, n := 53, T := TT, body := (Tryz.f88.body).getD .skip, res := Tryz.f88.results.toList, li := lk [] [(0, [0, 1, 2, 3]), (1, [0, 1, 2, 3]), (2, []), (3, [0, 1, 2, 3]), (4, []), (5, [0, 1, 2, 3])], lo := lk [] [(0, [0, 1, 2, 3]), (1, [0, 1, 2, 3, 10]), (2, [8, 9]), (3, [0, 1, 2, 3, 33]), (4, [8, 9]), (5, [8, 9]), (1000000, [8, 9])], ord := lk (false, []) [] }
@[go_sem] theorem c88_i0 : c88.li 0 = [0, 1, 2, 3] := rfl
@[go_sem] theorem c88_i1 : c88.li 1 = [0, 1, 2, 3] := rfl
@[go_sem] theorem c88_i2 : c88.li 2 = [] := rfl
@[go_sem] theorem c88_i3 : c88.li 3 = [0, 1, 2, 3] := rfl
@[go_sem] theorem c88_i4 : c88.li 4 = [] := rfl
@[go_sem] theorem c88_i5 : c88.li 5 = [0, 1, 2, 3] := rfl
@[go_sem] theorem c88_r0 (d0 : Option Addr) (base1 : Int) (pages2 : Int) (gen3 : Int) (K : Env → W) : RP c88 0 [(0, .pointer d0), (1, .int .i64 base1), (2, .int .i64 pages2), (3, .int .i64 gen3)] K =
    (K [(0, .pointer d0), (1, .int .i64 base1), (2, .int .i64 pages2), (3, .int .i64 gen3)]) := by kernel_rfl
@[go_sem] theorem c88_r1 (d0 : Option Addr) (base1 : Int) (pages2 : Int) (gen3 : Int) (K : Env → W) : RP c88 1 [(0, .pointer d0), (1, .int .i64 base1), (2, .int .i64 pages2), (3, .int .i64 gen3)] K =
    (cnd ((d0).isNone) (K [(0, .pointer d0), (1, .int .i64 base1), (2, .int .i64 pages2), (3, .int .i64 gen3), (10, .bool true)]) (cnd ((decide (gen3 < (1 : Int)))) (K [(0, .pointer d0), (1, .int .i64 base1), (2, .int .i64 pages2), (3, .int .i64 gen3), (10, .bool true)]) (cnd ((decide ((65536 : Int) ≤ gen3))) (K [(0, .pointer d0), (1, .int .i64 base1), (2, .int .i64 pages2), (3, .int .i64 gen3), (10, .bool true)]) (cnd ((decide (base1 < (0 : Int)))) (K [(0, .pointer d0), (1, .int .i64 base1), (2, .int .i64 pages2), (3, .int .i64 gen3), (10, .bool true)]) (cnd ((decide (pages2 < (1 : Int)))) (K [(0, .pointer d0), (1, .int .i64 base1), (2, .int .i64 pages2), (3, .int .i64 gen3), (10, .bool true)]) (K [(0, .pointer d0), (1, .int .i64 base1), (2, .int .i64 pages2), (3, .int .i64 gen3), (10, .bool ((decide ((200 : Int) < pages2))))])))))) := by kernel_rfl
@[go_sem] theorem c88_r2 (K : Env → W) : RP c88 2 [] K =
    (K [(8, .pointer none), (9, .int .i64 (1 : Int))]) := by kernel_rfl
@[go_sem] theorem c88_r3 (d0 : Option Addr) (base1 : Int) (pages2 : Int) (gen3 : Int) (K : Env → W) : RP c88 3 [(0, .pointer d0), (1, .int .i64 base1), (2, .int .i64 pages2), (3, .int .i64 gen3)] K =
    (cal eI Tryz.prog 99 #[.pointer d0] fun (y1_ : Int) => (cnd ((decide (y1_ < base1))) (K [(0, .pointer d0), (1, .int .i64 base1), (2, .int .i64 pages2), (3, .int .i64 gen3), (33, .bool true)]) (cal eI Tryz.prog 99 #[.pointer d0] fun (y2_ : Int) => (K [(0, .pointer d0), (1, .int .i64 base1), (2, .int .i64 pages2), (3, .int .i64 gen3), (33, .bool ((decide ((IntKind.wrap .i64 (y2_ - base1)) < (IntKind.wrap .i64 (pages2 * (4 : Int)))))))])))) := by kernel_rfl
@[go_sem] theorem c88_r4 (K : Env → W) : RP c88 4 [] K =
    (K [(8, .pointer none), (9, .int .i64 (6 : Int))]) := by kernel_rfl
@[go_sem] theorem c88_r5 (d0 : Option Addr) (base1 : Int) (pages2 : Int) (gen3 : Int) (K : Env → W) : RP c88 5 [(0, .pointer d0), (1, .int .i64 base1), (2, .int .i64 pages2), (3, .int .i64 gen3)] K =
    (nwc #[.pointer (d0), .int .i64 (base1), .int .i64 (pages2), .int .i64 (gen3)] 141 fun y1_ => (K [(8, .pointer (some y1_)), (9, .int .i64 (0 : Int))])) := by kernel_rfl
@[go_sem] theorem c88_o : c88.lo 1000000 = [8, 9] := rfl
@[go_sem] theorem c88_e (t8 : Option Addr) (t9 : Int) (k : Value → W) : RTp c88 [(8, .pointer t8), (9, .int .i64 t9)] k = (k (.tuple #[.pointer t8, .int .i64 t9])) := by kernel_rfl
theorem c88_ok : (c88.P.follows .mixedOrders && okc c88 c88.body) = true := by kernel_rfl
theorem c88_fn {e : Enc} {args : Array Value} {G : e.α → W} {L : List HP} {ρ : Env} (hρ : envA 0 args.toList = ρ) (hs : Nat.ble args.size 53 = true) (h : E L (D c88 (.seq (.reg 0) (.seq (.block 0 (.seq (.reg 1) (.cond (.tmp 10) (.seq (.reg 2) (.ret)) (.seq (.reg 3) (.cond (.tmp 33) (.seq (.reg 4) (.ret)) (.skip)))))) (.seq (.reg 5) (.ret)))) (fnQ c88 e G) ρ)) : E L (cal e Tryz.prog 88 args G) :=
  d_fn (c := c88) Tryz.func88 (by kernel_rfl) (by kernel_rfl) (by kernel_rfl) c88_ok (by kernel_rfl) (by kernel_rfl) hρ hs h
/-! (*gharry.store.Store).Pages -/
/-! (*gharry.store.Store).check -/
noncomputable def c98 : Cfg := { P := Tryz.prog, n := 26, T := TT, body := (Tryz.f98.body).getD .skip, res := Tryz.f98.results.toList, li := lk [] [(0, [0, 1]), (1, [0, 1]), (2, []), (3, [0, 1]), (4, []), (5, [])], lo := lk [] [(0, [0, 1]), (1, [0, 1, 5]), (2, [4]), (3, [15]), (4, [4]), (5, [4]), (1000000, [4])], ord := lk (false, []) [] }
@[go_sem] theorem c98_i0 : c98.li 0 = [0, 1] := rfl
@[go_sem] theorem c98_i1 : c98.li 1 = [0, 1] := rfl
@[go_sem] theorem c98_i2 : c98.li 2 = [] := rfl
@[go_sem] theorem c98_i3 : c98.li 3 = [0, 1] := rfl
@[go_sem] theorem c98_i4 : c98.li 4 = [] := rfl
@[go_sem] theorem c98_i5 : c98.li 5 = [] := rfl
@[go_sem] theorem c98_r0 (s0 : Option Addr) (id1 : Int) (K : Env → W) : RP c98 0 [(0, .pointer s0), (1, .int .i64 id1)] K =
    (K [(0, .pointer s0), (1, .int .i64 id1)]) := by kernel_rfl
@[go_sem] theorem c98_r1 (s0 : Option Addr) (id1 : Int) (K : Env → W) : RP c98 1 [(0, .pointer s0), (1, .int .i64 id1)] K =
    (cnd ((s0).isNone) (K [(0, .pointer s0), (1, .int .i64 id1), (5, .bool true)]) (nn s0 fun y1_ => (ld eP y1_ fun (y2_ : Option Addr) => (K [(0, .pointer s0), (1, .int .i64 id1), (5, .bool ((y2_).isNone))])))) := by kernel_rfl
@[go_sem] theorem c98_r2 (K : Env → W) : RP c98 2 [] K =
    (K [(4, .int .i64 (11 : Int))]) := by kernel_rfl
@[go_sem] theorem c98_r3 (s0 : Option Addr) (id1 : Int) (K : Env → W) : RP c98 3 [(0, .pointer s0), (1, .int .i64 id1)] K =
    (cnd ((decide (id1 < (0 : Int)))) (K [(15, .bool true)]) (nn s0 fun y1_ => (ld eI ((y1_.add 2)) fun (y2_ : Int) => (K [(15, .bool ((decide (y2_ ≤ id1))))])))) := by kernel_rfl
@[go_sem] theorem c98_r4 (K : Env → W) : RP c98 4 [] K =
    (K [(4, .int .i64 (6 : Int))]) := by kernel_rfl
@[go_sem] theorem c98_r5 (K : Env → W) : RP c98 5 [] K =
    (K [(4, .int .i64 (0 : Int))]) := by kernel_rfl
@[go_sem] theorem c98_o : c98.lo 1000000 = [4] := rfl
@[go_sem] theorem c98_e (t4 : Int) (k : Value → W) : RTp c98 [(4, .int .i64 t4)] k = (k (.int .i64 t4)) := by kernel_rfl
theorem c98_ok : (c98.P.follows .mixedOrders && okc c98 c98.body) = true := by kernel_rfl
theorem c98_fn {e : Enc} {args : Array Value} {G : e.α → W} {L : List HP} {ρ : Env} (hρ : envA 0 args.toList = ρ) (hs : Nat.ble args.size 26 = true) (h : E L (D c98 (.seq (.reg 0) (.seq (.block 0 (.seq (.reg 1) (.cond (.tmp 5) (.seq (.reg 2) (.ret)) (.seq (.reg 3) (.cond (.tmp 15) (.seq (.reg 4) (.ret)) (.skip)))))) (.seq (.reg 5) (.ret)))) (fnQ c98 e G) ρ)) : E L (cal e Tryz.prog 98 args G) :=
  d_fn (c := c98) Tryz.func98 (by kernel_rfl) (by kernel_rfl) (by kernel_rfl) c98_ok (by kernel_rfl) (by kernel_rfl) hρ hs h
/-! (*gharry.store.Store).Write -/
noncomputable def c121 : Cfg := { P := Tryz.prog, n := 62, T := TT, body := (Tryz.f121.body).getD .skip, res := Tryz.f121.results.toList, li := lk [] [(0, [0, 1, 2, 3]), (1, [0, 1, 2, 3]), (2, [0, 1, 2, 3, 9]), (3, [9]), (4, [0, 1, 2, 3]), (5, []), (6, [0, 1, 2, 3]), (7, [0, 1, 2, 10, 11]), (8, [11]), (9, [0, 1, 2, 10]), (10, [0, 1, 2, 10, 32]), (11, [0, 1, 2, 10, 32]), (12, [0, 1, 2, 10, 12, 32]), (13, [0, 1, 2, 10, 13, 32]), (14, [13]), (15, [0, 1, 2, 10, 32]), (16, [])], lo := lk [] [(0, [0, 1, 2, 3]), (1, [0, 1, 2, 3, 9]), (2, [0, 1, 2, 3, 9, 18]), (3, [8]), (4, [0, 1, 2, 3, 22]), (5, [8]), (6, [0, 1, 2, 10, 11]), (7, [0, 1, 2, 10, 11, 30]), (8, [8]), (9, [0, 1, 2, 10, 32]), (10, [0, 1, 2, 10, 32, 33]), (11, [0, 1, 2, 10, 12, 32]), (12, [0, 1, 2, 10, 13, 32]), (13, [0, 1, 2, 10, 13, 32, 59]), (14, [8]), (15, [0, 1, 2, 10, 32]), (16, [8]), (1000000, [8])], ord := lk (false, []) [(12, (true, [(0, 1), (1, 1), (2, 1), (3, 0), (4, 1), (5, 1), (6, 1), (7, 0), (8, 1), (9, 1), (10, 1), (11, 1), (12, 1), (13, 1), (14, 1), (15, 1), (16, 1), (17, 1), (18, 1), (19, 1), (20, 1), (21, 1), (22, 4), (23, 1)]))] }
@[go_sem] theorem c121_i0 : c121.li 0 = [0, 1, 2, 3] := rfl
@[go_sem] theorem c121_i1 : c121.li 1 = [0, 1, 2, 3] := rfl
@[go_sem] theorem c121_i2 : c121.li 2 = [0, 1, 2, 3, 9] := rfl
@[go_sem] theorem c121_i3 : c121.li 3 = [9] := rfl
@[go_sem] theorem c121_i4 : c121.li 4 = [0, 1, 2, 3] := rfl
@[go_sem] theorem c121_i5 : c121.li 5 = [] := rfl
@[go_sem] theorem c121_i6 : c121.li 6 = [0, 1, 2, 3] := rfl
@[go_sem] theorem c121_i7 : c121.li 7 = [0, 1, 2, 10, 11] := rfl
@[go_sem] theorem c121_i8 : c121.li 8 = [11] := rfl
@[go_sem] theorem c121_i9 : c121.li 9 = [0, 1, 2, 10] := rfl
@[go_sem] theorem c121_i10 : c121.li 10 = [0, 1, 2, 10, 32] := rfl
@[go_sem] theorem c121_i11 : c121.li 11 = [0, 1, 2, 10, 32] := rfl
@[go_sem] theorem c121_i12 : c121.li 12 = [0, 1, 2, 10, 12, 32] := rfl
@[go_sem] theorem c121_i13 : c121.li 13 = [0, 1, 2, 10, 13, 32] := rfl
@[go_sem] theorem c121_i14 : c121.li 14 = [13] := rfl
@[go_sem] theorem c121_i15 : c121.li 15 = [0, 1, 2, 10, 32] := rfl
@[go_sem] theorem c121_i16 : c121.li 16 = [] := rfl
@[go_sem] theorem c121_r0 (s0 : Option Addr) (id1 : Int) (text2 : List UInt8) (lsn3 : Int) (K : Env → W) : RP c121 0 [(0, .pointer s0), (1, .int .i64 id1), (2, str text2), (3, .int .i64 lsn3)] K =
    (K [(0, .pointer s0), (1, .int .i64 id1), (2, str text2), (3, .int .i64 lsn3)]) := by kernel_rfl
@[go_sem] theorem c121_r1 (s0 : Option Addr) (id1 : Int) (text2 : List UInt8) (lsn3 : Int) (K : Env → W) : RP c121 1 [(0, .pointer s0), (1, .int .i64 id1), (2, str text2), (3, .int .i64 lsn3)] K =
    (cal eI Tryz.prog 98 #[.pointer s0, .int .i64 id1] fun (y1_ : Int) => (K [(0, .pointer s0), (1, .int .i64 id1), (2, str text2), (3, .int .i64 lsn3), (9, .int .i64 y1_)])) := by kernel_rfl
@[go_sem] theorem c121_r2 (s0 : Option Addr) (id1 : Int) (text2 : List UInt8) (lsn3 : Int) (e9 : Int) (K : Env → W) : RP c121 2 [(0, .pointer s0), (1, .int .i64 id1), (2, str text2), (3, .int .i64 lsn3), (9, .int .i64 e9)] K =
    (K [(0, .pointer s0), (1, .int .i64 id1), (2, str text2), (3, .int .i64 lsn3), (9, .int .i64 e9), (18, .bool ((e9 != (0 : Int))))]) := by kernel_rfl
@[go_sem] theorem c121_r3 (e9 : Int) (K : Env → W) : RP c121 3 [(9, .int .i64 e9)] K =
    (K [(8, .int .i64 e9)]) := by kernel_rfl
@[go_sem] theorem c121_r4 (s0 : Option Addr) (id1 : Int) (text2 : List UInt8) (lsn3 : Int) (K : Env → W) : RP c121 4 [(0, .pointer s0), (1, .int .i64 id1), (2, str text2), (3, .int .i64 lsn3)] K =
    (K [(0, .pointer s0), (1, .int .i64 id1), (2, str text2), (3, .int .i64 lsn3), (22, .bool ((((text2).length : Int) != (224 : Int))))]) := by kernel_rfl
@[go_sem] theorem c121_r5 (K : Env → W) : RP c121 5 [] K =
    (K [(8, .int .i64 (4 : Int))]) := by kernel_rfl
@[go_sem] theorem c121_r6 (s0 : Option Addr) (id1 : Int) (text2 : List UInt8) (lsn3 : Int) (K : Env → W) : RP c121 6 [(0, .pointer s0), (1, .int .i64 id1), (2, str text2), (3, .int .i64 lsn3)] K =
    (cal (eT2 eS eI) Tryz.prog 135 #[.pointer s0, .int .i64 lsn3] fun (y1_ : ((List UInt8) × Int)) => (K [(0, .pointer s0), (1, .int .i64 id1), (2, str text2), (10, str y1_.1), (11, .int .i64 y1_.2)])) := by kernel_rfl
@[go_sem] theorem c121_r7 (s0 : Option Addr) (id1 : Int) (text2 : List UInt8) (m10 : List UInt8) (e11 : Int) (K : Env → W) : RP c121 7 [(0, .pointer s0), (1, .int .i64 id1), (2, str text2), (10, str m10), (11, .int .i64 e11)] K =
    (K [(0, .pointer s0), (1, .int .i64 id1), (2, str text2), (10, str m10), (11, .int .i64 e11), (30, .bool ((e11 != (0 : Int))))]) := by kernel_rfl
@[go_sem] theorem c121_r8 (e11 : Int) (K : Env → W) : RP c121 8 [(11, .int .i64 e11)] K =
    (K [(8, .int .i64 e11)]) := by kernel_rfl
@[go_sem] theorem c121_r9 (s0 : Option Addr) (id1 : Int) (text2 : List UInt8) (m10 : List UInt8) (K : Env → W) : RP c121 9 [(0, .pointer s0), (1, .int .i64 id1), (2, str text2), (10, str m10)] K =
    (K [(0, .pointer s0), (1, .int .i64 id1), (2, str text2), (10, str m10), (32, .int .i64 (0 : Int))]) := by kernel_rfl
@[go_sem] theorem c121_r10 (s0 : Option Addr) (id1 : Int) (text2 : List UInt8) (m10 : List UInt8) (t32 : Int) (K : Env → W) : RP c121 10 [(0, .pointer s0), (1, .int .i64 id1), (2, str text2), (10, str m10), (32, .int .i64 t32)] K =
    (K [(0, .pointer s0), (1, .int .i64 id1), (2, str text2), (10, str m10), (32, .int .i64 t32), (33, .bool ((decide (t32 < (4 : Int)))))]) := by kernel_rfl
@[go_sem] theorem c121_r11 (s0 : Option Addr) (id1 : Int) (text2 : List UInt8) (m10 : List UInt8) (t32 : Int) (K : Env → W) : RP c121 11 [(0, .pointer s0), (1, .int .i64 id1), (2, str text2), (10, str m10), (32, .int .i64 t32)] K =
    (K [(0, .pointer s0), (1, .int .i64 id1), (2, str text2), (10, str m10), (12, .int .i64 t32), (32, .int .i64 t32)]) := by kernel_rfl
@[go_sem] theorem c121_r12 (s0 : Option Addr) (id1 : Int) (text2 : List UInt8) (m10 : List UInt8) (i12 : Int) (t32 : Int) (K : Env → W) : RP c121 12 [(0, .pointer s0), (1, .int .i64 id1), (2, str text2), (10, str m10), (12, .int .i64 i12), (32, .int .i64 t32)] K =
    (ph fun S0 => (nn s0 fun y1_ => (ldq S0 eP y1_ fun (y2_ : Option Addr) => (nn s0 fun y3_ => (ldq S0 eI ((y3_.add 1)) fun (y4_ : Int) => (rq (0 ≤ ((IntKind.wrap .i64 (i12 * (56 : Int))) : Int) ∧ (IntKind.wrap .i64 (i12 * (56 : Int))) ≤ (IntKind.wrap .i64 ((IntKind.wrap .i64 (i12 + (1 : Int))) * (56 : Int))) ∧ (IntKind.wrap .i64 ((IntKind.wrap .i64 (i12 + (1 : Int))) * (56 : Int))) ≤ ((text2).length : Int)) (rq (((m10).length : Int) + (((ss text2 ((IntKind.wrap .i64 (i12 * (56 : Int)))) ((IntKind.wrap .i64 ((IntKind.wrap .i64 (i12 + (1 : Int))) * (56 : Int)))))).length : Int) ≤ 9223372036854775807) (cal eI Tryz.prog 24 #[.pointer y2_, .int .i64 ((IntKind.wrap .i64 ((IntKind.wrap .i64 (y4_ + (IntKind.wrap .i64 ((4 : Int) * id1)))) + i12))), str ((m10 ++ (ss text2 ((IntKind.wrap .i64 (i12 * (56 : Int)))) ((IntKind.wrap .i64 ((IntKind.wrap .i64 (i12 + (1 : Int))) * (56 : Int)))))))] fun (y5_ : Int) => (K [(0, .pointer s0), (1, .int .i64 id1), (2, str text2), (10, str m10), (13, .int .i64 y5_), (32, .int .i64 t32)]))))))))) := by kernel_rfl
@[go_sem] theorem c121_r13 (s0 : Option Addr) (id1 : Int) (text2 : List UInt8) (m10 : List UInt8) (e13 : Int) (t32 : Int) (K : Env → W) : RP c121 13 [(0, .pointer s0), (1, .int .i64 id1), (2, str text2), (10, str m10), (13, .int .i64 e13), (32, .int .i64 t32)] K =
    (K [(0, .pointer s0), (1, .int .i64 id1), (2, str text2), (10, str m10), (13, .int .i64 e13), (32, .int .i64 t32), (59, .bool ((e13 != (0 : Int))))]) := by kernel_rfl
@[go_sem] theorem c121_r14 (e13 : Int) (K : Env → W) : RP c121 14 [(13, .int .i64 e13)] K =
    (K [(8, .int .i64 e13)]) := by kernel_rfl
@[go_sem] theorem c121_r15 (s0 : Option Addr) (id1 : Int) (text2 : List UInt8) (m10 : List UInt8) (t32 : Int) (K : Env → W) : RP c121 15 [(0, .pointer s0), (1, .int .i64 id1), (2, str text2), (10, str m10), (32, .int .i64 t32)] K =
    (K [(0, .pointer s0), (1, .int .i64 id1), (2, str text2), (10, str m10), (32, .int .i64 ((IntKind.wrap .i64 (t32 + (1 : Int)))))]) := by kernel_rfl
@[go_sem] theorem c121_r16 (K : Env → W) : RP c121 16 [] K =
    (K [(8, .int .i64 (0 : Int))]) := by kernel_rfl
@[go_sem] theorem c121_o : c121.lo 1000000 = [8] := rfl
@[go_sem] theorem c121_e (t8 : Int) (k : Value → W) : RTp c121 [(8, .int .i64 t8)] k = (k (.int .i64 t8)) := by kernel_rfl
theorem c121_ok : (c121.P.follows .mixedOrders && okc c121 c121.body) = true := by kernel_rfl
theorem c121_fn {e : Enc} {args : Array Value} {G : e.α → W} {L : List HP} {ρ : Env} (hρ : envA 0 args.toList = ρ) (hs : Nat.ble args.size 62 = true) (h : E L (D c121 (.seq (.reg 0) (.seq (.seq (.reg 1) (.seq (.reg 2) (.cond (.tmp 18) (.seq (.reg 3) (.ret)) (.skip)))) (.seq (.seq (.reg 4) (.cond (.tmp 22) (.seq (.reg 5) (.ret)) (.skip))) (.seq (.reg 6) (.seq (.seq (.reg 7) (.cond (.tmp 30) (.seq (.reg 8) (.ret)) (.skip))) (.seq (.seq (.reg 9) (.block 0 (.loop (.seq (.reg 10) (.seq (.cond (.tmp 33) (.skip) (.exit 0)) (.seq (.block 1 (.seq (.reg 11) (.seq (.reg 12) (.seq (.reg 13) (.cond (.tmp 59) (.seq (.reg 14) (.ret)) (.skip)))))) (.reg 15))))))) (.seq (.reg 16) (.ret)))))))) (fnQ c121 e G) ρ)) : E L (cal e Tryz.prog 121 args G) :=
  d_fn (c := c121) Tryz.func121 (by kernel_rfl) (by kernel_rfl) (by kernel_rfl) c121_ok (by kernel_rfl) (by kernel_rfl) hρ hs h
-- loop (first region 10): live slots 0:s0 1:id1 2:text2 10:m10 32:t32, of which it writes [32]
/-! (*gharry.store.Store).Sync -/
noncomputable def c122 : Cfg := { P := Tryz.prog, n := 17, T := TT, body := (Tryz.f122.body).getD .skip, res := Tryz.f122.results.toList, li := lk [] [(0, [0]), (1, [0]), (2, []), (3, [0])], lo := lk [] [(0, [0]), (1, [0, 11]), (2, [2]), (3, [2]), (1000000, [2])], ord := lk (false, []) [] }
@[go_sem] theorem c122_i0 : c122.li 0 = [0] := rfl
@[go_sem] theorem c122_i1 : c122.li 1 = [0] := rfl
@[go_sem] theorem c122_i2 : c122.li 2 = [] := rfl
@[go_sem] theorem c122_i3 : c122.li 3 = [0] := rfl
@[go_sem] theorem c122_r0 (s0 : Option Addr) (K : Env → W) : RP c122 0 [(0, .pointer s0)] K =
    (K [(0, .pointer s0)]) := by kernel_rfl
@[go_sem] theorem c122_r1 (s0 : Option Addr) (K : Env → W) : RP c122 1 [(0, .pointer s0)] K =
    (cnd ((s0).isNone) (K [(0, .pointer s0), (11, .bool true)]) (nn s0 fun y1_ => (ld eP y1_ fun (y2_ : Option Addr) => (K [(0, .pointer s0), (11, .bool ((y2_).isNone))])))) := by kernel_rfl
@[go_sem] theorem c122_r2 (K : Env → W) : RP c122 2 [] K =
    (K [(2, .int .i64 (11 : Int))]) := by kernel_rfl
@[go_sem] theorem c122_r3 (s0 : Option Addr) (K : Env → W) : RP c122 3 [(0, .pointer s0)] K =
    (nn s0 fun y1_ => (ld eP y1_ fun (y2_ : Option Addr) => (cal eI Tryz.prog 79 #[.pointer y2_] fun (y3_ : Int) => (K [(2, .int .i64 y3_)])))) := by kernel_rfl
@[go_sem] theorem c122_o : c122.lo 1000000 = [2] := rfl
@[go_sem] theorem c122_e (t2 : Int) (k : Value → W) : RTp c122 [(2, .int .i64 t2)] k = (k (.int .i64 t2)) := by kernel_rfl
theorem c122_ok : (c122.P.follows .mixedOrders && okc c122 c122.body) = true := by kernel_rfl
theorem c122_fn {e : Enc} {args : Array Value} {G : e.α → W} {L : List HP} {ρ : Env} (hρ : envA 0 args.toList = ρ) (hs : Nat.ble args.size 17 = true) (h : E L (D c122 (.seq (.reg 0) (.seq (.seq (.reg 1) (.cond (.tmp 11) (.seq (.reg 2) (.ret)) (.skip))) (.seq (.reg 3) (.ret)))) (fnQ c122 e G) ρ)) : E L (cal e Tryz.prog 122 args G) :=
  d_fn (c := c122) Tryz.func122 (by kernel_rfl) (by kernel_rfl) (by kernel_rfl) c122_ok (by kernel_rfl) (by kernel_rfl) hρ hs h
/-! (*gharry.store.Store).mark -/
noncomputable def c135 : Cfg := { P := Tryz.prog, n := 21, T := TT, body := (Tryz.f135.body).getD .skip, res := Tryz.f135.results.toList, li := lk [] [(0, [0, 1]), (1, [0, 1]), (2, [1, 6])], lo := lk [] [(0, [0, 1]), (1, [1, 6]), (2, [4, 5]), (1000000, [4, 5])], ord := lk (false, []) [] }
@[go_sem] theorem c135_i0 : c135.li 0 = [0, 1] := rfl
@[go_sem] theorem c135_i1 : c135.li 1 = [0, 1] := rfl
@[go_sem] theorem c135_i2 : c135.li 2 = [1, 6] := rfl
@[go_sem] theorem c135_r0 (s0 : Option Addr) (lsn1 : Int) (K : Env → W) : RP c135 0 [(0, .pointer s0), (1, .int .i64 lsn1)] K =
    (K [(0, .pointer s0), (1, .int .i64 lsn1)]) := by kernel_rfl
@[go_sem] theorem c135_r1 (s0 : Option Addr) (lsn1 : Int) (K : Env → W) : RP c135 1 [(0, .pointer s0), (1, .int .i64 lsn1)] K =
    (nn s0 fun y1_ => (ld eI ((y1_.add 3)) fun (y2_ : Int) => (cal (eT2 eS eI) Tryz.prog 73 #[str (([] : List UInt8)), .int .i64 y2_, .int .i64 (2 : Int)] fun (y3_ : ((List UInt8) × Int)) => (K [(1, .int .i64 lsn1), (6, str y3_.1)])))) := by kernel_rfl
@[go_sem] theorem c135_r2 (lsn1 : Int) (out6 : List UInt8) (K : Env → W) : RP c135 2 [(1, .int .i64 lsn1), (6, str out6)] K =
    (cal (eT2 eS eI) Tryz.prog 73 #[str out6, .int .i64 lsn1, .int .i64 (6 : Int)] fun (y1_ : ((List UInt8) × Int)) => (K [(4, str y1_.1), (5, .int .i64 y1_.2)])) := by kernel_rfl
@[go_sem] theorem c135_o : c135.lo 1000000 = [4, 5] := rfl
@[go_sem] theorem c135_e (t4 : List UInt8) (t5 : Int) (k : Value → W) : RTp c135 [(4, str t4), (5, .int .i64 t5)] k = (k (.tuple #[str t4, .int .i64 t5])) := by kernel_rfl
theorem c135_ok : (c135.P.follows .mixedOrders && okc c135 c135.body) = true := by kernel_rfl
theorem c135_fn {e : Enc} {args : Array Value} {G : e.α → W} {L : List HP} {ρ : Env} (hρ : envA 0 args.toList = ρ) (hs : Nat.ble args.size 21 = true) (h : E L (D c135 (.seq (.reg 0) (.seq (.reg 1) (.seq (.reg 2) (.ret)))) (fnQ c135 e G) ρ)) : E L (cal e Tryz.prog 135 args G) :=
  d_fn (c := c135) Tryz.func135 (by kernel_rfl) (by kernel_rfl) (by kernel_rfl) c135_ok (by kernel_rfl) (by kernel_rfl) hρ hs h
end Go.Sp
/- What each region of the Go functions does. Written by my own generator. -/
namespace Go.Sp
open Go
set_option maxRecDepth 100000
set_option linter.unusedVariables false
open Go.Proofs
/-! gharry.gharrylaw10.made -/
noncomputable def c41 : Cfg := { P := Tryz.prog, n := 58, T := TT, body := (Tryz.f41.body).getD .skip, res := Tryz.f41.results.toList, li := lk [] [(0, [0]), (1, [0]), (2, [0, 3, 4]), (3, []), (4, [0, 3]), (5, [0, 3, 5, 6]), (6, [0, 3, 5, 6, 7, 8]), (7, [3, 5, 6, 7, 8, 9, 10]), (8, []), (9, [3, 5, 7, 9])], lo := lk [] [(0, [0]), (1, [0, 3, 4]), (2, [0, 3, 20]), (3, [2]), (4, [0, 3, 5, 6]), (5, [0, 3, 5, 6, 7, 8]), (6, [3, 5, 6, 7, 8, 9, 10]), (7, [3, 5, 7, 9, 51]), (8, [2]), (9, [2]), (1000000, [2])], ord := lk (false, []) [] }
@[go_sem] theorem c41_i0 : c41.li 0 = [0] := rfl
@[go_sem] theorem c41_i1 : c41.li 1 = [0] := rfl
@[go_sem] theorem c41_i2 : c41.li 2 = [0, 3, 4] := rfl
@[go_sem] theorem c41_i3 : c41.li 3 = [] := rfl
@[go_sem] theorem c41_i4 : c41.li 4 = [0, 3] := rfl
@[go_sem] theorem c41_i5 : c41.li 5 = [0, 3, 5, 6] := rfl
@[go_sem] theorem c41_i6 : c41.li 6 = [0, 3, 5, 6, 7, 8] := rfl
@[go_sem] theorem c41_i7 : c41.li 7 = [3, 5, 6, 7, 8, 9, 10] := rfl
@[go_sem] theorem c41_i8 : c41.li 8 = [] := rfl
@[go_sem] theorem c41_i9 : c41.li 9 = [3, 5, 7, 9] := rfl
@[go_sem] theorem c41_r0 (frames0 : Int) (K : Env → W) : RP c41 0 [(0, .int .i64 frames0)] K =
    (K [(0, .int .i64 frames0)]) := by kernel_rfl
@[go_sem] theorem c41_r1 (frames0 : Int) (K : Env → W) : RP c41 1 [(0, .int .i64 frames0)] K =
    (cal (eT2 eP eI) Tryz.prog 16 #[.int .i64 (80 : Int)] fun (y1_ : ((Option Addr) × Int)) => (K [(0, .int .i64 frames0), (3, .pointer y1_.1), (4, .int .i64 y1_.2)])) := by kernel_rfl
@[go_sem] theorem c41_r2 (frames0 : Int) (d3 : Option Addr) (e4 : Int) (K : Env → W) : RP c41 2 [(0, .int .i64 frames0), (3, .pointer d3), (4, .int .i64 e4)] K =
    (cnd ((e4 != (0 : Int))) (K [(0, .int .i64 frames0), (3, .pointer d3), (20, .bool true)]) (K [(0, .int .i64 frames0), (3, .pointer d3), (20, .bool ((d3).isNone))])) := by kernel_rfl
@[go_sem] theorem c41_r3 (K : Env → W) : RP c41 3 [] K =
    (K [(2, .pointer none)]) := by kernel_rfl
@[go_sem] theorem c41_r4 (frames0 : Int) (d3 : Option Addr) (K : Env → W) : RP c41 4 [(0, .int .i64 frames0), (3, .pointer d3)] K =
    (cal (eT2 eP eI) Tryz.prog 17 #[.pointer d3, .int .i64 (0 : Int), .int .i64 (40 : Int), .int .i64 (1 : Int)] fun (y1_ : ((Option Addr) × Int)) => (K [(0, .int .i64 frames0), (3, .pointer d3), (5, .pointer y1_.1), (6, .int .i64 y1_.2)])) := by kernel_rfl
@[go_sem] theorem c41_r5 (frames0 : Int) (d3 : Option Addr) (l5 : Option Addr) (f6 : Int) (K : Env → W) : RP c41 5 [(0, .int .i64 frames0), (3, .pointer d3), (5, .pointer l5), (6, .int .i64 f6)] K =
    (cal (eT2 eP eI) Tryz.prog 88 #[.pointer d3, .int .i64 (40 : Int), .int .i64 (8 : Int), .int .i64 (1 : Int)] fun (y1_ : ((Option Addr) × Int)) => (K [(0, .int .i64 frames0), (3, .pointer d3), (5, .pointer l5), (6, .int .i64 f6), (7, .pointer y1_.1), (8, .int .i64 y1_.2)])) := by kernel_rfl
@[go_sem] theorem c41_r6 (frames0 : Int) (d3 : Option Addr) (l5 : Option Addr) (f6 : Int) (s7 : Option Addr) (g8 : Int) (K : Env → W) : RP c41 6 [(0, .int .i64 frames0), (3, .pointer d3), (5, .pointer l5), (6, .int .i64 f6), (7, .pointer s7), (8, .int .i64 g8)] K =
    (cal (eT2 eP eI) Tryz.prog 42 #[.pointer s7, .pointer l5, .int .i64 frames0] fun (y1_ : ((Option Addr) × Int)) => (K [(3, .pointer d3), (5, .pointer l5), (6, .int .i64 f6), (7, .pointer s7), (8, .int .i64 g8), (9, .pointer y1_.1), (10, .int .i64 y1_.2)])) := by kernel_rfl
@[go_sem] theorem c41_r7 (d3 : Option Addr) (l5 : Option Addr) (f6 : Int) (s7 : Option Addr) (g8 : Int) (p9 : Option Addr) (h10 : Int) (K : Env → W) : RP c41 7 [(3, .pointer d3), (5, .pointer l5), (6, .int .i64 f6), (7, .pointer s7), (8, .int .i64 g8), (9, .pointer p9), (10, .int .i64 h10)] K =
    (cnd ((f6 != (0 : Int))) (K [(3, .pointer d3), (5, .pointer l5), (7, .pointer s7), (9, .pointer p9), (51, .bool true)]) (cnd ((g8 != (0 : Int))) (K [(3, .pointer d3), (5, .pointer l5), (7, .pointer s7), (9, .pointer p9), (51, .bool true)]) (cnd ((h10 != (0 : Int))) (K [(3, .pointer d3), (5, .pointer l5), (7, .pointer s7), (9, .pointer p9), (51, .bool true)]) (K [(3, .pointer d3), (5, .pointer l5), (7, .pointer s7), (9, .pointer p9), (51, .bool ((p9).isNone))])))) := by kernel_rfl
@[go_sem] theorem c41_r8 (K : Env → W) : RP c41 8 [] K =
    (K [(2, .pointer none)]) := by kernel_rfl
@[go_sem] theorem c41_r9 (d3 : Option Addr) (l5 : Option Addr) (s7 : Option Addr) (p9 : Option Addr) (K : Env → W) : RP c41 9 [(3, .pointer d3), (5, .pointer l5), (7, .pointer s7), (9, .pointer p9)] K =
    (nwc #[.pointer d3, .pointer s7, .pointer l5, .pointer p9, str (([] : List UInt8)), str (([] : List UInt8)), str (([] : List UInt8)), str (([] : List UInt8)), str (([] : List UInt8)), str (([] : List UInt8)), str (([] : List UInt8)), str (([] : List UInt8)), .int .i64 (0 : Int), .int .i64 (0 : Int), .int .i64 (0 : Int), .int .i64 (0 : Int), .int .i64 (0 : Int), .int .i64 (0 : Int), .int .i64 (0 : Int), .int .i64 (0 : Int), .int .i64 (0 : Int), .int .i64 (0 : Int), .int .i64 (0 : Int), .int .i64 (0 : Int), .int .i64 (0 : Int), .int .i64 (0 : Int), .int .i64 (0 : Int), .int .i64 (0 : Int)] 81 fun y1_ => (K [(2, .pointer (some y1_))])) := by kernel_rfl
@[go_sem] theorem c41_o : c41.lo 1000000 = [2] := rfl
@[go_sem] theorem c41_e (t2 : Option Addr) (k : Value → W) : RTp c41 [(2, .pointer t2)] k = (k (.pointer t2)) := by kernel_rfl
theorem c41_ok : (c41.P.follows .mixedOrders && okc c41 c41.body) = true := by kernel_rfl
theorem c41_fn {e : Enc} {args : Array Value} {G : e.α → W} {L : List HP} {ρ : Env} (hρ : envA 0 args.toList = ρ) (hs : Nat.ble args.size 58 = true) (h : E L (D c41 (.seq (.reg 0) (.seq (.reg 1) (.seq (.seq (.reg 2) (.cond (.tmp 20) (.seq (.reg 3) (.ret)) (.skip))) (.seq (.reg 4) (.seq (.reg 5) (.seq (.reg 6) (.seq (.seq (.reg 7) (.cond (.tmp 51) (.seq (.reg 8) (.ret)) (.skip))) (.seq (.reg 9) (.ret))))))))) (fnQ c41 e G) ρ)) : E L (cal e Tryz.prog 41 args G) :=
  d_fn (c := c41) Tryz.func41 (by kernel_rfl) (by kernel_rfl) (by kernel_rfl) c41_ok (by kernel_rfl) (by kernel_rfl) hρ hs h
/-! gharry.gharrylaw10.awake -/
noncomputable def c44 : Cfg := { P := Tryz.prog, n := 57, T := TT, body := (Tryz.f44.body).getD .skip, res := Tryz.f44.results.toList, li := lk [] [(0, []), (1, []), (2, [1]), (3, []), (4, [1]), (5, [1, 4]), (6, [1, 4, 7])], lo := lk [] [(0, []), (1, [1]), (2, [1, 25]), (3, [0]), (4, [1, 4]), (5, [1, 4, 7]), (6, [0]), (1000000, [0])], ord := lk (false, []) [] }
@[go_sem] theorem c44_i0 : c44.li 0 = [] := rfl
@[go_sem] theorem c44_i1 : c44.li 1 = [] := rfl
@[go_sem] theorem c44_i2 : c44.li 2 = [1] := rfl
@[go_sem] theorem c44_i3 : c44.li 3 = [] := rfl
@[go_sem] theorem c44_i4 : c44.li 4 = [1] := rfl
@[go_sem] theorem c44_i5 : c44.li 5 = [1, 4] := rfl
@[go_sem] theorem c44_i6 : c44.li 6 = [1, 4, 7] := rfl
@[go_sem] theorem c44_r0 (K : Env → W) : RP c44 0 [] K =
    (K []) := by kernel_rfl
@[go_sem] theorem c44_r1 (K : Env → W) : RP c44 1 [] K =
    (cal eP Tryz.prog 41 #[.int .i64 (2 : Int)] fun (y1_ : Option Addr) => (K [(1, .pointer y1_)])) := by kernel_rfl
@[go_sem] theorem c44_r2 (w1 : Option Addr) (K : Env → W) : RP c44 2 [(1, .pointer w1)] K =
    (cnd ((w1).isNone) (K [(1, .pointer w1), (25, .bool true)]) (cal eB Tryz.prog 47 #[.pointer w1, .int .i64 (0 : Int), .int .u8 (1 : Int)] fun (y1_ : Bool) => (cnd ((!y1_)) (K [(1, .pointer w1), (25, .bool true)]) (cal eB Tryz.prog 47 #[.pointer w1, .int .i64 (1 : Int), .int .u8 (2 : Int)] fun (y2_ : Bool) => (cnd ((!y2_)) (K [(1, .pointer w1), (25, .bool true)]) (cal eB Tryz.prog 47 #[.pointer w1, .int .i64 (2 : Int), .int .u8 (3 : Int)] fun (y3_ : Bool) => (K [(1, .pointer w1), (25, .bool ((!y3_)))]))))))) := by kernel_rfl
@[go_sem] theorem c44_r3 (K : Env → W) : RP c44 3 [] K =
    (K [(0, .bool false)]) := by kernel_rfl
@[go_sem] theorem c44_r4 (w1 : Option Addr) (K : Env → W) : RP c44 4 [(1, .pointer w1)] K =
    (nn w1 fun y1_ => (ld eP ((y1_.add 1)) fun (y2_ : Option Addr) => (cal (eT3 eS eI eI) Tryz.prog 65 #[.pointer y2_, .int .i64 (0 : Int)] fun (y3_ : ((List UInt8) × Int × Int)) => (K [(1, .pointer w1), (4, .int .i64 y3_.2.2)])))) := by kernel_rfl
@[go_sem] theorem c44_r5 (w1 : Option Addr) (e4 : Int) (K : Env → W) : RP c44 5 [(1, .pointer w1), (4, .int .i64 e4)] K =
    (nn w1 fun y1_ => (ld eP ((y1_.add 1)) fun (y2_ : Option Addr) => (cal (eT3 eS eI eI) Tryz.prog 65 #[.pointer y2_, .int .i64 (1 : Int)] fun (y3_ : ((List UInt8) × Int × Int)) => (K [(1, .pointer w1), (4, .int .i64 e4), (7, .int .i64 y3_.2.2)])))) := by kernel_rfl
@[go_sem] theorem c44_r6 (w1 : Option Addr) (e4 : Int) (f7 : Int) (K : Env → W) : RP c44 6 [(1, .pointer w1), (4, .int .i64 e4), (7, .int .i64 f7)] K =
    (cnd ((e4 == (0 : Int))) (nn w1 fun y1_ => (ld eP ((y1_.add 3)) fun (y2_ : Option Addr) => (cal eB Tryz.prog 45 #[.pointer y2_, .int .i64 (2 : Int)] fun (y3_ : Bool) => (K [(0, .bool y3_)])))) (cnd ((f7 == (0 : Int))) (nn w1 fun y4_ => (ld eP ((y4_.add 3)) fun (y5_ : Option Addr) => (cal eB Tryz.prog 45 #[.pointer y5_, .int .i64 (2 : Int)] fun (y6_ : Bool) => (K [(0, .bool y6_)])))) (K [(0, .bool false)]))) := by kernel_rfl
@[go_sem] theorem c44_o : c44.lo 1000000 = [0] := rfl
@[go_sem] theorem c44_e (t0 : Bool) (k : Value → W) : RTp c44 [(0, .bool t0)] k = (k (.bool t0)) := by kernel_rfl
theorem c44_ok : (c44.P.follows .mixedOrders && okc c44 c44.body) = true := by kernel_rfl
theorem c44_fn {e : Enc} {args : Array Value} {G : e.α → W} {L : List HP} {ρ : Env} (hρ : envA 0 args.toList = ρ) (hs : Nat.ble args.size 57 = true) (h : E L (D c44 (.seq (.reg 0) (.seq (.reg 1) (.seq (.seq (.reg 2) (.cond (.tmp 25) (.seq (.reg 3) (.ret)) (.skip))) (.seq (.reg 4) (.seq (.reg 5) (.seq (.reg 6) (.ret))))))) (fnQ c44 e G) ρ)) : E L (cal e Tryz.prog 44 args G) :=
  d_fn (c := c44) Tryz.func44 (by kernel_rfl) (by kernel_rfl) (by kernel_rfl) c44_ok (by kernel_rfl) (by kernel_rfl) hρ hs h
/-! (*gharry.gharrylaw10.world).set -/
noncomputable def c47 : Cfg := { P := Tryz.prog, n := 62, T := TT, body := (Tryz.f47.body).getD .skip, res := Tryz.f47.results.toList, li := lk [] [(0, [0, 1, 2]), (1, [0, 1, 2]), (2, [0, 1, 2, 7, 8]), (3, [8]), (4, [0, 1, 2, 7]), (5, [0, 1, 2, 7, 9]), (6, [9]), (7, [0, 1, 2, 7, 9]), (8, [0]), (9, [0, 1, 2, 7, 9]), (10, [0, 1, 7, 9]), (11, [9])], lo := lk [] [(0, [0, 1, 2]), (1, [0, 1, 2, 7, 8]), (2, [0, 1, 2, 7, 8, 22]), (3, [6]), (4, [0, 1, 2, 7, 9]), (5, [0, 1, 2, 7, 9, 39]), (6, [6]), (7, [0, 1, 2, 7, 9, 43]), (8, [6]), (9, [0, 1, 7, 9]), (10, [9]), (11, [6]), (1000000, [6])], ord := lk (false, []) [(4, (true, [(0, 1), (1, 1), (2, 1), (3, 0), (4, 1), (5, 1), (7, 1), (6, 2), (8, 4), (9, 1)])), (9, (false, [(0, 1), (1, 1), (2, 1), (4, 1), (5, 1), (3, 4), (6, 1), (7, 4)]))] }
@[go_sem] theorem c47_i0 : c47.li 0 = [0, 1, 2] := rfl
@[go_sem] theorem c47_i1 : c47.li 1 = [0, 1, 2] := rfl
@[go_sem] theorem c47_i2 : c47.li 2 = [0, 1, 2, 7, 8] := rfl
@[go_sem] theorem c47_i3 : c47.li 3 = [8] := rfl
@[go_sem] theorem c47_i4 : c47.li 4 = [0, 1, 2, 7] := rfl
@[go_sem] theorem c47_i5 : c47.li 5 = [0, 1, 2, 7, 9] := rfl
@[go_sem] theorem c47_i6 : c47.li 6 = [9] := rfl
@[go_sem] theorem c47_i7 : c47.li 7 = [0, 1, 2, 7, 9] := rfl
@[go_sem] theorem c47_i8 : c47.li 8 = [0] := rfl
@[go_sem] theorem c47_i9 : c47.li 9 = [0, 1, 2, 7, 9] := rfl
@[go_sem] theorem c47_i10 : c47.li 10 = [0, 1, 7, 9] := rfl
@[go_sem] theorem c47_i11 : c47.li 11 = [9] := rfl
@[go_sem] theorem c47_r0 (w0 : Option Addr) (id1 : Int) (c2 : Int) (K : Env → W) : RP c47 0 [(0, .pointer w0), (1, .int .i64 id1), (2, .int .u8 c2)] K =
    (K [(0, .pointer w0), (1, .int .i64 id1), (2, .int .u8 c2)]) := by kernel_rfl
@[go_sem] theorem c47_r1 (w0 : Option Addr) (id1 : Int) (c2 : Int) (K : Env → W) : RP c47 1 [(0, .pointer w0), (1, .int .i64 id1), (2, .int .u8 c2)] K =
    (nn w0 fun y1_ => (ld eP ((y1_.add 2)) fun (y2_ : Option Addr) => (cal (eT2 eI eI) Tryz.prog 20 #[.pointer y2_, v_api_Rec ((⟨(7 : Int), (IntKind.wrap .i64 c2), (1 : Int), (0 : Int), (0 : Int), ([] : List UInt8), ([] : List UInt8), ([] : List UInt8), (0 : Int), (none, 0, 0), (none, 0, 0), (0 : Int), (0 : Int)⟩ : api_Rec))] fun (y3_ : (Int × Int)) => (K [(0, .pointer w0), (1, .int .i64 id1), (2, .int .u8 c2), (7, .int .i64 y3_.1), (8, .int .i64 y3_.2)])))) := by kernel_rfl
@[go_sem] theorem c47_r2 (w0 : Option Addr) (id1 : Int) (c2 : Int) (lsn7 : Int) (e8 : Int) (K : Env → W) : RP c47 2 [(0, .pointer w0), (1, .int .i64 id1), (2, .int .u8 c2), (7, .int .i64 lsn7), (8, .int .i64 e8)] K =
    (K [(0, .pointer w0), (1, .int .i64 id1), (2, .int .u8 c2), (7, .int .i64 lsn7), (8, .int .i64 e8), (22, .bool ((e8 != (0 : Int))))]) := by kernel_rfl
@[go_sem] theorem c47_r3 (e8 : Int) (K : Env → W) : RP c47 3 [(8, .int .i64 e8)] K =
    (K [(6, .bool ((e8 == (7 : Int))))]) := by kernel_rfl
@[go_sem] theorem c47_r4 (w0 : Option Addr) (id1 : Int) (c2 : Int) (lsn7 : Int) (K : Env → W) : RP c47 4 [(0, .pointer w0), (1, .int .i64 id1), (2, .int .u8 c2), (7, .int .i64 lsn7)] K =
    (ph fun S0 => (nn w0 fun y1_ => (ldq S0 eP ((y1_.add 3)) fun (y2_ : Option Addr) => (cal eS Tryz.prog 66 #[.int .u8 c2] fun (y3_ : List UInt8) => (kpn S0 fun S1 => (cal eI Tryz.prog 43 #[.pointer y2_, .int .i64 id1, str y3_, .int .i64 lsn7] fun (y4_ : Int) => (K [(0, .pointer w0), (1, .int .i64 id1), (2, .int .u8 c2), (7, .int .i64 lsn7), (9, .int .i64 y4_)]))))))) := by kernel_rfl
@[go_sem] theorem c47_r5 (w0 : Option Addr) (id1 : Int) (c2 : Int) (lsn7 : Int) (f9 : Int) (K : Env → W) : RP c47 5 [(0, .pointer w0), (1, .int .i64 id1), (2, .int .u8 c2), (7, .int .i64 lsn7), (9, .int .i64 f9)] K =
    (cnd ((decide (id1 < (0 : Int)))) (K [(0, .pointer w0), (1, .int .i64 id1), (2, .int .u8 c2), (7, .int .i64 lsn7), (9, .int .i64 f9), (39, .bool true)]) (K [(0, .pointer w0), (1, .int .i64 id1), (2, .int .u8 c2), (7, .int .i64 lsn7), (9, .int .i64 f9), (39, .bool ((decide ((8 : Int) ≤ id1))))])) := by kernel_rfl
@[go_sem] theorem c47_r6 (f9 : Int) (K : Env → W) : RP c47 6 [(9, .int .i64 f9)] K =
    (K [(6, .bool ((f9 == (6 : Int))))]) := by kernel_rfl
@[go_sem] theorem c47_r7 (w0 : Option Addr) (id1 : Int) (c2 : Int) (lsn7 : Int) (f9 : Int) (K : Env → W) : RP c47 7 [(0, .pointer w0), (1, .int .i64 id1), (2, .int .u8 c2), (7, .int .i64 lsn7), (9, .int .i64 f9)] K =
    (K [(0, .pointer w0), (1, .int .i64 id1), (2, .int .u8 c2), (7, .int .i64 lsn7), (9, .int .i64 f9), (43, .bool ((f9 == (7 : Int))))]) := by kernel_rfl
@[go_sem] theorem c47_r8 (w0 : Option Addr) (K : Env → W) : RP c47 8 [(0, .pointer w0)] K =
    (cal eI Tryz.prog 93 #[.pointer w0] fun (y1_ : Int) => (K [(6, .bool ((decide ((2 : Int) ≤ y1_))))])) := by kernel_rfl
@[go_sem] theorem c47_r9 (w0 : Option Addr) (id1 : Int) (c2 : Int) (lsn7 : Int) (f9 : Int) (K : Env → W) : RP c47 9 [(0, .pointer w0), (1, .int .i64 id1), (2, .int .u8 c2), (7, .int .i64 lsn7), (9, .int .i64 f9)] K =
    (nn w0 fun y1_ => (cal eS Tryz.prog 66 #[.int .u8 c2] fun (y2_ : List UInt8) => (rq (0 ≤ id1 ∧ id1 < ((8 : Nat) : Int)) (st ((Addr.add ((y1_.add 4)) ((id1).toNat * 1))) (str y2_) (K [(0, .pointer w0), (1, .int .i64 id1), (7, .int .i64 lsn7), (9, .int .i64 f9)]))))) := by kernel_rfl
@[go_sem] theorem c47_r10 (w0 : Option Addr) (id1 : Int) (lsn7 : Int) (f9 : Int) (K : Env → W) : RP c47 10 [(0, .pointer w0), (1, .int .i64 id1), (7, .int .i64 lsn7), (9, .int .i64 f9)] K =
    (nn w0 fun y1_ => (rq (0 ≤ id1 ∧ id1 < ((8 : Nat) : Int)) (st ((Addr.add ((y1_.add 12)) ((id1).toNat * 1))) (.int .i64 lsn7) (K [(9, .int .i64 f9)])))) := by kernel_rfl
@[go_sem] theorem c47_r11 (f9 : Int) (K : Env → W) : RP c47 11 [(9, .int .i64 f9)] K =
    (K [(6, .bool ((f9 == (0 : Int))))]) := by kernel_rfl
@[go_sem] theorem c47_o : c47.lo 1000000 = [6] := rfl
@[go_sem] theorem c47_e (t6 : Bool) (k : Value → W) : RTp c47 [(6, .bool t6)] k = (k (.bool t6)) := by kernel_rfl
theorem c47_ok : (c47.P.follows .mixedOrders && okc c47 c47.body) = true := by kernel_rfl
theorem c47_fn {e : Enc} {args : Array Value} {G : e.α → W} {L : List HP} {ρ : Env} (hρ : envA 0 args.toList = ρ) (hs : Nat.ble args.size 62 = true) (h : E L (D c47 (.seq (.reg 0) (.seq (.reg 1) (.seq (.seq (.reg 2) (.cond (.tmp 22) (.seq (.reg 3) (.ret)) (.skip))) (.seq (.reg 4) (.seq (.seq (.reg 5) (.cond (.tmp 39) (.seq (.reg 6) (.ret)) (.skip))) (.seq (.seq (.reg 7) (.cond (.tmp 43) (.seq (.reg 8) (.ret)) (.skip))) (.seq (.reg 9) (.seq (.reg 10) (.seq (.reg 11) (.ret)))))))))) (fnQ c47 e G) ρ)) : E L (cal e Tryz.prog 47 args G) :=
  d_fn (c := c47) Tryz.func47 (by kernel_rfl) (by kernel_rfl) (by kernel_rfl) c47_ok (by kernel_rfl) (by kernel_rfl) hρ hs h
/-! gharry.gharrylaw10.fill -/
noncomputable def c66 : Cfg := { P := Tryz.prog, n := 18, T := TT, body := (Tryz.f66.body).getD .skip, res := Tryz.f66.results.toList, li := lk [] [(0, [0]), (1, [0]), (2, [0, 3]), (3, [0, 3, 4]), (4, [0, 3, 4]), (5, [0, 3, 4]), (6, [3])], lo := lk [] [(0, [0]), (1, [0, 3]), (2, [0, 3, 4]), (3, [0, 3, 4, 9]), (4, [0, 3, 4]), (5, [0, 3, 4]), (6, [2]), (1000000, [2])], ord := lk (false, []) [] }
@[go_sem] theorem c66_i0 : c66.li 0 = [0] := rfl
@[go_sem] theorem c66_i1 : c66.li 1 = [0] := rfl
@[go_sem] theorem c66_i2 : c66.li 2 = [0, 3] := rfl
@[go_sem] theorem c66_i3 : c66.li 3 = [0, 3, 4] := rfl
@[go_sem] theorem c66_i4 : c66.li 4 = [0, 3, 4] := rfl
@[go_sem] theorem c66_i5 : c66.li 5 = [0, 3, 4] := rfl
@[go_sem] theorem c66_i6 : c66.li 6 = [3] := rfl
@[go_sem] theorem c66_r0 (c0 : Int) (K : Env → W) : RP c66 0 [(0, .int .u8 c0)] K =
    (K [(0, .int .u8 c0)]) := by kernel_rfl
@[go_sem] theorem c66_r1 (c0 : Int) (K : Env → W) : RP c66 1 [(0, .int .u8 c0)] K =
    (val eSl Tryz.prog (oMake 116 (.int .i64 (224 : Int)) (.int .i64 (224 : Int))) fun (y1_ : (Option Addr × Nat × Nat)) => (K [(0, .int .u8 c0), (3, .slice y1_.1 y1_.2.1 y1_.2.2)])) := by kernel_rfl
@[go_sem] theorem c66_r2 (c0 : Int) (b3p : Option Addr) (b3n b3c : Nat) (K : Env → W) : RP c66 2 [(0, .int .u8 c0), (3, .slice b3p b3n b3c)] K =
    (K [(0, .int .u8 c0), (3, .slice b3p b3n b3c), (4, .int .i64 (0 : Int))]) := by kernel_rfl
@[go_sem] theorem c66_r3 (c0 : Int) (b3p : Option Addr) (b3n b3c : Nat) (i4 : Int) (K : Env → W) : RP c66 3 [(0, .int .u8 c0), (3, .slice b3p b3n b3c), (4, .int .i64 i4)] K =
    (K [(0, .int .u8 c0), (3, .slice b3p b3n b3c), (4, .int .i64 i4), (9, .bool ((decide (i4 < (b3n : Int)))))]) := by kernel_rfl
@[go_sem] theorem c66_r4 (c0 : Int) (b3p : Option Addr) (b3n b3c : Nat) (i4 : Int) (K : Env → W) : RP c66 4 [(0, .int .u8 c0), (3, .slice b3p b3n b3c), (4, .int .i64 i4)] K =
    (K [(0, .int .u8 c0), (3, .slice b3p b3n b3c), (4, .int .i64 ((IntKind.wrap .i64 (i4 + (1 : Int)))))]) := by kernel_rfl
@[go_sem] theorem c66_r5 (c0 : Int) (b3p : Option Addr) (b3n b3c : Nat) (i4 : Int) (K : Env → W) : RP c66 5 [(0, .int .u8 c0), (3, .slice b3p b3n b3c), (4, .int .i64 i4)] K =
    (rq (0 ≤ i4 ∧ i4 < (b3n : Int)) (nn b3p fun y1_ => (st ((Addr.add y1_ ((i4).toNat * 1))) (.int .u8 c0) (K [(0, .int .u8 c0), (3, .slice b3p b3n b3c), (4, .int .i64 i4)])))) := by kernel_rfl
@[go_sem] theorem c66_r6 (b3p : Option Addr) (b3n b3c : Nat) (K : Env → W) : RP c66 6 [(3, .slice b3p b3n b3c)] K =
    (val eS Tryz.prog (oConv 116 9 (.slice b3p b3n b3c)) fun (y1_ : List UInt8) => (K [(2, str y1_)])) := by kernel_rfl
@[go_sem] theorem c66_o : c66.lo 1000000 = [2] := rfl
@[go_sem] theorem c66_e (t2 : List UInt8) (k : Value → W) : RTp c66 [(2, str t2)] k = (k (str t2)) := by kernel_rfl
theorem c66_ok : (c66.P.follows .mixedOrders && okc c66 c66.body) = true := by kernel_rfl
theorem c66_fn {e : Enc} {args : Array Value} {G : e.α → W} {L : List HP} {ρ : Env} (hρ : envA 0 args.toList = ρ) (hs : Nat.ble args.size 18 = true) (h : E L (D c66 (.seq (.reg 0) (.seq (.reg 1) (.seq (.seq (.reg 2) (.block 0 (.loop (.seq (.seq (.reg 3) (.cond (.tmp 9) (.skip) (.exit 0))) (.seq (.block 1 (.reg 5)) (.reg 4)))))) (.seq (.reg 6) (.ret))))) (fnQ c66 e G) ρ)) : E L (cal e Tryz.prog 66 args G) :=
  d_fn (c := c66) Tryz.func66 (by kernel_rfl) (by kernel_rfl) (by kernel_rfl) c66_ok (by kernel_rfl) (by kernel_rfl) hρ hs h
-- loop (first region 3): live slots 0:c0 3:b3 4:i4, of which it writes [4]
/-! (*gharry.gharrylaw10.world).pinned -/
noncomputable def c93 : Cfg := { P := Tryz.prog, n := 19, T := TT, body := (Tryz.f93.body).getD .skip, res := Tryz.f93.results.toList, li := lk [] [(0, [0]), (1, [0]), (2, [0, 3]), (3, [0, 3, 4]), (4, [0, 3, 4]), (5, [0, 3, 4]), (6, [0, 3, 4]), (7, [3])], lo := lk [] [(0, [0]), (1, [0, 3]), (2, [0, 3, 4]), (3, [0, 3, 4, 6]), (4, [0, 3, 4]), (5, [0, 3, 4, 15]), (6, [0, 3, 4]), (7, [2]), (1000000, [2])], ord := lk (false, []) [] }
@[go_sem] theorem c93_i0 : c93.li 0 = [0] := rfl
@[go_sem] theorem c93_i1 : c93.li 1 = [0] := rfl
@[go_sem] theorem c93_i2 : c93.li 2 = [0, 3] := rfl
@[go_sem] theorem c93_i3 : c93.li 3 = [0, 3, 4] := rfl
@[go_sem] theorem c93_i4 : c93.li 4 = [0, 3, 4] := rfl
@[go_sem] theorem c93_i5 : c93.li 5 = [0, 3, 4] := rfl
@[go_sem] theorem c93_i6 : c93.li 6 = [0, 3, 4] := rfl
@[go_sem] theorem c93_i7 : c93.li 7 = [3] := rfl
@[go_sem] theorem c93_r0 (w0 : Option Addr) (K : Env → W) : RP c93 0 [(0, .pointer w0)] K =
    (K [(0, .pointer w0)]) := by kernel_rfl
@[go_sem] theorem c93_r1 (w0 : Option Addr) (K : Env → W) : RP c93 1 [(0, .pointer w0)] K =
    (K [(0, .pointer w0), (3, .int .i64 (0 : Int))]) := by kernel_rfl
@[go_sem] theorem c93_r2 (w0 : Option Addr) (n3 : Int) (K : Env → W) : RP c93 2 [(0, .pointer w0), (3, .int .i64 n3)] K =
    (K [(0, .pointer w0), (3, .int .i64 n3), (4, .int .i64 (0 : Int))]) := by kernel_rfl
@[go_sem] theorem c93_r3 (w0 : Option Addr) (n3 : Int) (i4 : Int) (K : Env → W) : RP c93 3 [(0, .pointer w0), (3, .int .i64 n3), (4, .int .i64 i4)] K =
    (K [(0, .pointer w0), (3, .int .i64 n3), (4, .int .i64 i4), (6, .bool ((decide (i4 < (8 : Int)))))]) := by kernel_rfl
@[go_sem] theorem c93_r4 (w0 : Option Addr) (n3 : Int) (i4 : Int) (K : Env → W) : RP c93 4 [(0, .pointer w0), (3, .int .i64 n3), (4, .int .i64 i4)] K =
    (K [(0, .pointer w0), (3, .int .i64 n3), (4, .int .i64 ((IntKind.wrap .i64 (i4 + (1 : Int)))))]) := by kernel_rfl
@[go_sem] theorem c93_r5 (w0 : Option Addr) (n3 : Int) (i4 : Int) (K : Env → W) : RP c93 5 [(0, .pointer w0), (3, .int .i64 n3), (4, .int .i64 i4)] K =
    (nn w0 fun y1_ => (rq (0 ≤ i4 ∧ i4 < ((8 : Nat) : Int)) (ld eI ((Addr.add ((y1_.add 20)) ((i4).toNat * 1))) fun (y2_ : Int) => (K [(0, .pointer w0), (3, .int .i64 n3), (4, .int .i64 i4), (15, .bool ((decide ((0 : Int) < y2_))))])))) := by kernel_rfl
@[go_sem] theorem c93_r6 (w0 : Option Addr) (n3 : Int) (i4 : Int) (K : Env → W) : RP c93 6 [(0, .pointer w0), (3, .int .i64 n3), (4, .int .i64 i4)] K =
    (K [(0, .pointer w0), (3, .int .i64 ((IntKind.wrap .i64 (n3 + (1 : Int))))), (4, .int .i64 i4)]) := by kernel_rfl
@[go_sem] theorem c93_r7 (n3 : Int) (K : Env → W) : RP c93 7 [(3, .int .i64 n3)] K =
    (K [(2, .int .i64 n3)]) := by kernel_rfl
@[go_sem] theorem c93_o : c93.lo 1000000 = [2] := rfl
@[go_sem] theorem c93_e (t2 : Int) (k : Value → W) : RTp c93 [(2, .int .i64 t2)] k = (k (.int .i64 t2)) := by kernel_rfl
theorem c93_ok : (c93.P.follows .mixedOrders && okc c93 c93.body) = true := by kernel_rfl
theorem c93_fn {e : Enc} {args : Array Value} {G : e.α → W} {L : List HP} {ρ : Env} (hρ : envA 0 args.toList = ρ) (hs : Nat.ble args.size 19 = true) (h : E L (D c93 (.seq (.reg 0) (.seq (.reg 1) (.seq (.seq (.reg 2) (.block 0 (.loop (.seq (.seq (.reg 3) (.cond (.tmp 6) (.skip) (.exit 0))) (.seq (.block 1 (.seq (.reg 5) (.cond (.tmp 15) (.reg 6) (.skip)))) (.reg 4)))))) (.seq (.reg 7) (.ret))))) (fnQ c93 e G) ρ)) : E L (cal e Tryz.prog 93 args G) :=
  d_fn (c := c93) Tryz.func93 (by kernel_rfl) (by kernel_rfl) (by kernel_rfl) c93_ok (by kernel_rfl) (by kernel_rfl) hρ hs h
-- loop (first region 3): live slots 0:w0 3:n3 4:i4, of which it writes [3, 4]
/-! gharry.gharrylaw10.in -/
end Go.Sp
/- The store: what a page is in its sectors; its small functions. -/
namespace Go.Sp
open Go Go.Proofs
set_option linter.unusedSimpArgs false
set_option linter.unusedVariables false
set_option maxRecDepth 10000
structure St where
  q : Nat
  base : Nat
  pages : Nat
  gen : Nat
abbrev spt (S : St) (sb : Nat) : HP := ar S.q 141 [.pointer (some ⟨sb, 0, none⟩), .int .i64 (S.base : Int), .int .i64 (S.pages : Int), .int .i64 (S.gen : Int)]
abbrev St.p (S : St) : Value := .pointer (some ⟨S.q, 0, none⟩)
/-- The store lies in its disk. -/
structure St.ok (S : St) (n : Nat) : Prop where
  g1 : 1 ≤ S.gen
  g2 : S.gen < 65536
  p1 : 1 ≤ S.pages
  p2 : S.pages ≤ 200
  fit : S.base + 4 * S.pages ≤ n
  n1 : n ≤ 8192
def St.chk (S : St) (id : Int) : Int := if id < 0 ∨ (S.pages : Int) ≤ id then 6 else 0
theorem f82 (S : St) (sb : Nat) (id : Int) : Fp eI Tryz.prog 98 #[S.p, .int .i64 id] [spt S sb] (S.chk id) := fun L => by
  refine c98_fn rfl rfl ?_
  unfold St.chk
  repeat' ((fail_if_success with_reducible refine nph ?_); first | (with_reducible first | (refine d_seq ?_; intro K hK) | (refine hK _ _ ?_; clear hK K) | (refine SG.p ?_; try intro b)) | ((with_reducible refine SC.p ?_); refine And.intro ?_ ?_) <;> intro hc <;> try simp only [push_cast, Int.reduceEq, Int.reduceLT, Int.reduceLE, Int.reduceNe] at hc | with_reducible refine r_rq (by first | decide | omega) ?_ | ((with_reducible refine SL.p ?_); first | refine ⟨_, rfl, ?_⟩ | refine ⟨_, _, _, rfl, ?_⟩ | (refine ⟨?_, rfl, ?_⟩; focus (simp; done))) | ((with_reducible first | apply i_ldn | apply i_ldnq); exact rfl; exact rfl; exact rfl) | ((try with_reducible refine d_reg ?_); simp only [go_sem, Nat.reduceAdd, Nat.reduceEqDiff, Int.reduceToNat, Nat.reduceMul, Nat.reduceSub]) | clear hK K)
  · (with_reducible first | apply i_ret0 | apply i_ret2 | apply i_ret3 | apply i_ret); exact rfl
    rw [if_pos (by omega)]
  · (with_reducible first | apply i_ret0 | apply i_ret2 | apply i_ret3 | apply i_ret); exact rfl
    rw [if_pos (by omega)]
  · (with_reducible first | apply i_ret0 | apply i_ret2 | apply i_ret3 | apply i_ret); exact rfl
    rw [if_neg (by omega)]
def mk8 (gen : Nat) (lsn : Int) : List UInt8 := lowb (gen : Int) 2 ++ lowb lsn 6
theorem mk8_len (gen : Nat) (lsn : Int) : (mk8 gen lsn).length = 8 := by simp [mk8, lowb_len]
theorem p2566 : ((256 ^ 6 : Nat) : Int) = 281474976710656 := by decide
theorem p2562 : ((256 ^ 2 : Nat) : Int) = 65536 := by decide
theorem f83 (S : St) (sb : Nat) (hg : S.gen < 65536) (lsn : Int) : Fp (eT2 eS eI) Tryz.prog 135 #[S.p, .int .i64 lsn] [spt S sb] (if lsn < 0 ∨ 281474976710656 ≤ lsn then ([], 6) else (mk8 S.gen lsn, 0)) := fun L => by
  have F := f97 [] (S.gen : Int) 2 (by decide) (by decide) (by decide)
  have G := f97 (lowb (S.gen : Int) 2) lsn 6 (by decide) (by decide) (by rw [lowb_len]; decide)
  unfold putN at F G
  rw [p2562, if_neg (by omega)] at F
  rw [p2566] at G
  refine c135_fn rfl rfl ?_
  repeat' ((fail_if_success with_reducible refine nph ?_); first | (with_reducible first | (refine d_seq ?_; intro K hK) | (refine hK _ _ ?_; clear hK K) | (refine SG.p ?_; try intro b)) | ((with_reducible refine SC.p ?_); refine And.intro ?_ ?_) <;> intro hc <;> try simp only [push_cast, Int.reduceEq, Int.reduceLT, Int.reduceLE, Int.reduceNe] at hc | with_reducible refine r_rq (by first | decide | omega) ?_ | ((with_reducible refine SL.p ?_); first | refine ⟨_, rfl, ?_⟩ | refine ⟨_, _, _, rfl, ?_⟩ | (refine ⟨?_, rfl, ?_⟩; focus (simp; done))) | ((with_reducible first | apply i_ldn | apply i_ldnq); exact rfl; exact rfl; exact rfl) | ((try with_reducible refine d_reg ?_); simp only [go_sem, Nat.reduceAdd, Nat.reduceEqDiff, Int.reduceToNat, Nat.reduceMul, Nat.reduceSub]) | clear hK K)
  refine i_clp F ?_
  repeat' ((fail_if_success with_reducible refine nph ?_); first | (with_reducible first | (refine d_seq ?_; intro K hK) | (refine hK _ _ ?_; clear hK K) | (refine SG.p ?_; try intro b)) | ((with_reducible refine SC.p ?_); refine And.intro ?_ ?_) <;> intro hc <;> try simp only [push_cast, Int.reduceEq, Int.reduceLT, Int.reduceLE, Int.reduceNe] at hc | with_reducible refine r_rq (by first | decide | omega) ?_ | ((with_reducible refine SL.p ?_); first | refine ⟨_, rfl, ?_⟩ | refine ⟨_, _, _, rfl, ?_⟩ | (refine ⟨?_, rfl, ?_⟩; focus (simp; done))) | ((with_reducible first | apply i_ldn | apply i_ldnq); exact rfl; exact rfl; exact rfl) | ((try with_reducible refine d_reg ?_); simp only [go_sem, Nat.reduceAdd, Nat.reduceEqDiff, Int.reduceToNat, Nat.reduceMul, Nat.reduceSub]) | clear hK K)
  refine i_clp G ?_
  repeat' ((fail_if_success with_reducible refine nph ?_); first | (with_reducible first | (refine d_seq ?_; intro K hK) | (refine hK _ _ ?_; clear hK K) | (refine SG.p ?_; try intro b)) | ((with_reducible refine SC.p ?_); refine And.intro ?_ ?_) <;> intro hc <;> try simp only [push_cast, Int.reduceEq, Int.reduceLT, Int.reduceLE, Int.reduceNe] at hc | with_reducible refine r_rq (by first | decide | omega) ?_ | ((with_reducible refine SL.p ?_); first | refine ⟨_, rfl, ?_⟩ | refine ⟨_, _, _, rfl, ?_⟩ | (refine ⟨?_, rfl, ?_⟩; focus (simp; done))) | ((with_reducible first | apply i_ldn | apply i_ldnq); exact rfl; exact rfl; exact rfl) | ((try with_reducible refine d_reg ?_); simp only [go_sem, Nat.reduceAdd, Nat.reduceEqDiff, Int.reduceToNat, Nat.reduceMul, Nat.reduceSub]) | clear hK K)
  (with_reducible first | apply i_ret0 | apply i_ret2 | apply i_ret3 | apply i_ret); exact rfl
  rfl
def fl (c : UInt8) : List UInt8 := List.replicate 224 c
theorem f47 (c : UInt8) : Fp eS Tryz.prog 66 #[.int .u8 (c.toNat : Int)] [] (fl c) := fun L => by
  refine c66_fn rfl rfl ?_
  repeat' ((fail_if_success with_reducible refine nph ?_); first | (with_reducible first | (refine d_seq ?_; intro K hK) | (refine hK _ _ ?_; clear hK K) | (refine SG.p ?_; try intro b)) | ((with_reducible refine SC.p ?_); refine And.intro ?_ ?_) <;> intro hc <;> try simp only [push_cast, Int.reduceEq, Int.reduceLT, Int.reduceLE, Int.reduceNe] at hc | with_reducible refine r_rq (by first | decide | omega) ?_ | ((with_reducible refine SL.p ?_); first | refine ⟨_, rfl, ?_⟩ | refine ⟨_, _, _, rfl, ?_⟩ | (refine ⟨?_, rfl, ?_⟩; focus (simp; done))) | ((with_reducible first | apply i_ldn | apply i_ldnq); exact rfl; exact rfl; exact rfl) | ((try with_reducible refine d_reg ?_); simp only [go_sem, Nat.reduceAdd, Nat.reduceEqDiff, Int.reduceToNat, Nat.reduceMul, Nat.reduceSub]) | clear hK K)
  refine r_mkb (el := 5) 224 (by kernel_rfl) rfl (by decide) fun b => ?_
  repeat' ((fail_if_success with_reducible refine nph ?_); first | (with_reducible first | (refine d_seq ?_; intro K hK) | (refine hK _ _ ?_; clear hK K) | (refine SG.p ?_; try intro b)) | ((with_reducible refine SC.p ?_); refine And.intro ?_ ?_) <;> intro hc <;> try simp only [push_cast, Int.reduceEq, Int.reduceLT, Int.reduceLE, Int.reduceNe] at hc | with_reducible refine r_rq (by first | decide | omega) ?_ | ((with_reducible refine SL.p ?_); first | refine ⟨_, rfl, ?_⟩ | refine ⟨_, _, _, rfl, ?_⟩ | (refine ⟨?_, rfl, ?_⟩; focus (simp; done))) | ((with_reducible first | apply i_ldn | apply i_ldnq); exact rfl; exact rfl; exact rfl) | ((try with_reducible refine d_reg ?_); simp only [go_sem, Nat.reduceAdd, Nat.reduceEqDiff, Int.reduceToNat, Nat.reduceMul, Nat.reduceSub]) | clear hK K)
  refine d_lp [0, 3, 4] (fun i : Nat => [(0, .int .u8 (c.toNat : Int)), (3, .slice (some ⟨b, 0, none⟩) 224 224), (4, .int .i64 (i : Int))])
    (fun i => ar b 5 (cb ((List.replicate 224 c).take i ++ List.replicate (224 - i) 0)) :: L) (fun i => i ≤ 224) (fun i => 224 - i) 0 rfl ?_ (by omega) ?_
  · have e : (List.replicate 224 c).take 0 ++ List.replicate (224 - 0) (0 : UInt8) = List.replicate 224 0 := by simp
    rw [e]
    exact SX.p
  intro i hi
  repeat' ((fail_if_success with_reducible refine nph ?_); first | (with_reducible first | (refine d_seq ?_; intro K hK) | (refine hK _ _ ?_; clear hK K) | (refine SG.p ?_; try intro b)) | ((with_reducible refine SC.p ?_); refine And.intro ?_ ?_) <;> intro hc <;> try simp only [push_cast, Int.reduceEq, Int.reduceLT, Int.reduceLE, Int.reduceNe] at hc | with_reducible refine r_rq (by first | decide | omega) ?_ | ((with_reducible refine SL.p ?_); first | refine ⟨_, rfl, ?_⟩ | refine ⟨_, _, _, rfl, ?_⟩ | (refine ⟨?_, rfl, ?_⟩; focus (simp; done))) | ((with_reducible first | apply i_ldn | apply i_ldnq); exact rfl; exact rfl; exact rfl) | ((try with_reducible refine d_reg ?_); simp only [go_sem, Nat.reduceAdd, Nat.reduceEqDiff, Int.reduceToNat, Nat.reduceMul, Nat.reduceSub]) | clear hK K)
  · refine r_bs c .here (by rw [List.length_append, List.length_take, List.length_replicate, List.length_replicate]; omega) rfl ?_
    rw [part_set (by omega) (by simp) (by rw [List.getElem?_replicate, if_pos (by omega)])]
    repeat' ((fail_if_success with_reducible refine nph ?_); first | (with_reducible first | (refine d_seq ?_; intro K hK) | (refine hK _ _ ?_; clear hK K) | (refine SG.p ?_; try intro b)) | ((with_reducible refine SC.p ?_); refine And.intro ?_ ?_) <;> intro hc <;> try simp only [push_cast, Int.reduceEq, Int.reduceLT, Int.reduceLE, Int.reduceNe] at hc | with_reducible refine r_rq (by first | decide | omega) ?_ | ((with_reducible refine SL.p ?_); first | refine ⟨_, rfl, ?_⟩ | refine ⟨_, _, _, rfl, ?_⟩ | (refine ⟨?_, rfl, ?_⟩; focus (simp; done))) | ((with_reducible first | apply i_ldn | apply i_ldnq); exact rfl; exact rfl; exact rfl) | ((try with_reducible refine d_reg ?_); simp only [go_sem, Nat.reduceAdd, Nat.reduceEqDiff, Int.reduceToNat, Nat.reduceMul, Nat.reduceSub]) | clear hK K)
    rw [w64 (by omega) (by omega)]
    exact i_bk (i + 1) rfl (by omega) (by omega)
  · obtain rfl : i = 224 := by omega
    have e : (List.replicate 224 c).take 224 ++ List.replicate (224 - 224) (0 : UInt8) = fl c := by simp [fl]
    rw [e]
    refine r_conv (bs := fl c) (by kernel_rfl) ((Rs_ar (by rw [cb_len]; rfl)).eqn rfl) .here ?_
    repeat' (first | (with_reducible first | (refine d_seq ?_; intro K hK) | (refine hK _ _ ?_; clear hK K) | (refine SG.p ?_; try intro b)) | ((with_reducible refine SC.p ?_); refine And.intro ?_ ?_) <;> intro hc <;> try simp only [push_cast, Int.reduceEq, Int.reduceLT, Int.reduceLE, Int.reduceNe] at hc | with_reducible refine r_rq (by first | decide | omega) ?_ | ((with_reducible refine SL.p ?_); first | refine ⟨_, rfl, ?_⟩ | refine ⟨_, _, _, rfl, ?_⟩ | (refine ⟨?_, rfl, ?_⟩; focus (simp; done))) | ((with_reducible first | apply i_ldn | apply i_ldnq); exact rfl; exact rfl; exact rfl) | ((try with_reducible refine d_reg ?_); simp only [go_sem, Nat.reduceAdd, Nat.reduceEqDiff, Int.reduceToNat, Nat.reduceMul, Nat.reduceSub]) | clear hK K)
    (with_reducible first | apply i_ret0 | apply i_ret2 | apply i_ret3 | apply i_ret); exact rfl
    rfl
end Go.Sp
/- The store: a page is written. -/
namespace Go.Sp
open Go Go.Proofs
set_option linter.unusedSimpArgs false
set_option linter.unusedVariables false
set_option maxRecDepth 10000
def pt (text : List UInt8) (i : Nat) : List UInt8 := (text.drop (56 * i)).take 56
theorem pt_len {text : List UInt8} (h : text.length = 224) {i : Nat} (hi : i < 4) : (pt text i).length = 56 := by
  simp [pt, h]; omega
theorem pt_ss (text : List UInt8) (i : Nat) : ss text ((i * 56 : Nat) : Int) (((i + 1) * 56 : Nat) : Int) = pt text i := by
  have e : (i + 1) * 56 = 56 * i + 56 := by omega
  unfold pt
  rw [e, Nat.mul_comm i 56]
  exact ss_n text (56 * i) 56
def Dk.wp (Z : Dk) (a : Nat) (m text : List UInt8) : Nat → Int × Dk
  | 0 => (0, Z)
  | k + 1 => if (Z.wp a m text k).1 = 0 then (Z.wp a m text k).2.write ((a + k : Nat) : Int) (m ++ pt text k) else Z.wp a m text k
theorem Dk.wp_ok {Z : Dk} (h : Z.ok) (a : Nat) (m text : List UInt8) : ∀ k, (Z.wp a m text k).2.ok ∧ (Z.wp a m text k).2.sb = Z.sb
  | 0 => ⟨h, rfl⟩
  | k + 1 => by
    obtain ⟨h1, h2⟩ := Dk.wp_ok h a m text k
    unfold Dk.wp
    split
    · exact ⟨Dk.write_ok h1 _ _, (Dk.write_sb _ _ _).trans h2⟩
    · exact ⟨h1, h2⟩
theorem Dk.wp_bad {Z : Dk} {a : Nat} {m text : List UInt8} {i : Nat} (h : (Z.wp a m text i).1 ≠ 0) : ∀ k, Z.wp a m text (i + k) = Z.wp a m text i
  | 0 => rfl
  | k + 1 => by
    have ih := Dk.wp_bad h k
    show (if (Z.wp a m text (i + k)).1 = 0 then _ else Z.wp a m text (i + k)) = _
    rw [ih, if_neg h]
def Dk.wpg (Z : Dk) (S : St) (id : Int) (text : List UInt8) (lsn : Int) : Int × Dk :=
  if S.chk id = 0 then (if text.length = 224 then (if lsn < 0 ∨ 281474976710656 ≤ lsn then (6, Z) else Z.wp (S.base + 4 * id.toNat) (mk8 S.gen lsn) text 4) else (4, Z)) else (6, Z)
theorem St.chk_or (S : St) (id : Int) : S.chk id = 6 ∨ S.chk id = 0 := by unfold St.chk; split <;> simp
theorem St.chk_in {S : St} {id : Int} (h : S.chk id = 0) : ∃ p : Nat, id = (p : Int) ∧ p < S.pages := by
  unfold St.chk at h
  split at h
  · cases h
  · exact ⟨id.toNat, by omega, by omega⟩
theorem f46 (S : St) (Z : Dk) (h : Z.ok) (hS : S.ok Z.sure.length) (id : Int) (text : List UInt8) (lsn : Int) :
    Fq eI Tryz.prog 121 #[S.p, .int .i64 id, str text, .int .i64 lsn] [spt S Z.sb, dk Z] [spt S Z.sb, dk (Z.wpg S id text lsn).2] (Z.wpg S id text lsn).1 := by
  have C := f82 S Z.sb id
  have M := f83 S Z.sb hS.g2 lsn
  unfold Dk.wpg
  rcases S.chk_or id with hc | hc
  · rw [hc] at C ⊢
    rw [if_neg (by decide : ¬ (6 : Int) = 0)]
    intro L
    refine c121_fn rfl rfl ?_
    repeat' ((fail_if_success with_reducible refine nph ?_); first | (with_reducible first | (refine d_seq ?_; intro K hK) | (refine hK _ _ ?_; clear hK K) | (refine SG.p ?_; try intro b)) | ((with_reducible refine SC.p ?_); refine And.intro ?_ ?_) <;> intro hc <;> try simp only [push_cast, Int.reduceEq, Int.reduceLT, Int.reduceLE, Int.reduceNe] at hc | with_reducible refine r_rq (by first | decide | omega) ?_ | ((with_reducible refine SL.p ?_); first | refine ⟨_, rfl, ?_⟩ | refine ⟨_, _, _, rfl, ?_⟩ | (refine ⟨?_, rfl, ?_⟩; focus (simp; done))) | ((with_reducible first | apply i_ldn | apply i_ldnq); exact rfl; exact rfl; exact rfl) | ((try with_reducible refine d_reg ?_); simp only [go_sem, Nat.reduceAdd, Nat.reduceEqDiff, Int.reduceToNat, Nat.reduceMul, Nat.reduceSub]) | clear hK K)
    refine i_clp C ?_
    repeat' ((fail_if_success with_reducible refine nph ?_); first | (with_reducible first | (refine d_seq ?_; intro K hK) | (refine hK _ _ ?_; clear hK K) | (refine SG.p ?_; try intro b)) | ((with_reducible refine SC.p ?_); refine And.intro ?_ ?_) <;> intro hc <;> try simp only [push_cast, Int.reduceEq, Int.reduceLT, Int.reduceLE, Int.reduceNe] at hc | with_reducible refine r_rq (by first | decide | omega) ?_ | ((with_reducible refine SL.p ?_); first | refine ⟨_, rfl, ?_⟩ | refine ⟨_, _, _, rfl, ?_⟩ | (refine ⟨?_, rfl, ?_⟩; focus (simp; done))) | ((with_reducible first | apply i_ldn | apply i_ldnq); exact rfl; exact rfl; exact rfl) | ((try with_reducible refine d_reg ?_); simp only [go_sem, Nat.reduceAdd, Nat.reduceEqDiff, Int.reduceToNat, Nat.reduceMul, Nat.reduceSub]) | clear hK K)
    all_goals try (first | contradiction | (simp only [ reduceCtorEq] at *; done) | (exfalso; omega))
    (with_reducible first | apply i_ret0 | apply i_ret2 | apply i_ret3 | apply i_ret); exact rfl
    rfl
  · obtain ⟨p, rfl, hp⟩ := St.chk_in hc
    rw [hc] at C ⊢
    rw [if_pos rfl]
    by_cases h1 : text.length = 224
    · rw [if_pos h1]
      by_cases h2 : lsn < 0 ∨ 281474976710656 ≤ lsn
      · rw [if_pos h2] at M ⊢
        intro L
        refine c121_fn rfl rfl ?_
        repeat' ((fail_if_success with_reducible refine nph ?_); first | (with_reducible first | (refine d_seq ?_; intro K hK) | (refine hK _ _ ?_; clear hK K) | (refine SG.p ?_; try intro b)) | ((with_reducible refine SC.p ?_); refine And.intro ?_ ?_) <;> intro hc <;> try simp only [push_cast, Int.reduceEq, Int.reduceLT, Int.reduceLE, Int.reduceNe] at hc | with_reducible refine r_rq (by first | decide | omega) ?_ | ((with_reducible refine SL.p ?_); first | refine ⟨_, rfl, ?_⟩ | refine ⟨_, _, _, rfl, ?_⟩ | (refine ⟨?_, rfl, ?_⟩; focus (simp; done))) | ((with_reducible first | apply i_ldn | apply i_ldnq); exact rfl; exact rfl; exact rfl) | ((try with_reducible refine d_reg ?_); simp only [go_sem, Nat.reduceAdd, Nat.reduceEqDiff, Int.reduceToNat, Nat.reduceMul, Nat.reduceSub]) | clear hK K)
        refine i_clp C ?_
        repeat' ((fail_if_success with_reducible refine nph ?_); first | (with_reducible first | (refine d_seq ?_; intro K hK) | (refine hK _ _ ?_; clear hK K) | (refine SG.p ?_; try intro b)) | ((with_reducible refine SC.p ?_); refine And.intro ?_ ?_) <;> intro hc <;> try simp only [push_cast, Int.reduceEq, Int.reduceLT, Int.reduceLE, Int.reduceNe] at hc | with_reducible refine r_rq (by first | decide | omega) ?_ | ((with_reducible refine SL.p ?_); first | refine ⟨_, rfl, ?_⟩ | refine ⟨_, _, _, rfl, ?_⟩ | (refine ⟨?_, rfl, ?_⟩; focus (simp; done))) | ((with_reducible first | apply i_ldn | apply i_ldnq); exact rfl; exact rfl; exact rfl) | ((try with_reducible refine d_reg ?_); simp only [go_sem, Nat.reduceAdd, Nat.reduceEqDiff, Int.reduceToNat, Nat.reduceMul, Nat.reduceSub]) | clear hK K)
        all_goals try (exfalso; omega)
        refine i_clp M ?_
        repeat' ((fail_if_success with_reducible refine nph ?_); first | (with_reducible first | (refine d_seq ?_; intro K hK) | (refine hK _ _ ?_; clear hK K) | (refine SG.p ?_; try intro b)) | ((with_reducible refine SC.p ?_); refine And.intro ?_ ?_) <;> intro hc <;> try simp only [push_cast, Int.reduceEq, Int.reduceLT, Int.reduceLE, Int.reduceNe] at hc | with_reducible refine r_rq (by first | decide | omega) ?_ | ((with_reducible refine SL.p ?_); first | refine ⟨_, rfl, ?_⟩ | refine ⟨_, _, _, rfl, ?_⟩ | (refine ⟨?_, rfl, ?_⟩; focus (simp; done))) | ((with_reducible first | apply i_ldn | apply i_ldnq); exact rfl; exact rfl; exact rfl) | ((try with_reducible refine d_reg ?_); simp only [go_sem, Nat.reduceAdd, Nat.reduceEqDiff, Int.reduceToNat, Nat.reduceMul, Nat.reduceSub]) | clear hK K)
        all_goals try (first | contradiction | (simp only [ reduceCtorEq] at *; done) | (exfalso; omega))
        (with_reducible first | apply i_ret0 | apply i_ret2 | apply i_ret3 | apply i_ret); exact rfl
        rfl
      · rw [if_neg h2] at M ⊢
        rw [Int.toNat_natCast]
        have hm := mk8_len S.gen lsn
        generalize mk8 S.gen lsn = m at *
        obtain ⟨a, ha⟩ : ∃ a, a = S.base + 4 * p := ⟨_, rfl⟩
        rw [← ha]
        have hfit := hS.fit
        have hn1 := hS.n1
        clear h2 hc
        intro L
        refine c121_fn rfl rfl ?_
        repeat' ((fail_if_success with_reducible refine nph ?_); first | (with_reducible first | (refine d_seq ?_; intro K hK) | (refine hK _ _ ?_; clear hK K) | (refine SG.p ?_; try intro b)) | ((with_reducible refine SC.p ?_); refine And.intro ?_ ?_) <;> intro hc <;> try simp only [push_cast, Int.reduceEq, Int.reduceLT, Int.reduceLE, Int.reduceNe] at hc | with_reducible refine r_rq (by first | decide | omega) ?_ | ((with_reducible refine SL.p ?_); first | refine ⟨_, rfl, ?_⟩ | refine ⟨_, _, _, rfl, ?_⟩ | (refine ⟨?_, rfl, ?_⟩; focus (simp; done))) | ((with_reducible first | apply i_ldn | apply i_ldnq); exact rfl; exact rfl; exact rfl) | ((try with_reducible refine d_reg ?_); simp only [go_sem, Nat.reduceAdd, Nat.reduceEqDiff, Int.reduceToNat, Nat.reduceMul, Nat.reduceSub]) | clear hK K)
        refine i_clp C ?_
        repeat' ((fail_if_success with_reducible refine nph ?_); first | (with_reducible first | (refine d_seq ?_; intro K hK) | (refine hK _ _ ?_; clear hK K) | (refine SG.p ?_; try intro b)) | ((with_reducible refine SC.p ?_); refine And.intro ?_ ?_) <;> intro hc <;> try simp only [push_cast, Int.reduceEq, Int.reduceLT, Int.reduceLE, Int.reduceNe] at hc | with_reducible refine r_rq (by first | decide | omega) ?_ | ((with_reducible refine SL.p ?_); first | refine ⟨_, rfl, ?_⟩ | refine ⟨_, _, _, rfl, ?_⟩ | (refine ⟨?_, rfl, ?_⟩; focus (simp; done))) | ((with_reducible first | apply i_ldn | apply i_ldnq); exact rfl; exact rfl; exact rfl) | ((try with_reducible refine d_reg ?_); simp only [go_sem, Nat.reduceAdd, Nat.reduceEqDiff, Int.reduceToNat, Nat.reduceMul, Nat.reduceSub]) | clear hK K)
        all_goals try (exfalso; omega)
        refine i_clp M ?_
        repeat' ((fail_if_success with_reducible refine nph ?_); first | (with_reducible first | (refine d_seq ?_; intro K hK) | (refine hK _ _ ?_; clear hK K) | (refine SG.p ?_; try intro b)) | ((with_reducible refine SC.p ?_); refine And.intro ?_ ?_) <;> intro hc <;> try simp only [push_cast, Int.reduceEq, Int.reduceLT, Int.reduceLE, Int.reduceNe] at hc | with_reducible refine r_rq (by first | decide | omega) ?_ | ((with_reducible refine SL.p ?_); first | refine ⟨_, rfl, ?_⟩ | refine ⟨_, _, _, rfl, ?_⟩ | (refine ⟨?_, rfl, ?_⟩; focus (simp; done))) | ((with_reducible first | apply i_ldn | apply i_ldnq); exact rfl; exact rfl; exact rfl) | ((try with_reducible refine d_reg ?_); simp only [go_sem, Nat.reduceAdd, Nat.reduceEqDiff, Int.reduceToNat, Nat.reduceMul, Nat.reduceSub]) | clear hK K)
        all_goals try (first | contradiction | (simp only [ reduceCtorEq] at *; done) | (exfalso; omega))
        refine d_lp [0, 1, 2, 10, 32] (fun i : Nat => [(0, .pointer (some ⟨S.q, 0, none⟩)), (1, .int .i64 (p : Int)), (2, str text), (10, str m), (32, .int .i64 (i : Int))])
          (fun i => spt S Z.sb :: dk (Z.wp a m text i).2 :: L) (fun i => i ≤ 4 ∧ (Z.wp a m text i).1 = 0) (fun i => 4 - i) 0 rfl ?_ ⟨by omega, rfl⟩ ?_
        · show Sub (spt S Z.sb :: dk Z :: L) _
          exact SX.p
        rintro i ⟨hi, h0⟩
        repeat' ((fail_if_success with_reducible refine nph ?_); first | (with_reducible first | (refine d_seq ?_; intro K hK) | (refine hK _ _ ?_; clear hK K) | (refine SG.p ?_; try intro b)) | ((with_reducible refine SC.p ?_); refine And.intro ?_ ?_) <;> intro hc <;> try simp only [push_cast, Int.reduceEq, Int.reduceLT, Int.reduceLE, Int.reduceNe] at hc | with_reducible refine r_rq (by first | decide | omega) ?_ | ((with_reducible refine SL.p ?_); first | refine ⟨_, rfl, ?_⟩ | refine ⟨_, _, _, rfl, ?_⟩ | (refine ⟨?_, rfl, ?_⟩; focus (simp; done))) | ((with_reducible first | apply i_ldn | apply i_ldnq); exact rfl; exact rfl; exact rfl) | ((try with_reducible refine d_reg ?_); simp only [go_sem, Nat.reduceAdd, Nat.reduceEqDiff, Int.reduceToNat, Nat.reduceMul, Nat.reduceSub]) | clear hK K)
        · obtain ⟨o1, o2⟩ := Dk.wp_ok h a m text i
          have F := F27 _ o1 ((a + i : Nat) : Int) (m ++ pt text i)
          have es : Z.wp a m text (i + 1) = (Z.wp a m text i).2.write ((a + i : Nat) : Int) (m ++ pt text i) := by show ite _ _ _ = _; rw [if_pos h0]
          rw [← es] at F
          simp only [Dk.p, o2] at F
          have e1 : IntKind.wrap .i64 ((i : Int) * 56) = ((i * 56 : Nat) : Int) := by rw [w64 (by omega) (by omega)]; omega
          have e2 : IntKind.wrap .i64 (IntKind.wrap .i64 ((i : Int) + 1) * 56) = (((i + 1) * 56 : Nat) : Int) := by rw [w64 (n := (i : Int) + 1) (by omega) (by omega), w64 (by omega) (by omega)]; omega
          have e3 : IntKind.wrap .i64 (IntKind.wrap .i64 ((S.base : Int) + IntKind.wrap .i64 (4 * (p : Int))) + (i : Int)) = ((a + i : Nat) : Int) := by
            rw [w64 (n := 4 * (p : Int)) (by omega) (by omega), w64 (n := (S.base : Int) + 4 * (p : Int)) (by omega) (by omega), w64 (by omega) (by omega)]; omega
          have hpl := pt_len h1 (i := i) (by omega)
          rw [e1, e2, pt_ss]
          repeat' (first | (with_reducible first | (refine d_seq ?_; intro K hK) | (refine hK _ _ ?_; clear hK K) | (refine SG.p ?_; try intro b)) | ((with_reducible refine SC.p ?_); refine And.intro ?_ ?_) <;> intro hc <;> try simp only [push_cast, Int.reduceEq, Int.reduceLT, Int.reduceLE, Int.reduceNe] at hc | with_reducible refine r_rq (by first | decide | omega) ?_ | ((with_reducible refine SL.p ?_); first | refine ⟨_, rfl, ?_⟩ | refine ⟨_, _, _, rfl, ?_⟩ | (refine ⟨?_, rfl, ?_⟩; focus (simp; done))) | ((with_reducible first | apply i_ldn | apply i_ldnq); exact rfl; exact rfl; exact rfl) | ((try with_reducible refine d_reg ?_); simp only [go_sem, Nat.reduceAdd, Nat.reduceEqDiff, Int.reduceToNat, Nat.reduceMul, Nat.reduceSub]) | clear hK K)
          rw [e3]
          refine i_clq F ?_
          repeat' ((fail_if_success with_reducible refine nph ?_); first | (with_reducible first | (refine d_seq ?_; intro K hK) | (refine hK _ _ ?_; clear hK K) | (refine SG.p ?_; try intro b)) | ((with_reducible refine SC.p ?_); refine And.intro ?_ ?_) <;> intro hc <;> try simp only [push_cast, Int.reduceEq, Int.reduceLT, Int.reduceLE, Int.reduceNe] at hc | with_reducible refine r_rq (by first | decide | omega) ?_ | ((with_reducible refine SL.p ?_); first | refine ⟨_, rfl, ?_⟩ | refine ⟨_, _, _, rfl, ?_⟩ | (refine ⟨?_, rfl, ?_⟩; focus (simp; done))) | ((with_reducible first | apply i_ldn | apply i_ldnq); exact rfl; exact rfl; exact rfl) | ((try with_reducible refine d_reg ?_); simp only [go_sem, Nat.reduceAdd, Nat.reduceEqDiff, Int.reduceToNat, Nat.reduceMul, Nat.reduceSub]) | clear hK K)
          · have hb : (Z.wp a m text (i + 1)).1 ≠ 0 := by assumption
            have e4 : Z.wp a m text 4 = Z.wp a m text (i + 1) := by
              have := Dk.wp_bad hb (4 - (i + 1))
              rwa [show i + 1 + (4 - (i + 1)) = 4 by omega] at this
            rw [e4]
            (with_reducible first | apply i_ret0 | apply i_ret2 | apply i_ret3 | apply i_ret); exact rfl
            rfl
          · have hb : (Z.wp a m text (i + 1)).1 = 0 := by assumption
            rw [w64 (by omega) (by omega)]
            exact i_bk (i + 1) rfl ⟨by omega, hb⟩ (by omega)
        · obtain rfl : i = 4 := by omega
          (with_reducible first | apply i_ret0 | apply i_ret2 | apply i_ret3 | apply i_ret); exact rfl
          exact h0.symm
    · rw [if_neg h1]
      intro L
      refine c121_fn rfl rfl ?_
      repeat' ((fail_if_success with_reducible refine nph ?_); first | (with_reducible first | (refine d_seq ?_; intro K hK) | (refine hK _ _ ?_; clear hK K) | (refine SG.p ?_; try intro b)) | ((with_reducible refine SC.p ?_); refine And.intro ?_ ?_) <;> intro hc <;> try simp only [push_cast, Int.reduceEq, Int.reduceLT, Int.reduceLE, Int.reduceNe] at hc | with_reducible refine r_rq (by first | decide | omega) ?_ | ((with_reducible refine SL.p ?_); first | refine ⟨_, rfl, ?_⟩ | refine ⟨_, _, _, rfl, ?_⟩ | (refine ⟨?_, rfl, ?_⟩; focus (simp; done))) | ((with_reducible first | apply i_ldn | apply i_ldnq); exact rfl; exact rfl; exact rfl) | ((try with_reducible refine d_reg ?_); simp only [go_sem, Nat.reduceAdd, Nat.reduceEqDiff, Int.reduceToNat, Nat.reduceMul, Nat.reduceSub]) | clear hK K)
      refine i_clp C ?_
      repeat' ((fail_if_success with_reducible refine nph ?_); first | (with_reducible first | (refine d_seq ?_; intro K hK) | (refine hK _ _ ?_; clear hK K) | (refine SG.p ?_; try intro b)) | ((with_reducible refine SC.p ?_); refine And.intro ?_ ?_) <;> intro hc <;> try simp only [push_cast, Int.reduceEq, Int.reduceLT, Int.reduceLE, Int.reduceNe] at hc | with_reducible refine r_rq (by first | decide | omega) ?_ | ((with_reducible refine SL.p ?_); first | refine ⟨_, rfl, ?_⟩ | refine ⟨_, _, _, rfl, ?_⟩ | (refine ⟨?_, rfl, ?_⟩; focus (simp; done))) | ((with_reducible first | apply i_ldn | apply i_ldnq); exact rfl; exact rfl; exact rfl) | ((try with_reducible refine d_reg ?_); simp only [go_sem, Nat.reduceAdd, Nat.reduceEqDiff, Int.reduceToNat, Nat.reduceMul, Nat.reduceSub]) | clear hK K)
      all_goals try (exfalso; omega)
      (with_reducible first | apply i_ret0 | apply i_ret2 | apply i_ret3 | apply i_ret); exact rfl
      rfl
end Go.Sp
