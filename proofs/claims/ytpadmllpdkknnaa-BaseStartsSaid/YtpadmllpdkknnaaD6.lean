/- The disk: what was written last lasts. -/
import Derived.Test.YtpadmllpdkknnaaD5
namespace Go.Sp
open Go Go.Proofs
set_option linter.unusedSimpArgs false
set_option linter.unusedVariables false
set_option maxRecDepth 10000
theorem toN1 {a : Int} {j : Nat} (h : a = (j : Int)) : a.toNat = j := by omega
theorem toN2 {a : Int} {j : Nat} (h0 : 0 ≤ a) (h : ¬ a = (j : Int)) : a.toNat ≠ j := by omega
theorem toN3 {a : Int} {n : Nat} (h0 : 0 ≤ a ∧ a < (n : Int)) : a.toNat < n := by omega
theorem pk_keys (es : Ents eI eS) (k : Int) (v : List UInt8) (c : Nat) : (pk es k v c).map (·.1) = if gk es k = none then es.map (·.1) ++ [k] else es.map (·.1) := by
  induction es with
  | nil => simp [pk, gk]
  | cons x r ih =>
    by_cases h : x.1 = k
    · simp [pk, gk, h]
    · simp only [pk, gk, h, if_false, List.map_cons, ih]
      split <;> simp
theorem pk_born (es : Ents eI eS) (k : Int) (v : List UInt8) (c : Nat) : (pk es k v c).map (·.2.2) = if gk es k = none then es.map (·.2.2) ++ [c] else es.map (·.2.2) := by
  induction es with
  | nil => simp [pk, gk]
  | cons x r ih =>
    by_cases h : x.1 = k
    · simp [pk, gk, h]
    · simp only [pk, gk, h, if_false, List.map_cons, ih]
      split <;> simp
theorem pk_mem {es : Ents eI eS} {k : Int} {v : List UInt8} {c : Nat} {x : Int × List UInt8 × Nat} (h : x ∈ pk es k v c) : x ∈ es ∨ (x.1 = k ∧ x.2.1 = v) := by
  induction es with
  | nil => simp [pk] at h; right; simp [h]
  | cons y r ih =>
    unfold pk at h
    split at h
    · rcases List.mem_cons.1 h with rfl | h
      · right; simp
      · left; simp [h]
    · rcases List.mem_cons.1 h with rfl | h
      · left; simp
      · rcases ih h with h | h
        · left; simp [h]
        · right; exact h
theorem gk_some {es : Ents eI eS} {k : Int} (h : ¬ gk es k = none) : k ∈ es.map (·.1) := by
  cases hg : gk es k with
  | none => exact absurd hg h
  | some v => obtain ⟨x, hx, e, _⟩ := gk_mem hg; exact List.mem_map.2 ⟨x, hx, e⟩
theorem Dk.put_ok {D : Dk} (h : D.ok) {i : Int} (h0 : 0 ≤ i) (h1 : i < D.sure.length) {s : List UInt8} (hs : s.length = 64) : (D.put i s).ok := by
  obtain ⟨g1, g2, g3, g4, g5, g6, g7, g8, g9, g10⟩ := h
  have hb : ∀ b ∈ (pk D.es i s D.c).map (·.2.2), b < ck D.es i D.c := by
    intro b hb
    rw [pk_born] at hb
    unfold ck
    split at hb
    · rename_i hn
      rw [if_pos hn]
      rcases List.mem_append.1 hb with hb | hb
      · obtain ⟨x, hx, rfl⟩ := List.mem_map.1 hb
        have := g6 x hx; omega
      · simp at hb; omega
    · rename_i hn
      rw [if_neg hn]
      obtain ⟨x, hx, rfl⟩ := List.mem_map.1 hb
      exact g6 x hx
  refine ⟨g1, g2, g3, ?_, ?_, fun x hx => hb _ (List.mem_map.2 ⟨x, hx, rfl⟩), ?_, ?_, g9, g10⟩
  · intro x hx
    rcases pk_mem hx with hx | ⟨_, rfl⟩
    · exact g4 x hx
    · exact hs
  · intro x hx
    rcases pk_mem hx with hx | ⟨rfl, _⟩
    · exact g5 x hx
    · exact ⟨h0, h1⟩
  · refine (congrArg List.Nodup (pk_keys D.es i s D.c)).mpr ?_
    split
    · rename_i hn
      rw [List.nodup_append]
      refine ⟨g7, by simp, ?_⟩
      intro a ha b hb' e
      simp at hb'
      obtain ⟨x, hx, rfl⟩ := List.mem_map.1 ha
      exact gk_none hn x hx (e.trans hb')
    · exact g7
  · refine (congrArg List.Nodup (pk_born D.es i s D.c)).mpr ?_
    split
    · rw [List.nodup_append]
      refine ⟨g8, by simp, ?_⟩
      intro a ha b hb' e
      simp at hb'
      obtain ⟨x, hx, rfl⟩ := List.mem_map.1 ha
      have := g6 x hx
      omega
    · exact g8
theorem Dk.act_len (D : Dk) : D.act.2.sure.length = D.sure.length := by
  unfold Dk.act
  split
  · exact Dk.cutn_len D _ _
  · rfl
theorem Dk.write_ok {D : Dk} (h : D.ok) (i : Int) (s : List UInt8) : (D.write i s).2.ok := by
  unfold Dk.write
  split
  · rename_i h0
    have := Dk.chk_ok h0
    split
    · exact h
    · split
      · exact Dk.put_ok (Dk.act_ok h) this.2.1 (by rw [Dk.act_len]; exact this.2.2) (wh_len (by omega))
      · exact Dk.act_ok h
  · exact h
/-- Sectors written one by one. -/
def sy (S : Ents eI eS) (l : List (List UInt8)) : List (List UInt8) := S.foldl (fun s x => s.set x.1.toNat x.2.1) l
theorem sy_snoc (S : Ents eI eS) (x : Int × List UInt8 × Nat) (l : List (List UInt8)) : sy (S ++ [x]) l = (sy S l).set x.1.toNat x.2.1 := by simp [sy]
theorem sy_len (S : Ents eI eS) (l : List (List UInt8)) : (sy S l).length = l.length := by
  induction S generalizing l with
  | nil => rfl
  | cons x r ih => show (sy r (l.set x.1.toNat x.2.1)).length = _; rw [ih]; simp
theorem sy_get (S : Ents eI eS) : ∀ (l : List (List UInt8)) (_ : (S.map (·.1)).Nodup) (_ : ∀ x ∈ S, 0 ≤ x.1 ∧ x.1 < (l.length : Int)) (j : Nat) (_ : j < l.length), (sy S l)[j]? = some ((gk S (j : Int)).getD (l.getD j [])) := by
  induction S with
  | nil => intro l _ _ j hj; simp [sy, gk, hj]
  | cons x r ih =>
    intro l hn hr j hj
    rw [List.map_cons, List.nodup_cons] at hn
    show (sy r (l.set x.1.toNat x.2.1))[j]? = _
    rw [ih _ hn.2 (fun y hy => by simpa using hr y (by simp [hy])) j (by simpa using hj)]
    have hx : (0 : Int) ≤ x.1 ∧ (x.1 : Int) < (l.length : Int) := hr x (by simp)
    by_cases h : x.1 = (j : Int)
    · have hg : gk r (j : Int) = none := by
        cases hg : gk r (j : Int) with
        | none => rfl
        | some v => exact absurd (h ▸ gk_some (by rw [hg]; simp)) hn.1
      have : x.1.toNat = j := toN1 h
      simp [gk, h, hg, hj]
    · have : x.1.toNat ≠ j := toN2 hx.1 h
      simp [gk, h, this]
theorem gk_perm {S es : Ents eI eS} (h : S.Perm es) (hn : (es.map (·.1)).Nodup) (k : Int) : gk S k = gk es k := by
  have hn' : (S.map (·.1)).Nodup := (h.map _).nodup_iff.2 hn
  have key : ∀ {A : Ents eI eS} {x : Int × List UInt8 × Nat}, (A.map (·.1)).Nodup → x ∈ A → gk A x.1 = some x.2.1 := by
    intro A x hA hx
    induction A with
    | nil => cases hx
    | cons y r ih =>
      rw [List.map_cons, List.nodup_cons] at hA
      by_cases e : y.1 = x.1
      · cases hx with
        | head => simp [gk]
        | tail _ hx => exact absurd (List.mem_map.2 ⟨x, hx, e.symm⟩) hA.1
      · cases hx with
        | head => exact absurd rfl e
        | tail _ hx => simp only [gk, e, if_false]; exact ih hA.2 hx
  cases hg : gk es k with
  | none =>
    cases hs : gk S k with
    | none => rfl
    | some v =>
      obtain ⟨x, hx, e, _⟩ := gk_mem hs
      exact absurd e (gk_none hg x (h.mem_iff.1 hx))
  | some v =>
    obtain ⟨x, hx, rfl, rfl⟩ := gk_mem hg
    exact key hn' (h.mem_iff.2 hx)
/-- All that was written last, lasting. -/
def Dk.flush (D : Dk) : Dk := { D with sure := sy D.es D.sure, es := [] }
theorem sy_perm {S es : Ents eI eS} {l : List (List UInt8)} (h : S.Perm es) (hn : (es.map (·.1)).Nodup) (hr : ∀ x ∈ es, 0 ≤ x.1 ∧ x.1 < (l.length : Int)) : sy S l = sy es l := by
  apply List.ext_getElem?
  intro j
  by_cases hj : j < l.length
  · rw [sy_get S l ((h.map _).nodup_iff.2 hn) (fun x hx => hr x (h.mem_iff.1 hx)) j hj, sy_get es l hn hr j hj, gk_perm h hn]
  · rw [List.getElem?_eq_none (by rw [sy_len]; omega), List.getElem?_eq_none (by rw [sy_len]; omega)]
def Dk.sync (D : Dk) : Int × Dk := if D.chk 0 = 0 then (if D.act.1 = 0 then (0, D.act.2.flush) else (D.act.1, D.act.2)) else (D.chk 0, D)
theorem f28 (D : Dk) (h : D.ok) : Fq eI Try.prog 28 #[D.p] (dkl D) (dkl D.sync.2) D.sync.1 := by
  unfold Dk.sync
  by_cases h0 : D.chk 0 = 0
  · simp only [h0, if_true]
    by_cases h2 : D.act.1 = 0 <;> simp only [h2, if_true, if_false]
    all_goals
      intro L
      refine c28_fn rfl rfl ?_
      simp only [Dk.p]
      repeat' ((fail_if_success with_reducible refine (id : E _ (ph _) → E _ (ph _)) ?_); first | ((with_reducible refine d_seq ?_); intro K hK) | ((with_reducible refine d_reg ?_); simp only [go_sem, Nat.reduceAdd, Nat.reduceEqDiff, Int.reduceToNat, Nat.reduceMul, Nat.reduceSub]) | ((first | ((with_reducible refine d_cnd ?_); refine And.intro ?_ ?_) | (with_reducible refine r_cnd ?_ ?_)); all_goals (intro hc; (try simp only [push_cast, Int.reduceEq, Int.reduceLT, Int.reduceLE, Int.reduceNe] at hc))) | ((with_reducible refine hK _ _ ?_); clear hK; clear K) | ((with_reducible first | refine d_blk ?_ | refine d_rt0 ?_ | refine d_sk0 ?_ | refine d_ex0 ?_); (try simp only [go_sem, Nat.reduceAdd, Nat.reduceEqDiff, Int.reduceToNat, Nat.reduceMul, Nat.reduceSub])) | (with_reducible refine r_rq (by first | decide | omega) ?_) | ((with_reducible refine r_nwc ?_); intro b) | ((with_reducible first | apply i_lds | apply i_ldsq | apply i_ld | apply i_ldq); exact rfl) | ((with_reducible first | apply i_ldn | apply i_ldnq); exact rfl; exact rfl; exact rfl) | (with_reducible first | refine r_ph0 ?_ | apply i_kp0) | ((with_reducible first | apply i_st | apply i_stl); (focus simp); exact rfl) | simp only [go_sem, Nat.reduceAdd, Nat.reduceEqDiff, Int.reduceToNat, Nat.reduceMul, Nat.reduceSub] | (clear hK; clear K))
      refine i_clp (f67 D h 0) ?_
      simp only [h0]
      repeat' ((fail_if_success with_reducible refine (id : E _ (ph _) → E _ (ph _)) ?_); first | ((with_reducible refine d_seq ?_); intro K hK) | ((with_reducible refine d_reg ?_); simp only [go_sem, Nat.reduceAdd, Nat.reduceEqDiff, Int.reduceToNat, Nat.reduceMul, Nat.reduceSub]) | ((first | ((with_reducible refine d_cnd ?_); refine And.intro ?_ ?_) | (with_reducible refine r_cnd ?_ ?_)); all_goals (intro hc; (try simp only [push_cast, Int.reduceEq, Int.reduceLT, Int.reduceLE, Int.reduceNe] at hc))) | ((with_reducible refine hK _ _ ?_); clear hK; clear K) | ((with_reducible first | refine d_blk ?_ | refine d_rt0 ?_ | refine d_sk0 ?_ | refine d_ex0 ?_); (try simp only [go_sem, Nat.reduceAdd, Nat.reduceEqDiff, Int.reduceToNat, Nat.reduceMul, Nat.reduceSub])) | (with_reducible refine r_rq (by first | decide | omega) ?_) | ((with_reducible refine r_nwc ?_); intro b) | ((with_reducible first | apply i_lds | apply i_ldsq | apply i_ld | apply i_ldq); exact rfl) | ((with_reducible first | apply i_ldn | apply i_ldnq); exact rfl; exact rfl; exact rfl) | (with_reducible first | refine r_ph0 ?_ | apply i_kp0) | ((with_reducible first | apply i_st | apply i_stl); (focus simp); exact rfl) | simp only [go_sem, Nat.reduceAdd, Nat.reduceEqDiff, Int.reduceToNat, Nat.reduceMul, Nat.reduceSub] | (clear hK; clear K))
      all_goals try (first | contradiction | (exfalso; omega))
      refine i_clq (f68 D h) ?_
      try simp only [h2]
      repeat' ((fail_if_success with_reducible refine (id : E _ (ph _) → E _ (ph _)) ?_); first | ((with_reducible refine d_seq ?_); intro K hK) | ((with_reducible refine d_reg ?_); simp only [go_sem, Nat.reduceAdd, Nat.reduceEqDiff, Int.reduceToNat, Nat.reduceMul, Nat.reduceSub]) | ((first | ((with_reducible refine d_cnd ?_); refine And.intro ?_ ?_) | (with_reducible refine r_cnd ?_ ?_)); all_goals (intro hc; (try simp only [push_cast, Int.reduceEq, Int.reduceLT, Int.reduceLE, Int.reduceNe] at hc))) | ((with_reducible refine hK _ _ ?_); clear hK; clear K) | ((with_reducible first | refine d_blk ?_ | refine d_rt0 ?_ | refine d_sk0 ?_ | refine d_ex0 ?_); (try simp only [go_sem, Nat.reduceAdd, Nat.reduceEqDiff, Int.reduceToNat, Nat.reduceMul, Nat.reduceSub])) | (with_reducible refine r_rq (by first | decide | omega) ?_) | ((with_reducible refine r_nwc ?_); intro b) | ((with_reducible first | apply i_lds | apply i_ldsq | apply i_ld | apply i_ldq); exact rfl) | ((with_reducible first | apply i_ldn | apply i_ldnq); exact rfl; exact rfl; exact rfl) | (with_reducible first | refine r_ph0 ?_ | apply i_kp0) | ((with_reducible first | apply i_st | apply i_stl); (focus simp); exact rfl) | simp only [go_sem, Nat.reduceAdd, Nat.reduceEqDiff, Int.reduceToNat, Nat.reduceMul, Nat.reduceSub] | (clear hK; clear K))
      all_goals try (first | contradiction | (exfalso; omega))
    · have hsb := Dk.act_sb D
      have hA := Dk.act_ok h
      generalize D.act.2 = A at *
      simp only [← hsb]
      repeat' (first | ((with_reducible refine d_seq ?_); intro K hK) | ((with_reducible refine d_reg ?_); simp only [go_sem, Nat.reduceAdd, Nat.reduceEqDiff, Int.reduceToNat, Nat.reduceMul, Nat.reduceSub]) | ((first | ((with_reducible refine d_cnd ?_); refine And.intro ?_ ?_) | (with_reducible refine r_cnd ?_ ?_)); all_goals (intro hc; (try simp only [push_cast, Int.reduceEq, Int.reduceLT, Int.reduceLE, Int.reduceNe] at hc))) | ((with_reducible refine hK _ _ ?_); clear hK; clear K) | ((with_reducible first | refine d_blk ?_ | refine d_rt0 ?_ | refine d_sk0 ?_ | refine d_ex0 ?_); (try simp only [go_sem, Nat.reduceAdd, Nat.reduceEqDiff, Int.reduceToNat, Nat.reduceMul, Nat.reduceSub])) | (with_reducible refine r_rq (by first | decide | omega) ?_) | ((with_reducible refine r_nwc ?_); intro b) | ((with_reducible first | apply i_lds | apply i_ldsq | apply i_ld | apply i_ldq); exact rfl) | ((with_reducible first | apply i_ldn | apply i_ldnq); exact rfl; exact rfl; exact rfl) | (with_reducible first | refine r_ph0 ?_ | apply i_kp0) | ((with_reducible first | apply i_st | apply i_stl); (focus simp); exact rfl) | simp only [go_sem, Nat.reduceAdd, Nat.reduceEqDiff, Int.reduceToNat, Nat.reduceMul, Nat.reduceSub] | (clear hK; clear K))
      refine i_mrng (κ := eI) (ε := eS) (a := 3) (b := 9) (by kernel_rfl) fun it => ?_
      repeat' (first | ((with_reducible refine d_seq ?_); intro K hK) | ((with_reducible refine d_reg ?_); simp only [go_sem, Nat.reduceAdd, Nat.reduceEqDiff, Int.reduceToNat, Nat.reduceMul, Nat.reduceSub]) | ((first | ((with_reducible refine d_cnd ?_); refine And.intro ?_ ?_) | (with_reducible refine r_cnd ?_ ?_)); all_goals (intro hc; (try simp only [push_cast, Int.reduceEq, Int.reduceLT, Int.reduceLE, Int.reduceNe] at hc))) | ((with_reducible refine hK _ _ ?_); clear hK; clear K) | ((with_reducible first | refine d_blk ?_ | refine d_rt0 ?_ | refine d_sk0 ?_ | refine d_ex0 ?_); (try simp only [go_sem, Nat.reduceAdd, Nat.reduceEqDiff, Int.reduceToNat, Nat.reduceMul, Nat.reduceSub])) | (with_reducible refine r_rq (by first | decide | omega) ?_) | ((with_reducible refine r_nwc ?_); intro b) | ((with_reducible first | apply i_lds | apply i_ldsq | apply i_ld | apply i_ldq); exact rfl) | ((with_reducible first | apply i_ldn | apply i_ldnq); exact rfl; exact rfl; exact rfl) | (with_reducible first | refine r_ph0 ?_ | apply i_kp0) | ((with_reducible first | apply i_st | apply i_stl); (focus simp); exact rfl) | simp only [go_sem, Nat.reduceAdd, Nat.reduceEqDiff, Int.reduceToNat, Nat.reduceMul, Nat.reduceSub] | (clear hK; clear K))
      refine d_lp [0, 21] (fun s : Ents eI eS × Ents eI eS => [(0, .pointer (some ⟨A.sb, 0, none⟩)), (21, .pointer (some ⟨it, 0, none⟩))])
        (fun s => blk it (.mapIter (some A.mb) A.c (sn s.1) A.c) :: ar A.sb 59 A.hd :: ar A.bb 9 ((sy s.1 A.sure).map fun s => str s) :: mp eI eS A.mb A.es A.c :: L) (fun s => Rg A.es s.1 s.2) (fun s => s.2.length) ([], A.es) rfl ?_ (Rg.start _) ?_
      · show Sub (blk it (.mapIter (some A.mb) A.c #[] A.c) :: (dkl A ++ L)) _
        exact SX.p
      rintro ⟨S, R⟩ hR
      dsimp only at hR ⊢
      repeat' (first | ((with_reducible refine d_seq ?_); intro K hK) | ((with_reducible refine d_reg ?_); simp only [go_sem, Nat.reduceAdd, Nat.reduceEqDiff, Int.reduceToNat, Nat.reduceMul, Nat.reduceSub]) | ((first | ((with_reducible refine d_cnd ?_); refine And.intro ?_ ?_) | (with_reducible refine r_cnd ?_ ?_)); all_goals (intro hc; (try simp only [push_cast, Int.reduceEq, Int.reduceLT, Int.reduceLE, Int.reduceNe] at hc))) | ((with_reducible refine hK _ _ ?_); clear hK; clear K) | ((with_reducible first | refine d_blk ?_ | refine d_rt0 ?_ | refine d_sk0 ?_ | refine d_ex0 ?_); (try simp only [go_sem, Nat.reduceAdd, Nat.reduceEqDiff, Int.reduceToNat, Nat.reduceMul, Nat.reduceSub])) | (with_reducible refine r_rq (by first | decide | omega) ?_) | ((with_reducible refine r_nwc ?_); intro b) | ((with_reducible first | apply i_lds | apply i_ldsq | apply i_ld | apply i_ldq); exact rfl) | ((with_reducible first | apply i_ldn | apply i_ldnq); exact rfl; exact rfl; exact rfl) | (with_reducible first | refine r_ph0 ?_ | apply i_kp0) | ((with_reducible first | apply i_st | apply i_stl); (focus simp); exact rfl) | simp only [go_sem, Nat.reduceAdd, Nat.reduceEqDiff, Int.reduceToNat, Nat.reduceMul, Nat.reduceSub] | (clear hK; clear K))
      refine i_mnx (κ := eI) (ε := eS) hA.ec (Nat.le_refl _) (fun ha => ?_) fun x hx hn => ?_
      · repeat' (first | ((with_reducible refine d_seq ?_); intro K hK) | ((with_reducible refine d_reg ?_); simp only [go_sem, Nat.reduceAdd, Nat.reduceEqDiff, Int.reduceToNat, Nat.reduceMul, Nat.reduceSub]) | ((first | ((with_reducible refine d_cnd ?_); refine And.intro ?_ ?_) | (with_reducible refine r_cnd ?_ ?_)); all_goals (intro hc; (try simp only [push_cast, Int.reduceEq, Int.reduceLT, Int.reduceLE, Int.reduceNe] at hc))) | ((with_reducible refine hK _ _ ?_); clear hK; clear K) | ((with_reducible first | refine d_blk ?_ | refine d_rt0 ?_ | refine d_sk0 ?_ | refine d_ex0 ?_); (try simp only [go_sem, Nat.reduceAdd, Nat.reduceEqDiff, Int.reduceToNat, Nat.reduceMul, Nat.reduceSub])) | (with_reducible refine r_rq (by first | decide | omega) ?_) | ((with_reducible refine r_nwc ?_); intro b) | ((with_reducible first | apply i_lds | apply i_ldsq | apply i_ld | apply i_ldq); exact rfl) | ((with_reducible first | apply i_ldn | apply i_ldnq); exact rfl; exact rfl; exact rfl) | (with_reducible first | refine r_ph0 ?_ | apply i_kp0) | ((with_reducible first | apply i_st | apply i_stl); (focus simp); exact rfl) | simp only [go_sem, Nat.reduceAdd, Nat.reduceEqDiff, Int.reduceToNat, Nat.reduceMul, Nat.reduceSub] | (clear hK; clear K))
        obtain rfl := hR.done hA.bn ha
        have hS : S.Perm A.es := by have := hR; unfold Rg at this; simpa using this
        have e := sy_perm hS hA.kn hA.ei
        refine i_mclr (κ := eI) (ε := eS) (a := 3) (b := 9) (by kernel_rfl) ?_
        repeat' (first | ((with_reducible refine d_seq ?_); intro K hK) | ((with_reducible refine d_reg ?_); simp only [go_sem, Nat.reduceAdd, Nat.reduceEqDiff, Int.reduceToNat, Nat.reduceMul, Nat.reduceSub]) | ((first | ((with_reducible refine d_cnd ?_); refine And.intro ?_ ?_) | (with_reducible refine r_cnd ?_ ?_)); all_goals (intro hc; (try simp only [push_cast, Int.reduceEq, Int.reduceLT, Int.reduceLE, Int.reduceNe] at hc))) | ((with_reducible refine hK _ _ ?_); clear hK; clear K) | ((with_reducible first | refine d_blk ?_ | refine d_rt0 ?_ | refine d_sk0 ?_ | refine d_ex0 ?_); (try simp only [go_sem, Nat.reduceAdd, Nat.reduceEqDiff, Int.reduceToNat, Nat.reduceMul, Nat.reduceSub])) | (with_reducible refine r_rq (by first | decide | omega) ?_) | ((with_reducible refine r_nwc ?_); intro b) | ((with_reducible first | apply i_lds | apply i_ldsq | apply i_ld | apply i_ldq); exact rfl) | ((with_reducible first | apply i_ldn | apply i_ldnq); exact rfl; exact rfl; exact rfl) | (with_reducible first | refine r_ph0 ?_ | apply i_kp0) | ((with_reducible first | apply i_st | apply i_stl); (focus simp); exact rfl) | simp only [go_sem, Nat.reduceAdd, Nat.reduceEqDiff, Int.reduceToNat, Nat.reduceMul, Nat.reduceSub] | (clear hK; clear K))
        simp only [Dk.flush, dkl, Dk.hd, sy_len]
        rw [e]
        (with_reducible first | apply i_ret0 | apply i_ret2 | apply i_ret3 | apply i_ret); exact rfl
        rfl
      · repeat' (first | ((with_reducible refine d_seq ?_); intro K hK) | ((with_reducible refine d_reg ?_); simp only [go_sem, Nat.reduceAdd, Nat.reduceEqDiff, Int.reduceToNat, Nat.reduceMul, Nat.reduceSub]) | ((first | ((with_reducible refine d_cnd ?_); refine And.intro ?_ ?_) | (with_reducible refine r_cnd ?_ ?_)); all_goals (intro hc; (try simp only [push_cast, Int.reduceEq, Int.reduceLT, Int.reduceLE, Int.reduceNe] at hc))) | ((with_reducible refine hK _ _ ?_); clear hK; clear K) | ((with_reducible first | refine d_blk ?_ | refine d_rt0 ?_ | refine d_sk0 ?_ | refine d_ex0 ?_); (try simp only [go_sem, Nat.reduceAdd, Nat.reduceEqDiff, Int.reduceToNat, Nat.reduceMul, Nat.reduceSub])) | (with_reducible refine r_rq (by first | decide | omega) ?_) | ((with_reducible refine r_nwc ?_); intro b) | ((with_reducible first | apply i_lds | apply i_ldsq | apply i_ld | apply i_ldq); exact rfl) | ((with_reducible first | apply i_ldn | apply i_ldnq); exact rfl; exact rfl; exact rfl) | (with_reducible first | refine r_ph0 ?_ | apply i_kp0) | ((with_reducible first | apply i_st | apply i_stl); (focus simp); exact rfl) | simp only [go_sem, Nat.reduceAdd, Nat.reduceEqDiff, Int.reduceToNat, Nat.reduceMul, Nat.reduceSub] | (clear hK; clear K))
        rw [sn_push]
        refine i_ment hx hA.bn ?_
        have hi : (0 : Int) ≤ x.1 ∧ (x.1 : Int) < (A.sure.length : Int) := hA.ei x hx
        have hl := sy_len S A.sure
        obtain ⟨R', hlt, hst⟩ := hR.step hx hn
        repeat' (first | ((with_reducible refine d_seq ?_); intro K hK) | ((with_reducible refine d_reg ?_); simp only [go_sem, Nat.reduceAdd, Nat.reduceEqDiff, Int.reduceToNat, Nat.reduceMul, Nat.reduceSub]) | ((first | ((with_reducible refine d_cnd ?_); refine And.intro ?_ ?_) | (with_reducible refine r_cnd ?_ ?_)); all_goals (intro hc; (try simp only [push_cast, Int.reduceEq, Int.reduceLT, Int.reduceLE, Int.reduceNe] at hc))) | ((with_reducible refine hK _ _ ?_); clear hK; clear K) | ((with_reducible first | refine d_blk ?_ | refine d_rt0 ?_ | refine d_sk0 ?_ | refine d_ex0 ?_); (try simp only [go_sem, Nat.reduceAdd, Nat.reduceEqDiff, Int.reduceToNat, Nat.reduceMul, Nat.reduceSub])) | (with_reducible refine r_rq (by first | decide | omega) ?_) | ((with_reducible refine r_nwc ?_); intro b) | ((with_reducible first | apply i_lds | apply i_ldsq | apply i_ld | apply i_ldq); exact rfl) | ((with_reducible first | apply i_ldn | apply i_ldnq); exact rfl; exact rfl; exact rfl) | (with_reducible first | refine r_ph0 ?_ | apply i_kp0) | ((with_reducible first | apply i_st | apply i_stl); (focus simp); exact rfl) | simp only [go_sem, Nat.reduceAdd, Nat.reduceEqDiff, Int.reduceToNat, Nat.reduceMul, Nat.reduceSub] | (clear hK; clear K))
        refine i_st (by rw [List.length_map, hl]; exact toN3 hi) rfl ?_
        rw [← List.map_set, ← sy_snoc]
        repeat' (first | ((with_reducible refine d_seq ?_); intro K hK) | ((with_reducible refine d_reg ?_); simp only [go_sem, Nat.reduceAdd, Nat.reduceEqDiff, Int.reduceToNat, Nat.reduceMul, Nat.reduceSub]) | ((first | ((with_reducible refine d_cnd ?_); refine And.intro ?_ ?_) | (with_reducible refine r_cnd ?_ ?_)); all_goals (intro hc; (try simp only [push_cast, Int.reduceEq, Int.reduceLT, Int.reduceLE, Int.reduceNe] at hc))) | ((with_reducible refine hK _ _ ?_); clear hK; clear K) | ((with_reducible first | refine d_blk ?_ | refine d_rt0 ?_ | refine d_sk0 ?_ | refine d_ex0 ?_); (try simp only [go_sem, Nat.reduceAdd, Nat.reduceEqDiff, Int.reduceToNat, Nat.reduceMul, Nat.reduceSub])) | (with_reducible refine r_rq (by first | decide | omega) ?_) | ((with_reducible refine r_nwc ?_); intro b) | ((with_reducible first | apply i_lds | apply i_ldsq | apply i_ld | apply i_ldq); exact rfl) | ((with_reducible first | apply i_ldn | apply i_ldnq); exact rfl; exact rfl; exact rfl) | (with_reducible first | refine r_ph0 ?_ | apply i_kp0) | ((with_reducible first | apply i_st | apply i_stl); (focus simp); exact rfl) | simp only [go_sem, Nat.reduceAdd, Nat.reduceEqDiff, Int.reduceToNat, Nat.reduceMul, Nat.reduceSub] | (clear hK; clear K))
        exact i_bk (S ++ [x], R') rfl hst hlt
    · (with_reducible first | apply i_ret0 | apply i_ret2 | apply i_ret3 | apply i_ret); exact rfl
      rfl
  · simp only [h0, if_false]
    intro L
    refine c28_fn rfl rfl ?_
    simp only [Dk.p]
    repeat' ((fail_if_success with_reducible refine (id : E _ (ph _) → E _ (ph _)) ?_); first | ((with_reducible refine d_seq ?_); intro K hK) | ((with_reducible refine d_reg ?_); simp only [go_sem, Nat.reduceAdd, Nat.reduceEqDiff, Int.reduceToNat, Nat.reduceMul, Nat.reduceSub]) | ((first | ((with_reducible refine d_cnd ?_); refine And.intro ?_ ?_) | (with_reducible refine r_cnd ?_ ?_)); all_goals (intro hc; (try simp only [push_cast, Int.reduceEq, Int.reduceLT, Int.reduceLE, Int.reduceNe] at hc))) | ((with_reducible refine hK _ _ ?_); clear hK; clear K) | ((with_reducible first | refine d_blk ?_ | refine d_rt0 ?_ | refine d_sk0 ?_ | refine d_ex0 ?_); (try simp only [go_sem, Nat.reduceAdd, Nat.reduceEqDiff, Int.reduceToNat, Nat.reduceMul, Nat.reduceSub])) | (with_reducible refine r_rq (by first | decide | omega) ?_) | ((with_reducible refine r_nwc ?_); intro b) | ((with_reducible first | apply i_lds | apply i_ldsq | apply i_ld | apply i_ldq); exact rfl) | ((with_reducible first | apply i_ldn | apply i_ldnq); exact rfl; exact rfl; exact rfl) | (with_reducible first | refine r_ph0 ?_ | apply i_kp0) | ((with_reducible first | apply i_st | apply i_stl); (focus simp); exact rfl) | simp only [go_sem, Nat.reduceAdd, Nat.reduceEqDiff, Int.reduceToNat, Nat.reduceMul, Nat.reduceSub] | (clear hK; clear K))
    refine i_clp (f67 D h 0) ?_
    repeat' ((fail_if_success with_reducible refine (id : E _ (ph _) → E _ (ph _)) ?_); first | ((with_reducible refine d_seq ?_); intro K hK) | ((with_reducible refine d_reg ?_); simp only [go_sem, Nat.reduceAdd, Nat.reduceEqDiff, Int.reduceToNat, Nat.reduceMul, Nat.reduceSub]) | ((first | ((with_reducible refine d_cnd ?_); refine And.intro ?_ ?_) | (with_reducible refine r_cnd ?_ ?_)); all_goals (intro hc; (try simp only [push_cast, Int.reduceEq, Int.reduceLT, Int.reduceLE, Int.reduceNe] at hc))) | ((with_reducible refine hK _ _ ?_); clear hK; clear K) | ((with_reducible first | refine d_blk ?_ | refine d_rt0 ?_ | refine d_sk0 ?_ | refine d_ex0 ?_); (try simp only [go_sem, Nat.reduceAdd, Nat.reduceEqDiff, Int.reduceToNat, Nat.reduceMul, Nat.reduceSub])) | (with_reducible refine r_rq (by first | decide | omega) ?_) | ((with_reducible refine r_nwc ?_); intro b) | ((with_reducible first | apply i_lds | apply i_ldsq | apply i_ld | apply i_ldq); exact rfl) | ((with_reducible first | apply i_ldn | apply i_ldnq); exact rfl; exact rfl; exact rfl) | (with_reducible first | refine r_ph0 ?_ | apply i_kp0) | ((with_reducible first | apply i_st | apply i_stl); (focus simp); exact rfl) | simp only [go_sem, Nat.reduceAdd, Nat.reduceEqDiff, Int.reduceToNat, Nat.reduceMul, Nat.reduceSub] | (clear hK; clear K))
    all_goals first | contradiction | omega | ((with_reducible first | apply i_ret0 | apply i_ret2 | apply i_ret3 | apply i_ret); exact rfl; rfl)
theorem Dk.flush_ok {D : Dk} (h : D.ok) : D.flush.ok := by
  obtain ⟨g1, g2, g3, g4, g5, g6, g7, g8, g9, g10⟩ := h
  have hl := sy_len D.es D.sure
  constructor <;> simp only [Dk.flush, hl] <;> first | assumption | skip
  · intro s hs
    obtain ⟨j, hj⟩ := List.getElem?_of_mem hs
    have hj' : j < D.sure.length := by
      rw [← hl]
      rcases Nat.lt_or_ge j (sy D.es D.sure).length with h | h
      · exact h
      · rw [List.getElem?_eq_none h] at hj; cases hj
    rw [sy_get _ _ g7 g5 j hj'] at hj
    cases hg : gk D.es (j : Int) with
    | none => rw [hg] at hj; simp only [Option.getD_none, Option.some.injEq] at hj; subst hj; exact g3 _ (by simp [hj'])
    | some v =>
      obtain ⟨x, hx, _, rfl⟩ := gk_mem hg
      rw [hg] at hj
      simp only [Option.getD_some, Option.some.injEq] at hj
      subst hj
      have := g4 x hx
      omega
  all_goals simp
theorem Dk.sync_ok {D : Dk} (h : D.ok) : D.sync.2.ok := by
  unfold Dk.sync
  split
  · split
    · exact Dk.flush_ok (Dk.act_ok h)
    · exact Dk.act_ok h
  · exact h
end Go.Sp
