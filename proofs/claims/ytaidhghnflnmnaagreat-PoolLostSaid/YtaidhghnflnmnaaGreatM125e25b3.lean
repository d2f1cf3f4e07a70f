/- Texts of a proof, one behind the other: D5 D6 D7 D10 D11 D12 Gw0 Gwo0 U1 K25 Gs0 Gq0 S1 S2 S3 S4 S5 U2 U3. No condition. -/
import Derived.Test.YtaidhghnflnmnaaGreatM470d30a0
import Derived.Test.YtaidhghnflnmnaaGreatM163da02a
import Derived.Test.YtaidhghnflnmnaaGreatM48a2d4cf
import Derived.Lib.Builder
import Derived.Lib.AppendStr
import Derived.Lib.UnsafeStr
namespace Go.Sp
open Go Go.Proofs
set_option linter.unusedSimpArgs false
set_option linter.unusedVariables false
set_option maxRecDepth 10000
theorem nd_len : ∀ (n : Nat) (l : List Int), l.Nodup → (∀ x ∈ l, 0 ≤ x ∧ x < (n : Int)) → l.length ≤ n
  | 0, l, _, h => by
    cases l with
    | nil => simp
    | cons x r => have := h x (by simp); omega
  | n + 1, l, hd, h => by
    by_cases hm : (n : Int) ∈ l
    · have h1 := nd_len n (l.erase n) (hd.erase _) fun x hx => by
        have h2 := (List.Nodup.mem_erase_iff hd).1 hx
        have := h x h2.2
        have := h2.1
        omega
      rw [List.length_erase_of_mem hm] at h1
      omega
    · have h1 := nd_len n l hd fun x hx => by
        have h2 := h x hx
        have : x ≠ n := fun e => hm (e ▸ hx)
        omega
      omega
theorem Dk.ok.len {D : Dk} (h : D.ok) : D.es.length ≤ 8192 := by
  have := nd_len D.sure.length (D.es.map (·.1)) h.kn fun x hx => by
    obtain ⟨y, hy, rfl⟩ := List.mem_map.1 hx
    exact h.ei y hy
  have := h.n1
  simp at *
  omega
theorem gk_mem {es : Ents eI eS} {k : Int} {v : List UInt8} (h : gk es k = some v) : ∃ x ∈ es, x.1 = k ∧ x.2.1 = v := by
  induction es with
  | nil => cases h
  | cons x r ih =>
    unfold gk at h
    split at h
    · rename_i e; exact ⟨x, by simp, e, by simpa using h⟩
    · obtain ⟨y, hy, e⟩ := ih h; exact ⟨y, by simp [hy], e⟩
theorem gk_none {es : Ents eI eS} {k : Int} (h : gk es k = none) : ∀ x ∈ es, x.1 ≠ k := by
  induction es with
  | nil => intro x hx; cases hx
  | cons y r ih =>
    unfold gk at h
    split at h
    · cases h
    · rename_i e
      intro x hx
      cases hx with
      | head => exact e
      | tail _ hx => exact ih h x hx
theorem Dk.cutn_64 {D : Dk} (h : D.ok) (keep : Int) (n : Nat) : ∀ s ∈ D.cutn keep n, s.length ≤ 64 := by
  induction n with
  | zero => exact h.l64
  | succ n ih =>
    unfold Dk.cutn
    split
    · intro s hs
      rcases List.mem_or_eq_of_mem_set hs with h1 | rfl
      · exact ih s h1
      · cases hg : gk D.es (D.keys.getD n 0) with
        | none => simp
        | some v =>
          obtain ⟨x, hx, _, rfl⟩ := gk_mem hg
          have := h.e64 x hx
          simp only [Option.getD_some]; omega
    · exact ih
theorem Dk.off_ok {D : Dk} (h : D.ok) (keep : Int) : (D.off keep).ok := by
  have h1 := h.n0
  have h2 := h.n1
  have h3 := h.kp
  have h4 := Dk.cutn_len D keep D.keys.length
  have h5 := Dk.cutn_64 h keep D.keys.length
  constructor <;> simp only [Dk.off, h4] <;> first | assumption | simp | omega
def Dk.act (D : Dk) : Int × Dk := if D.fuse = 0 then (9, D.off D.keep) else (0, { D with fuse := if 0 < D.fuse then D.fuse - 1 else D.fuse, acts := IntKind.wrap .i64 (D.acts + 1) })
theorem Dk.act_sb (D : Dk) : D.act.2.sb = D.sb := by unfold Dk.act; split <;> rfl
theorem Dk.act_ok {D : Dk} (h : D.ok) : D.act.2.ok := by
  unfold Dk.act
  split
  · exact Dk.off_ok h _
  · obtain ⟨h1, h2, h3, h4, h5, h6, h7, h8, h9, h10⟩ := h
    constructor <;> simp only <;> first | assumption | (split <;> omega)
theorem f68 (D : Dk) (h : D.ok) : Fq eI Tryz.prog 82 #[D.p] (dkl D) (dkl D.act.2) D.act.1 := by
  have hf := h.fu
  unfold Dk.act
  by_cases h0 : D.fuse = 0
  · simp only [h0, if_true]
    intro L
    refine c82_fn rfl rfl ?_
    simp only [Dk.p]
    repeat' (first | (with_reducible first | refine d_seq fun K hK => ?_ | (refine hK _ _ ?_; clear hK K) | (refine SG.p ?_; try intro b)) | refine i_c ?_ ?_ <;> intro hc <;> try simp only [push_cast, seval] at hc | refine i_x ?_ | clear hK K)
    · refine i_clq (f70 D h h.len D.keep) ?_
      repeat' (first | (with_reducible first | refine d_seq fun K hK => ?_ | (refine hK _ _ ?_; clear hK K) | (refine SG.p ?_; try intro b) | refine SP.p ?_) | refine i_c ?_ ?_ <;> intro hc <;> try simp only [push_cast, seval] at hc | refine i_x ?_ | clear hK K)
      (with_reducible first | apply i_ret0 | apply i_ret2 | apply i_ret3 | apply i_ret); exact rfl
      rfl
    all_goals contradiction
  · by_cases h1 : 0 < D.fuse <;> simp only [h0, h1, if_true, if_false]
    all_goals
      intro L
      refine c82_fn rfl rfl ?_
      simp only [Dk.p]
      repeat' (first | (with_reducible first | refine d_seq fun K hK => ?_ | (refine hK _ _ ?_; clear hK K) | (refine SG.p ?_; try intro b)) | refine i_c ?_ ?_ <;> intro hc <;> try simp only [push_cast, seval] at hc | refine i_x ?_ | clear hK K)
      all_goals first | contradiction | (exfalso; omega) | (simp (disch := omega) only [w64]; (with_reducible first | apply i_ret0 | apply i_ret2 | apply i_ret3 | apply i_ret); exact rfl; rfl) | ((with_reducible first | apply i_ret0 | apply i_ret2 | apply i_ret3 | apply i_ret); exact rfl; rfl)
theorem f29 (D : Dk) (h : D.ok) (keep : Int) : Fq eI Tryz.prog 62 #[D.p, .int .u64 keep] (dkl D) (dkl (if D.chk 0 = 0 then D.off keep else D)) (D.chk 0) := by
  by_cases h0 : D.chk 0 = 0 <;> simp only [h0, if_true, if_false]
  all_goals
    intro L
    refine c62_fn rfl rfl ?_
    simp only [Dk.p]
    repeat' (first | (with_reducible first | refine d_seq fun K hK => ?_ | (refine hK _ _ ?_; clear hK K) | (refine SG.p ?_; try intro b)) | refine i_c ?_ ?_ <;> intro hc <;> try simp only [push_cast, seval] at hc | refine i_x ?_ | clear hK K)
    refine i_clp (f67 D h 0) ?_
    try simp only [h0]
    repeat' (first | (with_reducible first | refine d_seq fun K hK => ?_ | (refine hK _ _ ?_; clear hK K) | (refine SG.p ?_; try intro b)) | refine i_c ?_ ?_ <;> intro hc <;> try simp only [push_cast, seval] at hc | refine i_x ?_ | clear hK K)
    all_goals try contradiction
  · refine i_clq (f70 D h h.len keep) ?_
    repeat' (first | (with_reducible first | refine d_seq fun K hK => ?_ | (refine hK _ _ ?_; clear hK K) | (refine SG.p ?_; try intro b) | refine SP.p ?_) | refine i_c ?_ ?_ <;> intro hc <;> try simp only [push_cast, seval] at hc | refine i_x ?_ | clear hK K)
    (with_reducible first | apply i_ret0 | apply i_ret2 | apply i_ret3 | apply i_ret); exact rfl
    rfl
  · (with_reducible first | apply i_ret0 | apply i_ret2 | apply i_ret3 | apply i_ret); exact rfl
    rfl
def Dk.put (D : Dk) (i : Int) (s : List UInt8) : Dk := { D with es := pk D.es i s D.c, c := ck D.es i D.c }
def Dk.write (D : Dk) (i : Int) (s : List UInt8) : Int × Dk :=
  if D.chk i = 0 then (if 64 < s.length then (3, D) else if D.act.1 = 0 then (0, D.act.2.put i (wh s)) else (D.act.1, D.act.2)) else (D.chk i, D)
theorem f27 (D : Dk) (h : D.ok) (i : Int) (s : List UInt8) : Fq eI Tryz.prog 24 #[D.p, .int .i64 i, str s] (dkl D) (dkl (D.write i s).2) (D.write i s).1 := by
  unfold Dk.write
  by_cases h0 : D.chk i = 0
  · simp only [h0, if_true]
    by_cases h1 : 64 < s.length
    · simp only [h1, if_true]
      intro L
      refine c24_fn rfl rfl ?_
      simp only [Dk.p]
      repeat' (first | (with_reducible first | refine d_seq fun K hK => ?_ | (refine hK _ _ ?_; clear hK K) | (refine SG.p ?_; try intro b)) | refine i_c ?_ ?_ <;> intro hc <;> try simp only [push_cast, seval] at hc | refine i_x ?_ | clear hK K)
      refine i_clp (f67 D h i) ?_
      try simp only [h0]
      repeat' (first | (with_reducible first | refine d_seq fun K hK => ?_ | (refine hK _ _ ?_; clear hK K) | (refine SG.p ?_; try intro b)) | refine i_c ?_ ?_ <;> intro hc <;> try simp only [push_cast, seval] at hc | refine i_x ?_ | clear hK K)
      all_goals first | contradiction | omega | ((with_reducible first | apply i_ret0 | apply i_ret2 | apply i_ret3 | apply i_ret); exact rfl; rfl)
    · simp only [h1, if_false]
      by_cases h2 : D.act.1 = 0 <;> simp only [h2, if_true, if_false]
      all_goals
        intro L
        refine c24_fn rfl rfl ?_
        simp only [Dk.p]
        repeat' (first | (with_reducible first | refine d_seq fun K hK => ?_ | (refine hK _ _ ?_; clear hK K) | (refine SG.p ?_; try intro b)) | refine i_c ?_ ?_ <;> intro hc <;> try simp only [push_cast, seval] at hc | refine i_x ?_ | clear hK K)
        refine i_clp (f67 D h i) ?_
        try simp only [h0]
        repeat' (first | (with_reducible first | refine d_seq fun K hK => ?_ | (refine hK _ _ ?_; clear hK K) | (refine SG.p ?_; try intro b)) | refine i_c ?_ ?_ <;> intro hc <;> try simp only [push_cast, seval] at hc | refine i_x ?_ | clear hK K)
        all_goals try (first | contradiction | (exfalso; omega))
        refine i_clq (f68 D h) ?_
        try simp only [h2]
        repeat' (first | (with_reducible first | refine d_seq fun K hK => ?_ | (refine hK _ _ ?_; clear hK K) | (refine SG.p ?_; try intro b)) | refine i_c ?_ ?_ <;> intro hc <;> try simp only [push_cast, seval] at hc | refine i_x ?_ | clear hK K)
        all_goals try (first | contradiction | (exfalso; omega))
      · have hsb := Dk.act_sb D
        generalize D.act.2 = A at *
        rw [← hsb]
        repeat' (first | (with_reducible first | refine d_seq fun K hK => ?_ | (refine hK _ _ ?_; clear hK K) | (refine SG.p ?_; try intro b) | refine SP.p ?_) | refine i_c ?_ ?_ <;> intro hc <;> try simp only [push_cast, seval] at hc | refine i_x ?_ | clear hK K)
        refine i_clp (f69 s (by omega)) ?_
        repeat' (first | (with_reducible first | refine d_seq fun K hK => ?_ | (refine hK _ _ ?_; clear hK K) | (refine SG.p ?_; try intro b) | refine SP.p ?_) | refine i_c ?_ ?_ <;> intro hc <;> try simp only [push_cast, seval] at hc | refine i_x ?_ | clear hK K)
        refine i_mu (ε := eS) (v := wh s) [] rfl (by kernel_rfl) ?_
        repeat' (first | (with_reducible first | refine d_seq fun K hK => ?_ | (refine hK _ _ ?_; clear hK K) | (refine SG.p ?_; try intro b) | refine SP.p ?_) | refine i_c ?_ ?_ <;> intro hc <;> try simp only [push_cast, seval] at hc | refine i_x ?_ | clear hK K)
        simp only [Dk.put]
        (with_reducible first | apply i_ret0 | apply i_ret2 | apply i_ret3 | apply i_ret); exact rfl
        rfl
      · (with_reducible first | apply i_ret0 | apply i_ret2 | apply i_ret3 | apply i_ret); exact rfl
        rfl
  · simp only [h0, if_false]
    intro L
    refine c24_fn rfl rfl ?_
    simp only [Dk.p]
    repeat' (first | (with_reducible first | refine d_seq fun K hK => ?_ | (refine hK _ _ ?_; clear hK K) | (refine SG.p ?_; try intro b)) | refine i_c ?_ ?_ <;> intro hc <;> try simp only [push_cast, seval] at hc | refine i_x ?_ | clear hK K)
    refine i_clp (f67 D h i) ?_
    repeat' (first | (with_reducible first | refine d_seq fun K hK => ?_ | (refine hK _ _ ?_; clear hK K) | (refine SG.p ?_; try intro b)) | refine i_c ?_ ?_ <;> intro hc <;> try simp only [push_cast, seval] at hc | refine i_x ?_ | clear hK K)
    all_goals first | contradiction | omega | ((with_reducible first | apply i_ret0 | apply i_ret2 | apply i_ret3 | apply i_ret); exact rfl; rfl)
theorem toN1 {a : Int} {j : Nat} (h : a = (j : Int)) : a.toNat = j := by omega
theorem toN2 {a : Int} {j : Nat} (h0 : 0 ≤ a) (h : ¬ a = (j : Int)) : a.toNat ≠ j := by omega
theorem toN3 {a : Int} {n : Nat} (h0 : 0 ≤ a ∧ a < (n : Int)) : a.toNat < n := by omega
theorem pk_keys (es : Ents eI eS) (k : Int) (v : List UInt8) (c : Nat) : (pk es k v c).map (·.1) = if gk es k = none then es.map (·.1) ++ [k] else es.map (·.1) := by
  induction es with
  | nil => simp [pk, gk]
  | cons x r ih =>
    by_cases h : x.1 = k
    · simp [pk, gk, h]
    · simp only [pk, gk, h, if_false, List.map_cons, ih]
      split <;> simp
theorem pk_born (es : Ents eI eS) (k : Int) (v : List UInt8) (c : Nat) : (pk es k v c).map (·.2.2) = if gk es k = none then es.map (·.2.2) ++ [c] else es.map (·.2.2) := by
  induction es with
  | nil => simp [pk, gk]
  | cons x r ih =>
    by_cases h : x.1 = k
    · simp [pk, gk, h]
    · simp only [pk, gk, h, if_false, List.map_cons, ih]
      split <;> simp
theorem pk_mem {es : Ents eI eS} {k : Int} {v : List UInt8} {c : Nat} {x : Int × List UInt8 × Nat} (h : x ∈ pk es k v c) : x ∈ es ∨ (x.1 = k ∧ x.2.1 = v) := by
  induction es with
  | nil => simp [pk] at h; right; simp [h]
  | cons y r ih =>
    unfold pk at h
    split at h
    · rcases List.mem_cons.1 h with rfl | h
      · right; simp
      · left; simp [h]
    · rcases List.mem_cons.1 h with rfl | h
      · left; simp
      · rcases ih h with h | h
        · left; simp [h]
        · right; exact h
theorem gk_some {es : Ents eI eS} {k : Int} (h : ¬ gk es k = none) : k ∈ es.map (·.1) := by
  cases hg : gk es k with
  | none => exact absurd hg h
  | some v => obtain ⟨x, hx, e, _⟩ := gk_mem hg; exact List.mem_map.2 ⟨x, hx, e⟩
theorem Dk.put_ok {D : Dk} (h : D.ok) {i : Int} (h0 : 0 ≤ i) (h1 : i < D.sure.length) {s : List UInt8} (hs : s.length = 64) : (D.put i s).ok := by
  obtain ⟨g1, g2, g3, g4, g5, g6, g7, g8, g9, g10⟩ := h
  have hb : ∀ b ∈ (pk D.es i s D.c).map (·.2.2), b < ck D.es i D.c := by
    intro b hb
    rw [pk_born] at hb
    unfold ck
    split at hb
    · rename_i hn
      rw [if_pos hn]
      rcases List.mem_append.1 hb with hb | hb
      · obtain ⟨x, hx, rfl⟩ := List.mem_map.1 hb
        have := g6 x hx; omega
      · simp at hb; omega
    · rename_i hn
      rw [if_neg hn]
      obtain ⟨x, hx, rfl⟩ := List.mem_map.1 hb
      exact g6 x hx
  refine ⟨g1, g2, g3, ?_, ?_, fun x hx => hb _ (List.mem_map.2 ⟨x, hx, rfl⟩), ?_, ?_, g9, g10⟩
  · intro x hx
    rcases pk_mem hx with hx | ⟨_, rfl⟩
    · exact g4 x hx
    · exact hs
  · intro x hx
    rcases pk_mem hx with hx | ⟨rfl, _⟩
    · exact g5 x hx
    · exact ⟨h0, h1⟩
  · refine (congrArg List.Nodup (pk_keys D.es i s D.c)).mpr ?_
    split
    · rename_i hn
      rw [List.nodup_append]
      refine ⟨g7, by simp, ?_⟩
      intro a ha b hb' e
      simp at hb'
      obtain ⟨x, hx, rfl⟩ := List.mem_map.1 ha
      exact gk_none hn x hx (e.trans hb')
    · exact g7
  · refine (congrArg List.Nodup (pk_born D.es i s D.c)).mpr ?_
    split
    · rw [List.nodup_append]
      refine ⟨g8, by simp, ?_⟩
      intro a ha b hb' e
      simp at hb'
      obtain ⟨x, hx, rfl⟩ := List.mem_map.1 ha
      have := g6 x hx
      omega
    · exact g8
theorem Dk.act_len (D : Dk) : D.act.2.sure.length = D.sure.length := by
  unfold Dk.act
  split
  · exact Dk.cutn_len D _ _
  · rfl
theorem Dk.write_ok {D : Dk} (h : D.ok) (i : Int) (s : List UInt8) : (D.write i s).2.ok := by
  unfold Dk.write
  split
  · rename_i h0
    have := Dk.chk_ok h0
    split
    · exact h
    · split
      · exact Dk.put_ok (Dk.act_ok h) this.2.1 (by rw [Dk.act_len]; exact this.2.2) (wh_len (by omega))
      · exact Dk.act_ok h
  · exact h
def sy (S : Ents eI eS) (l : List (List UInt8)) : List (List UInt8) := S.foldl (fun s x => s.set x.1.toNat x.2.1) l
theorem sy_snoc (S : Ents eI eS) (x : Int × List UInt8 × Nat) (l : List (List UInt8)) : sy (S ++ [x]) l = (sy S l).set x.1.toNat x.2.1 := by simp [sy]
theorem sy_len (S : Ents eI eS) (l : List (List UInt8)) : (sy S l).length = l.length := by
  induction S generalizing l with
  | nil => rfl
  | cons x r ih => show (sy r (l.set x.1.toNat x.2.1)).length = _; rw [ih]; simp
theorem sy_get (S : Ents eI eS) : ∀ (l : List (List UInt8)) (_ : (S.map (·.1)).Nodup) (_ : ∀ x ∈ S, 0 ≤ x.1 ∧ x.1 < (l.length : Int)) (j : Nat) (_ : j < l.length), (sy S l)[j]? = some ((gk S (j : Int)).getD (l.getD j [])) := by
  induction S with
  | nil => intro l _ _ j hj; simp [sy, gk, hj]
  | cons x r ih =>
    intro l hn hr j hj
    rw [List.map_cons, List.nodup_cons] at hn
    show (sy r (l.set x.1.toNat x.2.1))[j]? = _
    rw [ih _ hn.2 (fun y hy => by simpa using hr y (by simp [hy])) j (by simpa using hj)]
    have hx : (0 : Int) ≤ x.1 ∧ (x.1 : Int) < (l.length : Int) := hr x (by simp)
    by_cases h : x.1 = (j : Int)
    · have hg : gk r (j : Int) = none := by
        cases hg : gk r (j : Int) with
        | none => rfl
        | some v => exact absurd (h ▸ gk_some (by rw [hg]; simp)) hn.1
      have : x.1.toNat = j := toN1 h
      simp [gk, h, hg, hj]
    · have : x.1.toNat ≠ j := toN2 hx.1 h
      simp [gk, h, this]
theorem gk_perm {S es : Ents eI eS} (h : S.Perm es) (hn : (es.map (·.1)).Nodup) (k : Int) : gk S k = gk es k := by
  have hn' : (S.map (·.1)).Nodup := (h.map _).nodup_iff.2 hn
  have key : ∀ {A : Ents eI eS} {x : Int × List UInt8 × Nat}, (A.map (·.1)).Nodup → x ∈ A → gk A x.1 = some x.2.1 := by
    intro A x hA hx
    induction A with
    | nil => cases hx
    | cons y r ih =>
      rw [List.map_cons, List.nodup_cons] at hA
      by_cases e : y.1 = x.1
      · cases hx with
        | head => simp [gk]
        | tail _ hx => exact absurd (List.mem_map.2 ⟨x, hx, e.symm⟩) hA.1
      · cases hx with
        | head => exact absurd rfl e
        | tail _ hx => simp only [gk, e, if_false]; exact ih hA.2 hx
  cases hg : gk es k with
  | none =>
    cases hs : gk S k with
    | none => rfl
    | some v =>
      obtain ⟨x, hx, e, _⟩ := gk_mem hs
      exact absurd e (gk_none hg x (h.mem_iff.1 hx))
  | some v =>
    obtain ⟨x, hx, rfl, rfl⟩ := gk_mem hg
    exact key hn' (h.mem_iff.2 hx)
def Dk.flush (D : Dk) : Dk := { D with sure := sy D.es D.sure, es := [] }
theorem sy_perm {S es : Ents eI eS} {l : List (List UInt8)} (h : S.Perm es) (hn : (es.map (·.1)).Nodup) (hr : ∀ x ∈ es, 0 ≤ x.1 ∧ x.1 < (l.length : Int)) : sy S l = sy es l := by
  apply List.ext_getElem?
  intro j
  by_cases hj : j < l.length
  · rw [sy_get S l ((h.map _).nodup_iff.2 hn) (fun x hx => hr x (h.mem_iff.1 hx)) j hj, sy_get es l hn hr j hj, gk_perm h hn]
  · rw [List.getElem?_eq_none (by rw [sy_len]; omega), List.getElem?_eq_none (by rw [sy_len]; omega)]
def Dk.sync (D : Dk) : Int × Dk := if D.chk 0 = 0 then (if D.act.1 = 0 then (0, D.act.2.flush) else (D.act.1, D.act.2)) else (D.chk 0, D)
theorem f28 (D : Dk) (h : D.ok) : Fq eI Tryz.prog 79 #[D.p] (dkl D) (dkl D.sync.2) D.sync.1 := by
  unfold Dk.sync
  by_cases h0 : D.chk 0 = 0
  · simp only [h0, if_true]
    by_cases h2 : D.act.1 = 0 <;> simp only [h2, if_true, if_false]
    all_goals
      intro L
      refine c79_fn rfl rfl ?_
      simp only [Dk.p]
      repeat' (first | (with_reducible first | refine d_seq fun K hK => ?_ | (refine hK _ _ ?_; clear hK K) | (refine SG.p ?_; try intro b)) | refine i_c ?_ ?_ <;> intro hc <;> try simp only [push_cast, seval] at hc | refine i_x ?_ | clear hK K)
      refine i_clp (f67 D h 0) ?_
      simp only [h0]
      repeat' (first | (with_reducible first | refine d_seq fun K hK => ?_ | (refine hK _ _ ?_; clear hK K) | (refine SG.p ?_; try intro b)) | refine i_c ?_ ?_ <;> intro hc <;> try simp only [push_cast, seval] at hc | refine i_x ?_ | clear hK K)
      all_goals try (first | contradiction | (exfalso; omega))
      refine i_clq (f68 D h) ?_
      try simp only [h2]
      repeat' (first | (with_reducible first | refine d_seq fun K hK => ?_ | (refine hK _ _ ?_; clear hK K) | (refine SG.p ?_; try intro b)) | refine i_c ?_ ?_ <;> intro hc <;> try simp only [push_cast, seval] at hc | refine i_x ?_ | clear hK K)
      all_goals try (first | contradiction | (exfalso; omega))
    · have hsb := Dk.act_sb D
      have hA := Dk.act_ok h
      generalize D.act.2 = A at *
      simp only [← hsb]
      repeat' (first | (with_reducible first | refine d_seq fun K hK => ?_ | (refine hK _ _ ?_; clear hK K) | (refine SG.p ?_; try intro b) | refine SP.p ?_) | refine i_c ?_ ?_ <;> intro hc <;> try simp only [push_cast, seval] at hc | refine i_x ?_ | clear hK K)
      refine i_mrng (κ := eI) (ε := eS) (a := 3) (b := 9) (by kernel_rfl) fun it => ?_
      repeat' (first | (with_reducible first | refine d_seq fun K hK => ?_ | (refine hK _ _ ?_; clear hK K) | (refine SG.p ?_; try intro b) | refine SP.p ?_) | refine i_c ?_ ?_ <;> intro hc <;> try simp only [push_cast, seval] at hc | refine i_x ?_ | clear hK K)
      refine d_lp [0, 21] (fun s : Ents eI eS × Ents eI eS => [(0, .pointer (some ⟨A.sb, 0, none⟩)), (21, .pointer (some ⟨it, 0, none⟩))])
        (fun s => blk it (.mapIter (some A.mb) A.c (sn s.1) A.c) :: ar A.sb 108 A.hd :: ar A.bb 9 ((sy s.1 A.sure).map fun s => str s) :: mp eI eS A.mb A.es A.c :: L) (fun s => Rg A.es s.1 s.2) (fun s => s.2.length) ([], A.es) rfl ?_ (Rg.start _) ?_
      · show Sub (blk it (.mapIter (some A.mb) A.c #[] A.c) :: (dkl A ++ L)) _
        exact SX.p
      rintro ⟨S, R⟩ hR
      dsimp only at hR ⊢
      repeat' (first | (with_reducible first | refine d_seq fun K hK => ?_ | (refine hK _ _ ?_; clear hK K) | (refine SG.p ?_; try intro b) | refine SP.p ?_) | refine i_c ?_ ?_ <;> intro hc <;> try simp only [push_cast, seval] at hc | refine i_x ?_ | clear hK K)
      refine i_mnx (κ := eI) (ε := eS) hA.ec (Nat.le_refl _) (fun ha => ?_) fun x hx hn => ?_
      · repeat' (first | (with_reducible first | refine d_seq fun K hK => ?_ | (refine hK _ _ ?_; clear hK K) | (refine SG.p ?_; try intro b) | refine SP.p ?_) | refine i_c ?_ ?_ <;> intro hc <;> try simp only [push_cast, seval] at hc | refine i_x ?_ | clear hK K)
        obtain rfl := hR.done hA.bn ha
        have hS : S.Perm A.es := by have := hR; unfold Rg at this; simpa using this
        have e := sy_perm hS hA.kn hA.ei
        refine i_mclr (κ := eI) (ε := eS) (a := 3) (b := 9) (by kernel_rfl) ?_
        repeat' (first | (with_reducible first | refine d_seq fun K hK => ?_ | (refine hK _ _ ?_; clear hK K) | (refine SG.p ?_; try intro b) | refine SP.p ?_) | refine i_c ?_ ?_ <;> intro hc <;> try simp only [push_cast, seval] at hc | refine i_x ?_ | clear hK K)
        simp only [Dk.flush, dkl, Dk.hd, sy_len]
        rw [e]
        (with_reducible first | apply i_ret0 | apply i_ret2 | apply i_ret3 | apply i_ret); exact rfl
        rfl
      · repeat' (first | (with_reducible first | refine d_seq fun K hK => ?_ | (refine hK _ _ ?_; clear hK K) | (refine SG.p ?_; try intro b) | refine SP.p ?_) | refine i_c ?_ ?_ <;> intro hc <;> try simp only [push_cast, seval] at hc | refine i_x ?_ | clear hK K)
        rw [sn_push]
        refine i_ment hx hA.bn ?_
        have hi : (0 : Int) ≤ x.1 ∧ (x.1 : Int) < (A.sure.length : Int) := hA.ei x hx
        have hl := sy_len S A.sure
        obtain ⟨R', hlt, hst⟩ := hR.step hx hn
        repeat' (first | (with_reducible first | refine d_seq fun K hK => ?_ | (refine hK _ _ ?_; clear hK K) | (refine SG.p ?_; try intro b) | refine SP.p ?_) | refine i_c ?_ ?_ <;> intro hc <;> try simp only [push_cast, seval] at hc | refine i_x ?_ | clear hK K)
        refine i_st (by rw [List.length_map, hl]; exact toN3 hi) rfl ?_
        rw [← List.map_set, ← sy_snoc]
        repeat' (first | (with_reducible first | refine d_seq fun K hK => ?_ | (refine hK _ _ ?_; clear hK K) | (refine SG.p ?_; try intro b) | refine SP.p ?_) | refine i_c ?_ ?_ <;> intro hc <;> try simp only [push_cast, seval] at hc | refine i_x ?_ | clear hK K)
        exact i_bk (S ++ [x], R') rfl hst hlt
    · (with_reducible first | apply i_ret0 | apply i_ret2 | apply i_ret3 | apply i_ret); exact rfl
      rfl
  · simp only [h0, if_false]
    intro L
    refine c79_fn rfl rfl ?_
    simp only [Dk.p]
    repeat' (first | (with_reducible first | refine d_seq fun K hK => ?_ | (refine hK _ _ ?_; clear hK K) | (refine SG.p ?_; try intro b)) | refine i_c ?_ ?_ <;> intro hc <;> try simp only [push_cast, seval] at hc | refine i_x ?_ | clear hK K)
    refine i_clp (f67 D h 0) ?_
    repeat' (first | (with_reducible first | refine d_seq fun K hK => ?_ | (refine hK _ _ ?_; clear hK K) | (refine SG.p ?_; try intro b)) | refine i_c ?_ ?_ <;> intro hc <;> try simp only [push_cast, seval] at hc | refine i_x ?_ | clear hK K)
    all_goals first | contradiction | omega | ((with_reducible first | apply i_ret0 | apply i_ret2 | apply i_ret3 | apply i_ret); exact rfl; rfl)
theorem Dk.flush_ok {D : Dk} (h : D.ok) : D.flush.ok := by
  obtain ⟨g1, g2, g3, g4, g5, g6, g7, g8, g9, g10⟩ := h
  have hl := sy_len D.es D.sure
  constructor <;> simp only [Dk.flush, hl] <;> first | assumption | skip
  · intro s hs
    obtain ⟨j, hj⟩ := List.getElem?_of_mem hs
    have hj' : j < D.sure.length := by
      rw [← hl]
      rcases Nat.lt_or_ge j (sy D.es D.sure).length with h | h
      · exact h
      · rw [List.getElem?_eq_none h] at hj; cases hj
    rw [sy_get _ _ g7 g5 j hj'] at hj
    cases hg : gk D.es (j : Int) with
    | none => rw [hg] at hj; simp only [Option.getD_none, Option.some.injEq] at hj; subst hj; exact g3 _ (by simp [hj'])
    | some v =>
      obtain ⟨x, hx, _, rfl⟩ := gk_mem hg
      rw [hg] at hj
      simp only [Option.getD_some, Option.some.injEq] at hj
      subst hj
      have := g4 x hx
      omega
  all_goals simp
theorem Dk.get_len {D : Dk} (h : D.ok) {i : Int} (hi : D.chk i = 0) : (D.get i).length = 64 := by
  have hk := Dk.chk_ok hi
  unfold Dk.get
  cases hg : gk D.es i with
  | some v => obtain ⟨x, hx, _, rfl⟩ := gk_mem hg; exact h.e64 x hx
  | none =>
    have : i.toNat < D.sure.length := by omega
    exact wh_len (h.l64 _ (by simp [this]))
theorem Dk.sync_ok {D : Dk} (h : D.ok) : D.sync.2.ok := by
  unfold Dk.sync
  split
  · split
    · exact Dk.flush_ok (Dk.act_ok h)
    · exact Dk.act_ok h
  · exact h
def dk (D : Dk) : HP := HS (dkl D)
theorem fo {e : Enc} {P : Program} {f : FuncId} {args : Array Value} {x : e.α} {D D' : Dk} (h : Fq e P f args (dkl D) (dkl D') x) : Fq e P f args [dk D] [dk D'] x :=
  Fq.fold (A := dkl D) (B := dkl D') (C := []) (by simpa using h)
theorem F37 (D : Dk) (h : D.ok) : Fp eB Tryz.prog 61 #[D.p] [dk D] D.up := fo (f37 D h)
theorem F26 (D : Dk) (h : D.ok) : Fp eI Tryz.prog 99 #[D.p] [dk D] (D.sure.length : Int) := fo (f26 D h)
theorem F31 (D : Dk) (h : D.ok) (i : Int) : Fp (eT2 eS eI) Tryz.prog 22 #[D.p, .int .i64 i] [dk D] (if D.chk i = 0 then D.get i else [], D.chk i) := fo (f31 D h i)
theorem F41 (D : Dk) (h : D.ok) : Fq eN Tryz.prog 63 #[D.p] [dk D] [dk { D with fuse := -1 }] () := fo (f41 D h)
def Dk.on (D : Dk) : Dk := { D with up := true }
theorem Dk.on_ok {D : Dk} (h : D.ok) : D.on.ok := by
  obtain ⟨g1, g2, g3, g4, g5, g6, g7, g8, g9, g10⟩ := h
  exact ⟨g1, g2, g3, g4, g5, g6, g7, g8, g9, g10⟩
theorem F30 (D : Dk) (h : D.ok) : Fq eI Tryz.prog 64 #[D.p] [dk D] [dk D.on] (if D.up then 19 else 0) := fo (f30 D h)
theorem F42 (D : Dk) (h : D.ok) (n k : Int) : Fq eI Tryz.prog 60 #[D.p, .int .i64 n, .int .u64 k] [dk D] [dk (D.arm n k).2] (D.arm n k).1 := fo (f42 D h n k)
theorem F29 (D : Dk) (h : D.ok) (keep : Int) : Fq eI Tryz.prog 62 #[D.p, .int .u64 keep] [dk D] [dk (if D.chk 0 = 0 then D.off keep else D)] (D.chk 0) := fo (f29 D h keep)
theorem F27 (D : Dk) (h : D.ok) (i : Int) (s : List UInt8) : Fq eI Tryz.prog 24 #[D.p, .int .i64 i, str s] [dk D] [dk (D.write i s).2] (D.write i s).1 := fo (f27 D h i s)
theorem F28 (D : Dk) (h : D.ok) : Fq eI Tryz.prog 79 #[D.p] [dk D] [dk D.sync.2] D.sync.1 := fo (f28 D h)
theorem F25 (n : Nat) (h0 : 0 < n) (h1 : n ≤ 8192) : Fn (eT2 eP eI) Tryz.prog 16 #[.int .i64 (n : Int)] [] fun y X => ∃ sb bb mb, y = (some ⟨sb, 0, none⟩, 0) ∧ X = [dk (Dk.new sb bb mb n)] := fun L w hw => by
  refine (f25 n h0 h1 L w hw).mono ?_
  rintro _ w' ⟨x, he, X, ⟨sb, bb, mb, rfl, rfl⟩, hX⟩
  exact ⟨_, he, _, ⟨sb, bb, mb, rfl, rfl⟩, Holds.close hX⟩
theorem Dk.write_go {D : Dk} {i : Int} {s : List UInt8} (h0 : D.chk i = 0) (hs : s.length ≤ 64) (hf : D.fuse < 0) : D.write i s = (0, Dk.put { D with acts := IntKind.wrap .i64 (D.acts + 1) } i (wh s)) := by
  have e : D.act = (0, { D with acts := IntKind.wrap .i64 (D.acts + 1) }) := by
    unfold Dk.act
    rw [if_neg (by omega), if_neg (by omega)]
  unfold Dk.write
  rw [if_pos h0, if_neg (by omega), e, if_pos rfl]
end Go.Sp
namespace Go.Sp
open Go Go.Proofs
set_option linter.unusedSimpArgs false
set_option linter.unusedVariables false
theorem gk_pk (es : Ents eI eS) (i j : Int) (v : List UInt8) (c : Nat) : gk (pk es i v c) j = if i = j then some v else gk es j := by
  induction es with
  | nil => simp [pk, gk]
  | cons x r ih =>
    by_cases h : x.1 = i
    · simp only [pk, h, if_true, gk]
      by_cases hj : i = j
      · simp [hj]
      · simp [hj]
    · simp only [pk, h, if_false, gk, ih]
      by_cases hx : x.1 = j
      · have : ¬ i = j := fun e => h (hx.trans e.symm)
        simp [hx, this]
      · simp [hx]
theorem Dk.sync_go {D : Dk} (h0 : D.chk 0 = 0) (hf : D.fuse < 0) : D.sync = (0, Dk.flush { D with acts := IntKind.wrap .i64 (D.acts + 1) }) := by
  have e : D.act = (0, { D with acts := IntKind.wrap .i64 (D.acts + 1) }) := by
    unfold Dk.act
    rw [if_neg (by omega), if_neg (by omega)]
  unfold Dk.sync
  rw [if_pos h0, e, if_pos rfl]
theorem Dk.flush_get {D : Dk} (h : D.ok) {j : Nat} (hj : j < D.sure.length) : D.flush.get (j : Int) = D.get (j : Int) := by
  have e : (sy D.es D.sure).getD j [] = (gk D.es (j : Int)).getD (D.sure.getD j []) := by
    rw [List.getD_eq_getElem?_getD, sy_get D.es D.sure h.kn h.ei j hj]
    rfl
  simp only [Dk.get, Dk.flush, gk, Option.getD_none, Int.toNat_natCast]
  rw [e]
  cases hg : gk D.es (j : Int) with
  | none => rfl
  | some v =>
    obtain ⟨x, hx, _, rfl⟩ := gk_mem hg
    exact wh_full (h.e64 x hx)
theorem Dk.cut_or {D : Dk} (h : D.ok) (keep : Int) : ∀ (n : Nat) (_ : n ≤ D.keys.length) (j : Nat), (D.cutn keep n).getD j [] = D.sure.getD j [] ∨ gk D.es (j : Int) = some ((D.cutn keep n).getD j [])
  | 0, _, _ => .inl rfl
  | n + 1, hn, j => by
    have ih := Dk.cut_or h keep n (by omega) j
    unfold Dk.cutn
    split
    · have hk := Dk.keys_in h (n := n) (by omega)
      have hm : D.keys.getD n 0 ∈ D.es.map (·.1) := by
        rw [List.getD_eq_getElem?_getD, List.getElem?_eq_getElem (by omega)]
        exact (List.mergeSort_perm _ _).mem_iff.1 (List.getElem_mem _)
      generalize D.keys.getD n 0 = k at *
      by_cases hkj : k.toNat = j
      · right
        have hkj' : k = (j : Int) := by omega
        have hlt : j < (D.cutn keep n).length := by rw [Dk.cutn_len]; omega
        cases hg : gk D.es k with
        | none =>
          obtain ⟨x, hx, e⟩ := List.mem_map.1 hm
          exact absurd e (gk_none hg x hx)
        | some v =>
          subst hkj
          rw [← hkj', hg]
          simp [hlt]
      · have e : ((D.cutn keep n).set k.toNat ((gk D.es k).getD [])).getD j [] = (D.cutn keep n).getD j [] := by
          simp [List.getD_eq_getElem?_getD, List.getElem?_set, hkj]
        rw [e]
        exact ih
    · exact ih
end Go.Sp
namespace Go.Sp
open Go Go.Proofs
set_option linter.unusedSimpArgs false
set_option linter.unusedVariables false
def Dk.wr (D : Dk) (l : List (List UInt8)) : Nat → Dk
  | 0 => D
  | i + 1 => if (l.getD i []).length ≤ 64 then ((D.wr l i).write (i : Int) (l.getD i [])).2 else D.wr l i
structure Dk.calm (D : Dk) (sb : Nat) (n : Nat) : Prop where
  ok : D.ok
  sb : D.sb = sb
  up : D.up = true
  fu : D.fuse < 0
  n : D.sure.length = n
theorem Dk.calm.chk {D : Dk} {sb n : Nat} (h : D.calm sb n) {i : Nat} (hi : i < n) : D.chk (i : Int) = 0 := by
  unfold Dk.chk
  rw [h.up, h.n, if_neg (by simp), if_neg (by omega)]
theorem Dk.calm.write {D : Dk} {sb n : Nat} (h : D.calm sb n) {i : Nat} (hi : i < n) {s : List UInt8} (hs : s.length ≤ 64) :
    (D.write (i : Int) s).1 = 0 ∧ (D.write (i : Int) s).2.calm sb n ∧ (D.write (i : Int) s).2.sure = D.sure ∧ (D.write (i : Int) s).2.downs = D.downs ∧ ∀ j : Int, gk (D.write (i : Int) s).2.es j = if (i : Int) = j then some (wh s) else gk D.es j := by
  have hok := Dk.write_ok h.ok (i : Int) s
  rw [Dk.write_go (h.chk hi) hs h.fu] at hok ⊢
  exact ⟨rfl, ⟨hok, h.sb, h.up, h.fu, h.n⟩, rfl, rfl, fun j => gk_pk _ _ _ _ _⟩
theorem Dk.calm.wr {D : Dk} {sb n : Nat} (h : D.calm sb n) (l : List (List UInt8)) : ∀ i, i ≤ n → (D.wr l i).calm sb n ∧ (D.wr l i).sure = D.sure ∧ ∀ j : Nat, gk (D.wr l i).es (j : Int) = if j < i ∧ (l.getD j []).length ≤ 64 then some (wh (l.getD j [])) else gk D.es (j : Int)
  | 0, _ => ⟨h, rfl, fun j => by simp [Dk.wr]⟩
  | i + 1, hi => by
    obtain ⟨h1, h2, h3⟩ := Dk.calm.wr h l i (by omega)
    unfold Dk.wr
    split
    · rename_i hs
      obtain ⟨_, w2, w3, _, w5⟩ := h1.write (by omega : i < n) hs
      refine ⟨w2, w3.trans h2, fun j => ?_⟩
      rw [w5, h3]
      by_cases hj : i = j
      · subst hj
        rw [if_pos rfl, if_pos ⟨by omega, hs⟩]
      · rw [if_neg (by omega)]
        by_cases hc : j < i ∧ (l.getD j []).length ≤ 64
        · rw [if_pos hc, if_pos ⟨by omega, hc.2⟩]
        · rw [if_neg hc, if_neg (fun hc' => hc ⟨by omega, hc'.2⟩)]
    · rename_i hs
      refine ⟨h1, h2, fun j => ?_⟩
      rw [h3]
      by_cases hj : i = j
      · subst hj
        rw [if_neg (by omega), if_neg (fun hc => hs hc.2)]
      · by_cases hc : j < i ∧ (l.getD j []).length ≤ 64
        · rw [if_pos hc, if_pos ⟨by omega, hc.2⟩]
        · rw [if_neg hc, if_neg (fun hc' => hc ⟨by omega, hc'.2⟩)]
theorem Dk.calm.sync {D : Dk} {sb n : Nat} (h : D.calm sb n) (hn : 0 < n) : D.sync.1 = 0 ∧ D.sync.2.calm sb n ∧ D.sync.2.es = [] ∧ D.sync.2.downs = D.downs ∧ ∀ j : Nat, j < n → D.sync.2.get (j : Int) = D.get (j : Int) := by
  have hok := Dk.sync_ok h.ok
  have hc := h.chk hn
  rw [Dk.sync_go hc h.fu] at hok ⊢
  have hA : ({ D with acts := IntKind.wrap .i64 (D.acts + 1) } : Dk).ok := by
    obtain ⟨g1, g2, g3, g4, g5, g6, g7, g8, g9, g10⟩ := h.ok
    exact ⟨g1, g2, g3, g4, g5, g6, g7, g8, g9, g10⟩
  refine ⟨rfl, ⟨hok, h.sb, h.up, h.fu, ?_⟩, rfl, rfl, fun j hj => ?_⟩
  · show (sy D.es D.sure).length = n
    rw [sy_len]; exact h.n
  · exact Dk.flush_get hA (by rw [← h.n] at hj; exact hj)
theorem Dk.calm.new {sb bb mb n : Nat} (h0 : 0 < n) (h1 : n ≤ 8192) : (Dk.new sb bb mb n).calm sb n := ⟨Dk.new_ok h0 h1, rfl, rfl, (by decide : (-1 : Int) < 0), by simp [Dk.new]⟩
theorem Dk.calm.off {D : Dk} {sb n : Nat} (h : D.calm sb n) (keep : Int) : (D.off keep).on.calm sb n ∧ (D.off keep).up = false ∧ (D.off keep).ok ∧ (D.off keep).sb = sb ∧
    ∀ j : Nat, (D.off keep).on.get (j : Int) = wh (D.sure.getD j []) ∨ ∃ v, gk D.es (j : Int) = some v ∧ v.length = 64 ∧ (D.off keep).on.get (j : Int) = v := by
  have hok := Dk.off_ok h.ok keep
  refine ⟨⟨Dk.on_ok hok, h.sb, rfl, (by decide : (-1 : Int) < 0), ?_⟩, rfl, hok, h.sb, fun j => ?_⟩
  · show (D.cutn keep D.keys.length).length = n
    rw [Dk.cutn_len]; exact h.n
  · have e : (D.off keep).on.get (j : Int) = wh ((D.cutn keep D.keys.length).getD j []) := rfl
    rw [e]
    rcases Dk.cut_or h.ok keep D.keys.length (Nat.le_refl _) j with h1 | h1
    · left; rw [h1]
    · right
      obtain ⟨x, hx, _, hv⟩ := gk_mem h1
      have h64 := h.ok.e64 x hx
      rw [hv] at h64
      exact ⟨_, h1, h64, wh_full h64⟩
def was (l : List (List UInt8)) (j : Nat) : List UInt8 := if j < l.length ∧ (l.getD j []).length ≤ 64 then wh (l.getD j []) else wh []
theorem lasts {D : Dk} {sb n : Nat} (h : D.calm sb n) (he : D.es = []) (hn : 0 < n) (m : List (List UInt8)) {k : Nat} (hk : k ≤ n) (hm : k ≤ m.length) (keep : Int) {j : Nat} (hj : j < n) :
    ((D.wr m k).off keep).on.get (j : Int) = D.get (j : Int) ∨ (j < m.length ∧ (m.getD j []).length ≤ 64 ∧ ((D.wr m k).off keep).on.get (j : Int) = wh (m.getD j [])) := by
  obtain ⟨h1, h2, h3⟩ := h.wr m k hk
  obtain ⟨_, _, _, _, h4⟩ := h1.off keep
  rcases h4 j with h5 | ⟨v, h5, h6, h7⟩
  · left
    rw [h5, h2]
    unfold Dk.get
    rw [he]
    simp [gk]
  · right
    rw [h3] at h5
    by_cases hc : j < k ∧ (m.getD j []).length ≤ 64
    · rw [if_pos hc] at h5
      exact ⟨by omega, hc.2, by rw [h7]; simpa using h5.symm⟩
    · rw [if_neg hc, he] at h5
      cases h5
theorem Dk.write_sb (D : Dk) (i : Int) (s : List UInt8) : (D.write i s).2.sb = D.sb := by
  have := Dk.act_sb D
  unfold Dk.write
  split
  · split
    · rfl
    · split
      · exact this
      · exact this
  · rfl
theorem Dk.sync_sb (D : Dk) : D.sync.2.sb = D.sb := by
  have := Dk.act_sb D
  unfold Dk.sync
  split
  · split
    · exact this
    · exact this
  · rfl
end Go.Sp
namespace Go.Sp
open Go Go.Proofs
set_option linter.unusedSimpArgs false
set_option linter.unusedVariables false
set_option maxRecDepth 10000
theorem Dk.calm.p {D : Dk} {sb n : Nat} (h : D.calm sb n) : D.p = .pointer (some ⟨sb, 0, none⟩) := by simp only [Dk.p, h.sb]
theorem calm_0 {Z : Dk} {sb n : Nat} (h : Z.calm sb n) (hn : 0 < n) : Z.chk 0 = 0 := h.chk (i := 0) hn
theorem f42a {Z : Dk} {sb n : Nat} (h : Z.calm sb n) (hn : 0 < n) {a k : Int} (ha : 0 ≤ a) : Fq eI Tryz.prog 60 #[.pointer (some ⟨sb, 0, none⟩), .int .i64 a, .int .u64 k] [dk Z] [dk { Z with fuse := a, keep := k }] 0 := by
  have F := F42 Z h.ok a k
  unfold Dk.arm at F
  rw [if_pos (calm_0 h hn), if_neg (by omega), h.p] at F
  exact F
theorem f30o {Z : Dk} (h : Z.ok) (hu : Z.up = false) {sb : Nat} (hs : Z.sb = sb) : Fq eI Tryz.prog 64 #[.pointer (some ⟨sb, 0, none⟩)] [dk Z] [dk Z.on] 0 := by
  have := F30 Z h
  rw [hu, if_neg Bool.false_ne_true] at this
  simp only [Dk.p, hs] at this
  exact this
end Go.Sp
namespace Go.Sp
open Go
set_option maxRecDepth 100000
set_option linter.unusedVariables false
open Go.Proofs
variable (K : Env → W) (k : Value → W) {e : Enc} {args : Array Value} {G : e.α → W} {L : List HP} {ρ : Env}
attribute [local instance] cI cB cP cA
noncomputable def c67 := cf Tryz.f67 41 [(0, [0, 1, 2, 3]), (1, [0, 1, 2, 3]), (2, []), (3, [0, 1, 2]), (4, []), (5, [])] [(0, [0, 1, 2, 3]), (1, [0, 1, 2, 9]), (2, [8]), (3, [28]), (4, [8]), (5, [8]), (1000000, [8])] [] []
@[go_sem] theorem c67_i : c67.li 0 = [0, 1, 2, 3] ∧ c67.li 1 = [0, 1, 2, 3] ∧ c67.li 2 = [] ∧ c67.li 3 = [0, 1, 2] ∧ c67.li 4 = [] ∧ c67.li 5 = [] := ⟨rfl, rfl, rfl, rfl, rfl, rfl⟩
@[go_sem] theorem c67_r0 (v0 : Option Addr) (v1 v2 v3 : Int) : RP c67 0 [(0, v0), (1, v1), (2, v2), (3, v3)] K =
 (K [(0, v0), (1, v1), (2, v2), (3, v3)]) := by kernel_rfl
@[go_sem] theorem c67_r1 (v0 : Option Addr) (v1 v2 v3 : Int) : RP c67 1 [(0, v0), (1, v1), (2, v2), (3, v3)] K =
 (cnd (v0.isNone) (K [(0, v0), (1, v1), (2, v2), (9, true)]) (cnd (decide (v1 < 0)) (K [(0, v0), (1, v1), (2, v2), (9, true)]) (cnd (decide (v2 < 1)) (K [(0, v0), (1, v1), (2, v2), (9, true)]) (cnd (decide (v3 < 1)) (K [(0, v0), (1, v1), (2, v2), (9, true)]) (K [(0, v0), (1, v1), (2, v2), (9, decide (4294967296 ≤ v3))]))))) := by kernel_rfl
@[go_sem] theorem c67_r2 : RP c67 2 [] K =
 (K [(8, .int .i64 1)]) := by kernel_rfl
@[go_sem] theorem c67_r3 (v0 : Option Addr) (v1 v2 : Int) : RP c67 3 [(0, v0), (1, v1), (2, v2)] K =
 (cal eI Tryz.prog 99 #[v0] fun (y1_ : Int) => (cnd (decide (y1_ < v1)) (K [(28, true)]) (cal eI Tryz.prog 99 #[v0] fun (y2_ : Int) => (K [(28, decide ((IntKind.wrap .i64 (y2_ - v1)) < v2))])))) := by kernel_rfl
@[go_sem] theorem c67_r4 : RP c67 4 [] K =
 (K [(8, .int .i64 6)]) := by kernel_rfl
@[go_sem] theorem c67_r5 : RP c67 5 [] K =
 (K [(8, .int .i64 0)]) := by kernel_rfl
@[go_sem] theorem c67_o : c67.lo 1000000 = [8] := rfl
@[go_sem] theorem c67_e (v8 : Int) : RTp c67 [(8, v8)] k = (k (v8)) := by kernel_rfl
theorem c67_ok : (c67.P.follows .mixedOrders && okc c67 c67.body) = true := by kernel_rfl
theorem c67_fn (hρ : envA 0 args.toList = ρ) (hs : Nat.ble args.size 41 = true) (h : E L (D c67 (.seq (.reg 0) (.seq (.block 0 (.seq (.reg 1) (.cond (.tmp 9) (.seq (.reg 2) (.ret)) (.seq (.reg 3) (.cond (.tmp 28) (.seq (.reg 4) (.ret)) (.skip)))))) (.seq (.reg 5) (.ret)))) (fnQ c67 e G) ρ)) : E L (cal e Tryz.prog 67 args G) :=
  d_fn (c := c67) Tryz.func67 (by kernel_rfl) (by kernel_rfl) (by kernel_rfl) c67_ok (by kernel_rfl) (by kernel_rfl) hρ hs h
noncomputable def c68 := cf Tryz.f68 66 [(0, [0]), (1, [0]), (2, [0, 4]), (3, [0, 4, 5]), (4, [0, 4, 5, 15, 16]), (5, [0, 4, 5, 15, 16]), (6, [0, 4, 5, 6, 15, 16]), (7, [0, 4, 5, 7, 8, 15, 16]), (8, [8]), (9, [0, 4, 5, 7, 15, 16]), (10, [0, 4, 5, 9, 15, 16]), (11, [0, 4, 5, 9, 10, 11, 15, 16]), (12, [0, 4, 9, 10, 11, 15, 16]), (13, [0, 4, 5, 9, 11, 15, 16]), (14, [0, 4, 5, 11, 15, 16]), (15, [0, 4, 5, 15, 16]), (16, [4])] [(0, [0]), (1, [0, 4]), (2, [0, 4, 5]), (3, [0, 4, 5, 15, 16]), (4, [0, 4, 5, 15, 16, 17]), (5, [0, 4, 5, 6, 15, 16]), (6, [0, 4, 5, 7, 8, 15, 16]), (7, [0, 4, 5, 7, 8, 15, 16, 34]), (8, [2, 3]), (9, [0, 4, 5, 9, 15, 16]), (10, [0, 4, 5, 9, 10, 11, 15, 16]), (11, [0, 4, 9, 10, 11, 15, 16, 56]), (12, [0, 4, 5, 9, 11, 15, 16]), (13, [0, 4, 5, 11, 15, 16]), (14, [0, 4, 5, 15, 16, 63]), (15, [0, 4, 5, 15, 16]), (16, [2, 3]), (1000000, [2, 3])] [(6, (true, [(0, 1), (1, 1), (2, 1), (3, 0), (4, 1), (5, 1), (6, 1), (7, 0), (8, 1), (9, 1), (10, 4), (11, 1), (12, 1), (13, 1), (14, 1), (15, 1)]))] []
@[go_sem] theorem c68_i : c68.li 0 = [0] ∧ c68.li 1 = [0] ∧ c68.li 2 = [0, 4] ∧ c68.li 3 = [0, 4, 5] ∧ c68.li 4 = [0, 4, 5, 15, 16] ∧ c68.li 5 = [0, 4, 5, 15, 16] ∧ c68.li 6 = [0, 4, 5, 6, 15, 16] ∧ c68.li 7 = [0, 4, 5, 7, 8, 15, 16] ∧ c68.li 8 = [8] ∧ c68.li 9 = [0, 4, 5, 7, 15, 16] ∧ c68.li 10 = [0, 4, 5, 9, 15, 16] ∧ c68.li 11 = [0, 4, 5, 9, 10, 11, 15, 16] ∧ c68.li 12 = [0, 4, 9, 10, 11, 15, 16] ∧ c68.li 13 = [0, 4, 5, 9, 11, 15, 16] ∧ c68.li 14 = [0, 4, 5, 11, 15, 16] ∧ c68.li 15 = [0, 4, 5, 15, 16] ∧ c68.li 16 = [4] := ⟨rfl, rfl, rfl, rfl, rfl, rfl, rfl, rfl, rfl, rfl, rfl, rfl, rfl, rfl, rfl, rfl, rfl⟩
@[go_sem] theorem c68_r0 (v0 : Option Addr) : RP c68 0 [(0, v0)] K =
 (K [(0, v0)]) := by kernel_rfl
@[go_sem] theorem c68_r1 (v0 : Option Addr) : RP c68 1 [(0, v0)] K =
 (nwc #[.pointer none, .slice none 0 0] 144 fun y1_ => (K [(0, v0), (4, y1_)])) := by kernel_rfl
@[go_sem] theorem c68_r2 (v0 : Option Addr) (v4 : Addr) : RP c68 2 [(0, v0), (4, v4)] K =
 (K [(0, v0), (4, v4), (5, .int .i64 1)]) := by kernel_rfl
@[go_sem] theorem c68_r3 (v0 : Option Addr) (v4 : Addr) (v5 : Int) : RP c68 3 [(0, v0), (4, v4), (5, v5)] K =
 (nn v0 fun y1_ => (ld eI (y1_.add 2) fun (y2_ : Int) => (K [(0, v0), (4, v4), (5, v5), (15, y2_), (16, .int .i64 0)]))) := by kernel_rfl
@[go_sem] theorem c68_r4 (v0 : Option Addr) (v4 : Addr) (v5 v15 v16 : Int) : RP c68 4 [(0, v0), (4, v4), (5, v5), (15, v15), (16, v16)] K =
 (K [(0, v0), (4, v4), (5, v5), (15, v15), (16, v16), (17, decide (v16 < v15))]) := by kernel_rfl
@[go_sem] theorem c68_r5 (v0 : Option Addr) (v4 : Addr) (v5 v15 v16 : Int) : RP c68 5 [(0, v0), (4, v4), (5, v5), (15, v15), (16, v16)] K =
 (K [(0, v0), (4, v4), (5, v5), (6, v16), (15, v15), (16, v16)]) := by kernel_rfl
@[go_sem] theorem c68_r6 (v0 : Option Addr) (v4 : Addr) (v5 v6 v15 v16 : Int) : RP c68 6 [(0, v0), (4, v4), (5, v5), (6, v6), (15, v15), (16, v16)] K =
 (ph fun S0 => (nn v0 fun y1_ => (ldq S0 eP y1_ fun (y2_ : Option Addr) => (nn v0 fun y3_ => (ldq S0 eI (y3_.add 1) fun (y4_ : Int) => (cal (eT2 eS eI) Tryz.prog 22 #[y2_, IntKind.wrap .i64 (y4_ + v6)] fun (y5_ : ((List UInt8) × Int)) => (K [(0, v0), (4, v4), (5, v5), (7, str y5_.1), (8, y5_.2), (15, v15), (16, v16)]))))))) := by kernel_rfl
@[go_sem] theorem c68_r7 (v0 : Option Addr) (v4 : Addr) (v5 : Int) (v7 : List UInt8) (v8 v15 v16 : Int) : RP c68 7 [(0, v0), (4, v4), (5, v5), (7, str v7), (8, v8), (15, v15), (16, v16)] K =
 (K [(0, v0), (4, v4), (5, v5), (7, str v7), (8, v8), (15, v15), (16, v16), (34, .bool (v8 != 0))]) := by kernel_rfl
@[go_sem] theorem c68_r8 (v8 : Int) : RP c68 8 [(8, v8)] K =
 (K [(2, str ([] : List UInt8)), (3, v8)]) := by kernel_rfl
@[go_sem] theorem c68_r9 (v0 : Option Addr) (v4 : Addr) (v5 : Int) (v7 : List UInt8) (v15 v16 : Int) : RP c68 9 [(0, v0), (4, v4), (5, v5), (7, str v7), (15, v15), (16, v16)] K =
 (cal eP Tryz.prog 84 #[str v7] fun (y1_ : Option Addr) => (K [(0, v0), (4, v4), (5, v5), (9, y1_), (15, v15), (16, v16)])) := by kernel_rfl
@[go_sem] theorem c68_r10 (v0 : Option Addr) (v4 : Addr) (v5 : Int) (v9 : Option Addr) (v15 v16 : Int) : RP c68 10 [(0, v0), (4, v4), (5, v5), (9, v9), (15, v15), (16, v16)] K =
 (cal eI Tryz.prog 85 #[v9, .int .i64 4] fun (y1_ : Int) => (cal eI Tryz.prog 85 #[v9, .int .i64 2] fun (y2_ : Int) => (K [(0, v0), (4, v4), (5, v5), (9, v9), (10, y1_), (11, y2_), (15, v15), (16, v16)]))) := by kernel_rfl
@[go_sem] theorem c68_r11 (v0 : Option Addr) (v4 : Addr) (v5 : Int) (v9 : Option Addr) (v10 v11 v15 v16 : Int) : RP c68 11 [(0, v0), (4, v4), (5, v5), (9, v9), (10, v10), (11, v11), (15, v15), (16, v16)] K =
 (cnd (decide (v10 < v5)) (K [(0, v0), (4, v4), (9, v9), (10, v10), (11, v11), (15, v15), (16, v16), (56, true)]) (nn v0 fun y1_ => (ld eI (y1_.add 3) fun (y2_ : Int) => (cnd (decide (y2_ < v10)) (K [(0, v0), (4, v4), (9, v9), (10, v10), (11, v11), (15, v15), (16, v16), (56, true)]) (K [(0, v0), (4, v4), (9, v9), (10, v10), (11, v11), (15, v15), (16, v16), (56, decide (58 < v11))]))))) := by kernel_rfl
@[go_sem] theorem c68_r12 (v0 : Option Addr) (v4 : Addr) (v9 : Option Addr) (v10 v11 v15 v16 : Int) : RP c68 12 [(0, v0), (4, v4), (9, v9), (10, v10), (11, v11), (15, v15), (16, v16)] K =
 (K [(0, v0), (4, v4), (5, v10), (9, v9), (11, v11), (15, v15), (16, v16)]) := by kernel_rfl
@[go_sem] theorem c68_r13 (v0 : Option Addr) (v4 : Addr) (v5 : Int) (v9 : Option Addr) (v11 v15 v16 : Int) : RP c68 13 [(0, v0), (4, v4), (5, v5), (9, v9), (11, v11), (15, v15), (16, v16)] K =
 (cal eS Tryz.prog 101 #[v9, v11] fun (y1_ : List UInt8) => (cal (eT2 eI eV) Tryz.prog 100 #[v4, str y1_] fun (y2_ : (Int × Value)) => (K [(0, v0), (4, v4), (5, v5), (11, v11), (15, v15), (16, v16)]))) := by kernel_rfl
@[go_sem] theorem c68_r14 (v0 : Option Addr) (v4 : Addr) (v5 v11 v15 v16 : Int) : RP c68 14 [(0, v0), (4, v4), (5, v5), (11, v11), (15, v15), (16, v16)] K =
 (K [(0, v0), (4, v4), (5, v5), (15, v15), (16, v16), (63, decide (v11 < 58))]) := by kernel_rfl
@[go_sem] theorem c68_r15 (v0 : Option Addr) (v4 : Addr) (v5 v15 v16 : Int) : RP c68 15 [(0, v0), (4, v4), (5, v5), (15, v15), (16, v16)] K =
 (K [(0, v0), (4, v4), (5, v5), (15, v15), (16, IntKind.wrap .i64 (v16 + 1))]) := by kernel_rfl
@[go_sem] theorem c68_r16 (v4 : Addr) : RP c68 16 [(4, v4)] K =
 (cal eS Tryz.prog 102 #[v4] fun (y1_ : List UInt8) => (K [(2, str y1_), (3, .int .i64 0)])) := by kernel_rfl
@[go_sem] theorem c68_o : c68.lo 1000000 = [2, 3] := rfl
@[go_sem] theorem c68_e (v2 : List UInt8) (v3 : Int) : RTp c68 [(2, str v2), (3, v3)] k = (k (.tuple #[str v2, v3])) := by kernel_rfl
theorem c68_ok : (c68.P.follows .mixedOrders && okc c68 c68.body) = true := by kernel_rfl
theorem c68_fn (hρ : envA 0 args.toList = ρ) (hs : Nat.ble args.size 66 = true) (h : E L (D c68 (.seq (.reg 0) (.seq (.reg 1) (.seq (.reg 2) (.seq (.seq (.reg 3) (.block 0 (.loop (.seq (.reg 4) (.seq (.cond (.tmp 17) (.skip) (.exit 0)) (.seq (.block 1 (.seq (.reg 5) (.seq (.reg 6) (.seq (.seq (.reg 7) (.cond (.tmp 34) (.seq (.reg 8) (.ret)) (.skip))) (.seq (.reg 9) (.seq (.reg 10) (.seq (.seq (.reg 11) (.cond (.tmp 56) (.exit 0) (.skip))) (.seq (.reg 12) (.seq (.reg 13) (.seq (.reg 14) (.cond (.tmp 63) (.exit 0) (.skip)))))))))))) (.reg 15))))))) (.seq (.reg 16) (.ret)))))) (fnQ c68 e G) ρ)) : E L (cal e Tryz.prog 68 args G) :=
  d_fn (c := c68) Tryz.func68 (by kernel_rfl) (by kernel_rfl) (by kernel_rfl) c68_ok (by kernel_rfl) (by kernel_rfl) hρ hs h
noncomputable def c69 := cf Tryz.f69 20 [(0, [0]), (1, [0]), (2, [0, 3]), (3, [0, 3, 5, 6]), (4, [3]), (5, [0, 3, 5])] [(0, [0]), (1, [0, 3]), (2, [0, 3, 5, 6]), (3, [0, 3, 5, 15]), (4, [2]), (5, [0, 3]), (1000000, [2])] [] []
@[go_sem] theorem c69_i : c69.li 0 = [0] ∧ c69.li 1 = [0] ∧ c69.li 2 = [0, 3] ∧ c69.li 3 = [0, 3, 5, 6] ∧ c69.li 4 = [3] ∧ c69.li 5 = [0, 3, 5] := ⟨rfl, rfl, rfl, rfl, rfl, rfl⟩
@[go_sem] theorem c69_r0 (v0 : List UInt8) : RP c69 0 [(0, str v0)] K =
 (K [(0, str v0)]) := by kernel_rfl
@[go_sem] theorem c69_r1 (v0 : List UInt8) : RP c69 1 [(0, str v0)] K =
 (K [(0, str v0), (3, .int .i64 0)]) := by kernel_rfl
@[go_sem] theorem c69_r2 (v0 : List UInt8) (v3 : Int) : RP c69 2 [(0, str v0), (3, v3)] K =
 (cal (eT3 e_api_Rec eI eI) Tryz.prog 26 #[str v0, v3] fun (y1_ : (api_Rec × Int × Int)) => (nwc #[.int .i64 0, .int .i64 0, .int .i64 0, .int .i64 0, .int .i64 0, str ([] : List UInt8), str ([] : List UInt8), str ([] : List UInt8), .int .i64 0, .slice none 0 0, .slice none 0 0, .int .i64 0, .int .i64 0] 36 fun y2_ => (stl [.int .i64 y1_.1.Kind, .int .i64 y1_.1.Txn, .int .i64 y1_.1.Prev, .int .i64 y1_.1.Page, .int .i64 y1_.1.Act, str y1_.1.Key, str y1_.1.Old, str y1_.1.New, .int .i64 y1_.1.Next, .slice y1_.1.Images.1 y1_.1.Images.2.1 y1_.1.Images.2.2, .slice y1_.1.Table.1 y1_.1.Table.2.1 y1_.1.Table.2.2, .int .i64 y1_.1.Epoch, .int .i64 y1_.1.Node] y2_ 0 (K [(0, str v0), (3, v3), (5, .int .i64 y1_.2.1), (6, .int .i64 y1_.2.2)])))) := by kernel_rfl
@[go_sem] theorem c69_r3 (v0 : List UInt8) (v3 v5 v6 : Int) : RP c69 3 [(0, str v0), (3, v3), (5, v5), (6, v6)] K =
 (K [(0, str v0), (3, v3), (5, v5), (15, .bool (v6 != 0))]) := by kernel_rfl
@[go_sem] theorem c69_r4 (v3 : Int) : RP c69 4 [(3, v3)] K =
 (K [(2, v3)]) := by kernel_rfl
@[go_sem] theorem c69_r5 (v0 : List UInt8) (v3 v5 : Int) : RP c69 5 [(0, str v0), (3, v3), (5, v5)] K =
 (K [(0, str v0), (3, IntKind.wrap .i64 (v3 + v5))]) := by kernel_rfl
@[go_sem] theorem c69_o : c69.lo 1000000 = [2] := rfl
@[go_sem] theorem c69_e (v2 : Int) : RTp c69 [(2, v2)] k = (k (v2)) := by kernel_rfl
theorem c69_ok : (c69.P.follows .mixedOrders && okc c69 c69.body) = true := by kernel_rfl
theorem c69_fn (hρ : envA 0 args.toList = ρ) (hs : Nat.ble args.size 20 = true) (h : E L (D c69 (.seq (.reg 0) (.seq (.reg 1) (.block 0 (.loop (.block 1 (.seq (.reg 2) (.seq (.seq (.reg 3) (.cond (.tmp 15) (.seq (.reg 4) (.ret)) (.skip))) (.reg 5)))))))) (fnQ c69 e G) ρ)) : E L (cal e Tryz.prog 69 args G) :=
  d_fn (c := c69) Tryz.func69 (by kernel_rfl) (by kernel_rfl) (by kernel_rfl) c69_ok (by kernel_rfl) (by kernel_rfl) hρ hs h
noncomputable def c70 := cf Tryz.f70 23 [(0, [0]), (1, [0]), (2, [0, 3]), (3, [0, 3]), (4, [0])] [(0, [0]), (1, [0, 3]), (2, [0, 3, 12]), (3, [2]), (4, [2]), (1000000, [2])] [] []
@[go_sem] theorem c70_i : c70.li 0 = [0] ∧ c70.li 1 = [0] ∧ c70.li 2 = [0, 3] ∧ c70.li 3 = [0, 3] ∧ c70.li 4 = [0] := ⟨rfl, rfl, rfl, rfl, rfl⟩
@[go_sem] theorem c70_r0 (v0 : Option Addr) : RP c70 0 [(0, v0)] K =
 (K [(0, v0)]) := by kernel_rfl
@[go_sem] theorem c70_r1 (v0 : Option Addr) : RP c70 1 [(0, v0)] K =
 (nn v0 fun y1_ => (ld eI (y1_.add 5) fun (y2_ : Int) => (rq ((58 : Int) ≠ 0) (cal eI Tryz.prog 77 #[v0, IntKind.wrap .i64 (y2_.tdiv (58 : Int))] fun (y3_ : Int) => (K [(0, v0), (3, y3_)]))))) := by kernel_rfl
@[go_sem] theorem c70_r2 (v0 : Option Addr) (v3 : Int) : RP c70 2 [(0, v0), (3, v3)] K =
 (K [(0, v0), (3, v3), (12, .bool (v3 != 0))]) := by kernel_rfl
@[go_sem] theorem c70_r3 (v0 : Option Addr) (v3 : Int) : RP c70 3 [(0, v0), (3, v3)] K =
 (cal eI Tryz.prog 78 #[v0, v3] fun (y1_ : Int) => (K [(2, y1_)])) := by kernel_rfl
@[go_sem] theorem c70_r4 (v0 : Option Addr) : RP c70 4 [(0, v0)] K =
 (nn v0 fun y1_ => (ld eP y1_ fun (y2_ : Option Addr) => (cal eI Tryz.prog 79 #[y2_] fun (y3_ : Int) => (cal eI Tryz.prog 78 #[v0, y3_] fun (y4_ : Int) => (K [(2, y4_)]))))) := by kernel_rfl
@[go_sem] theorem c70_o : c70.lo 1000000 = [2] := rfl
@[go_sem] theorem c70_e (v2 : Int) : RTp c70 [(2, v2)] k = (k (v2)) := by kernel_rfl
theorem c70_ok : (c70.P.follows .mixedOrders && okc c70 c70.body) = true := by kernel_rfl
theorem c70_fn (hρ : envA 0 args.toList = ρ) (hs : Nat.ble args.size 23 = true) (h : E L (D c70 (.seq (.reg 0) (.seq (.seq (.reg 1) (.seq (.reg 2) (.cond (.tmp 12) (.seq (.reg 3) (.ret)) (.skip)))) (.seq (.reg 4) (.ret)))) (fnQ c70 e G) ρ)) : E L (cal e Tryz.prog 70 args G) :=
  d_fn (c := c70) Tryz.func70 (by kernel_rfl) (by kernel_rfl) (by kernel_rfl) c70_ok (by kernel_rfl) (by kernel_rfl) hρ hs h
noncomputable def c75 := cf Tryz.f75 11 [(0, [0]), (1, [0]), (2, []), (3, [0]), (4, []), (5, [])] [(0, [0]), (1, [0, 3]), (2, [2]), (3, [6]), (4, [2]), (5, [2]), (1000000, [2])] [] []
@[go_sem] theorem c75_i : c75.li 0 = [0] ∧ c75.li 1 = [0] ∧ c75.li 2 = [] ∧ c75.li 3 = [0] ∧ c75.li 4 = [] ∧ c75.li 5 = [] := ⟨rfl, rfl, rfl, rfl, rfl, rfl⟩
@[go_sem] theorem c75_r0 (v0 : Option Addr) : RP c75 0 [(0, v0)] K =
 (K [(0, v0)]) := by kernel_rfl
@[go_sem] theorem c75_r1 (v0 : Option Addr) : RP c75 1 [(0, v0)] K =
 (cal eB Tryz.prog 83 #[v0] fun (y1_ : Bool) => (K [(0, v0), (3, y1_)])) := by kernel_rfl
@[go_sem] theorem c75_r2 : RP c75 2 [] K =
 (K [(2, .int .i64 11)]) := by kernel_rfl
@[go_sem] theorem c75_r3 (v0 : Option Addr) : RP c75 3 [(0, v0)] K =
 (nn v0 fun y1_ => (ld eB (y1_.add 6) fun (y2_ : Bool) => (K [(6, y2_)]))) := by kernel_rfl
@[go_sem] theorem c75_r4 : RP c75 4 [] K =
 (K [(2, .int .i64 9)]) := by kernel_rfl
@[go_sem] theorem c75_r5 : RP c75 5 [] K =
 (K [(2, .int .i64 0)]) := by kernel_rfl
@[go_sem] theorem c75_o : c75.lo 1000000 = [2] := rfl
@[go_sem] theorem c75_e (v2 : Int) : RTp c75 [(2, v2)] k = (k (v2)) := by kernel_rfl
theorem c75_ok : (c75.P.follows .mixedOrders && okc c75 c75.body) = true := by kernel_rfl
theorem c75_fn (hρ : envA 0 args.toList = ρ) (hs : Nat.ble args.size 11 = true) (h : E L (D c75 (.seq (.reg 0) (.seq (.block 0 (.seq (.reg 1) (.cond (.tmp 3) (.seq (.reg 2) (.ret)) (.seq (.reg 3) (.cond (.tmp 6) (.seq (.reg 4) (.ret)) (.skip)))))) (.seq (.reg 5) (.ret)))) (fnQ c75 e G) ρ)) : E L (cal e Tryz.prog 75 args G) :=
  d_fn (c := c75) Tryz.func75 (by kernel_rfl) (by kernel_rfl) (by kernel_rfl) c75_ok (by kernel_rfl) (by kernel_rfl) hρ hs h
noncomputable def c76 := cf Tryz.f76 23 [(0, [0, 1]), (1, [0, 1]), (2, []), (3, [0, 1]), (4, [0, 1, 6]), (5, [6])] [(0, [0, 1]), (1, [0, 1, 11]), (2, [4, 5]), (3, [0, 1, 6]), (4, [6]), (5, [4, 5]), (1000000, [4, 5])] [] []
@[go_sem] theorem c76_i : c76.li 0 = [0, 1] ∧ c76.li 1 = [0, 1] ∧ c76.li 2 = [] ∧ c76.li 3 = [0, 1] ∧ c76.li 4 = [0, 1, 6] ∧ c76.li 5 = [6] := ⟨rfl, rfl, rfl, rfl, rfl, rfl⟩
@[go_sem] theorem c76_r0 (v0 : Option Addr) (v1 : List UInt8) : RP c76 0 [(0, v0), (1, str v1)] K =
 (K [(0, v0), (1, str v1)]) := by kernel_rfl
@[go_sem] theorem c76_r1 (v0 : Option Addr) (v1 : List UInt8) : RP c76 1 [(0, v0), (1, str v1)] K =
 (cal eI Tryz.prog 30 #[v0] fun (y1_ : Int) => (K [(0, v0), (1, str v1), (11, decide (y1_ < (v1.length : Int)))])) := by kernel_rfl
@[go_sem] theorem c76_r2 : RP c76 2 [] K =
 (K [(4, .int .i64 0), (5, .int .i64 7)]) := by kernel_rfl
@[go_sem] theorem c76_r3 (v0 : Option Addr) (v1 : List UInt8) : RP c76 3 [(0, v0), (1, str v1)] K =
 (cal eI Tryz.prog 28 #[v0] fun (y1_ : Int) => (K [(0, v0), (1, str v1), (6, y1_)])) := by kernel_rfl
@[go_sem] theorem c76_r4 (v0 : Option Addr) (v1 : List UInt8) (v6 : Int) : RP c76 4 [(0, v0), (1, str v1), (6, v6)] K =
 (nn v0 fun y1_ => (ld eS (y1_.add 4) fun (y2_ : List UInt8) => (rq ((y2_.length : Int) + (v1.length : Int) ≤ 9223372036854775807) (nn v0 fun y3_ => (st (y3_.add 4) (str (y2_ ++ v1)) (K [(6, v6)])))))) := by kernel_rfl
@[go_sem] theorem c76_r5 (v6 : Int) : RP c76 5 [(6, v6)] K =
 (K [(4, v6), (5, .int .i64 0)]) := by kernel_rfl
@[go_sem] theorem c76_o : c76.lo 1000000 = [4, 5] := rfl
@[go_sem] theorem c76_e (v4 v5 : Int) : RTp c76 [(4, v4), (5, v5)] k = (k (.tuple #[v4, v5])) := by kernel_rfl
theorem c76_ok : (c76.P.follows .mixedOrders && okc c76 c76.body) = true := by kernel_rfl
theorem c76_fn (hρ : envA 0 args.toList = ρ) (hs : Nat.ble args.size 23 = true) (h : E L (D c76 (.seq (.reg 0) (.seq (.seq (.reg 1) (.cond (.tmp 11) (.seq (.reg 2) (.ret)) (.skip))) (.seq (.reg 3) (.seq (.reg 4) (.seq (.reg 5) (.ret)))))) (fnQ c76 e G) ρ)) : E L (cal e Tryz.prog 76 args G) :=
  d_fn (c := c76) Tryz.func76 (by kernel_rfl) (by kernel_rfl) (by kernel_rfl) c76_ok (by kernel_rfl) (by kernel_rfl) hρ hs h
noncomputable def c77 := cf Tryz.f77 68 [(0, [0, 1]), (1, [0, 1]), (2, []), (3, [0, 1]), (4, [0, 1, 5]), (5, [0, 1, 5, 6]), (6, [0, 1, 5, 6]), (7, [0, 1, 5, 6]), (8, [0, 1, 5, 7])] [(0, [0, 1]), (1, [0, 1, 14]), (2, [4]), (3, [0, 1, 5]), (4, [0, 1, 5, 6]), (5, [0, 1, 5, 6]), (6, [0, 1, 5, 6]), (7, [0, 1, 5, 7]), (8, [4]), (1000000, [4])] [(3, (true, [(0, 1), (1, 1), (2, 1), (3, 0), (4, 1), (5, 1), (6, 1), (7, 1), (8, 1), (9, 0), (10, 1), (11, 1), (12, 1), (13, 1), (14, 1), (15, 1), (16, 1), (17, 1), (18, 0), (19, 1), (20, 1), (21, 1), (22, 1)])), (8, (true, [(0, 1), (1, 1), (2, 1), (3, 0), (4, 1), (5, 1), (6, 1), (7, 0), (8, 1), (9, 1), (10, 1), (11, 1), (12, 1), (13, 4), (14, 1)]))] []
@[go_sem] theorem c77_i : c77.li 0 = [0, 1] ∧ c77.li 1 = [0, 1] ∧ c77.li 2 = [] ∧ c77.li 3 = [0, 1] ∧ c77.li 4 = [0, 1, 5] ∧ c77.li 5 = [0, 1, 5, 6] ∧ c77.li 6 = [0, 1, 5, 6] ∧ c77.li 7 = [0, 1, 5, 6] ∧ c77.li 8 = [0, 1, 5, 7] := ⟨rfl, rfl, rfl, rfl, rfl, rfl, rfl, rfl, rfl⟩
@[go_sem] theorem c77_r0 (v0 : Option Addr) (v1 : Int) : RP c77 0 [(0, v0), (1, v1)] K =
 (K [(0, v0), (1, v1)]) := by kernel_rfl
@[go_sem] theorem c77_r1 (v0 : Option Addr) (v1 : Int) : RP c77 1 [(0, v0), (1, v1)] K =
 (nn v0 fun y1_ => (ld eI (y1_.add 2) fun (y2_ : Int) => (K [(0, v0), (1, v1), (14, decide (y2_ ≤ v1))]))) := by kernel_rfl
@[go_sem] theorem c77_r2 : RP c77 2 [] K =
 (K [(4, .int .i64 0)]) := by kernel_rfl
@[go_sem] theorem c77_r3 (v0 : Option Addr) (v1 : Int) : RP c77 3 [(0, v0), (1, v1)] K =
 (ph fun S0 => (nn v0 fun y1_ => (ldq S0 eS (y1_.add 4) fun (y2_ : List UInt8) => (nn v0 fun y3_ => (ldq S0 eS (y3_.add 4) fun (y4_ : List UInt8) => (nn v0 fun y5_ => (ldq S0 eS (y5_.add 4) fun (y6_ : List UInt8) => (rq (0 ≤ ((if (y4_.length : Int) < (IntKind.wrap .i64 (v1 * 58)) then (y4_.length : Int) else (IntKind.wrap .i64 (v1 * 58))) : Int) ∧ (if (y4_.length : Int) < (IntKind.wrap .i64 (v1 * 58)) then (y4_.length : Int) else (IntKind.wrap .i64 (v1 * 58))) ≤ (if (y6_.length : Int) < (IntKind.wrap .i64 ((IntKind.wrap .i64 (v1 + 1)) * 58)) then (y6_.length : Int) else (IntKind.wrap .i64 ((IntKind.wrap .i64 (v1 + 1)) * 58))) ∧ (if (y6_.length : Int) < (IntKind.wrap .i64 ((IntKind.wrap .i64 (v1 + 1)) * 58)) then (y6_.length : Int) else (IntKind.wrap .i64 ((IntKind.wrap .i64 (v1 + 1)) * 58))) ≤ (y2_.length : Int)) (K [(0, v0), (1, v1), (5, str (ss y2_ (if (y4_.length : Int) < (IntKind.wrap .i64 (v1 * 58)) then (y4_.length : Int) else (IntKind.wrap .i64 (v1 * 58))) (if (y6_.length : Int) < (IntKind.wrap .i64 ((IntKind.wrap .i64 (v1 + 1)) * 58)) then (y6_.length : Int) else (IntKind.wrap .i64 ((IntKind.wrap .i64 (v1 + 1)) * 58)))))]))))))))) := by kernel_rfl
@[go_sem] theorem c77_r4 (v0 : Option Addr) (v1 : Int) (v5 : List UInt8) : RP c77 4 [(0, v0), (1, v1), (5, str v5)] K =
 (nwc #[str ((⟨([] : List UInt8), (0 : Int)⟩ : pack_Writer).s), .int .i64 ((⟨([] : List UInt8), (0 : Int)⟩ : pack_Writer).e)] 153 fun y1_ => (K [(0, v0), (1, v1), (5, str v5), (6, y1_)])) := by kernel_rfl
@[go_sem] theorem c77_r5 (v0 : Option Addr) (v1 : Int) (v5 : List UInt8) (v6 : Addr) : RP c77 5 [(0, v0), (1, v1), (5, str v5), (6, v6)] K =
 (nn v0 fun y1_ => (ld eI (y1_.add 3) fun (y2_ : Int) => (cal eN Tryz.prog 103 #[v6, y2_, .int .i64 4] fun (y3_ : Unit) => (K [(0, v0), (1, v1), (5, str v5), (6, v6)])))) := by kernel_rfl
@[go_sem] theorem c77_r6 (v0 : Option Addr) (v1 : Int) (v5 : List UInt8) (v6 : Addr) : RP c77 6 [(0, v0), (1, v1), (5, str v5), (6, v6)] K =
 (cal eN Tryz.prog 103 #[v6, .int .i64 (v5.length : Int), .int .i64 2] fun (y1_ : Unit) => (K [(0, v0), (1, v1), (5, str v5), (6, v6)])) := by kernel_rfl
@[go_sem] theorem c77_r7 (v0 : Option Addr) (v1 : Int) (v5 : List UInt8) (v6 : Addr) : RP c77 7 [(0, v0), (1, v1), (5, str v5), (6, v6)] K =
 (cal (eT2 eS eI) Tryz.prog 108 #[v6] fun (y1_ : ((List UInt8) × Int)) => (K [(0, v0), (1, v1), (5, str v5), (7, str y1_.1)])) := by kernel_rfl
@[go_sem] theorem c77_r8 (v0 : Option Addr) (v1 : Int) (v5 v7 : List UInt8) : RP c77 8 [(0, v0), (1, v1), (5, str v5), (7, str v7)] K =
 (ph fun S0 => (nn v0 fun y1_ => (ldq S0 eP y1_ fun (y2_ : Option Addr) => (nn v0 fun y3_ => (ldq S0 eI (y3_.add 1) fun (y4_ : Int) => (rq ((v7.length : Int) + (v5.length : Int) ≤ 9223372036854775807) (cal eI Tryz.prog 24 #[y2_, IntKind.wrap .i64 (y4_ + v1), str (v7 ++ v5)] fun (y5_ : Int) => (K [(4, y5_)])))))))) := by kernel_rfl
@[go_sem] theorem c77_o : c77.lo 1000000 = [4] := rfl
@[go_sem] theorem c77_e (v4 : Int) : RTp c77 [(4, v4)] k = (k (v4)) := by kernel_rfl
theorem c77_ok : (c77.P.follows .mixedOrders && okc c77 c77.body) = true := by kernel_rfl
theorem c77_fn (hρ : envA 0 args.toList = ρ) (hs : Nat.ble args.size 68 = true) (h : E L (D c77 (.seq (.reg 0) (.seq (.seq (.reg 1) (.cond (.tmp 14) (.seq (.reg 2) (.ret)) (.skip))) (.seq (.reg 3) (.seq (.reg 4) (.seq (.reg 5) (.seq (.reg 6) (.seq (.reg 7) (.seq (.reg 8) (.ret))))))))) (fnQ c77 e G) ρ)) : E L (cal e Tryz.prog 77 args G) :=
  d_fn (c := c77) Tryz.func77 (by kernel_rfl) (by kernel_rfl) (by kernel_rfl) c77_ok (by kernel_rfl) (by kernel_rfl) hρ hs h
noncomputable def c78 := cf Tryz.f78 11 [(0, [0, 1]), (1, [0, 1]), (2, [0, 1]), (3, [1])] [(0, [0, 1]), (1, [0, 1, 6]), (2, [1]), (3, [4]), (1000000, [4])] [] []
@[go_sem] theorem c78_i : c78.li 0 = [0, 1] ∧ c78.li 1 = [0, 1] ∧ c78.li 2 = [0, 1] ∧ c78.li 3 = [1] := ⟨rfl, rfl, rfl, rfl⟩
@[go_sem] theorem c78_r0 (v0 : Option Addr) (v1 : Int) : RP c78 0 [(0, v0), (1, v1)] K =
 (K [(0, v0), (1, v1)]) := by kernel_rfl
@[go_sem] theorem c78_r1 (v0 : Option Addr) (v1 : Int) : RP c78 1 [(0, v0), (1, v1)] K =
 (K [(0, v0), (1, v1), (6, .bool (v1 != 0))]) := by kernel_rfl
@[go_sem] theorem c78_r2 (v0 : Option Addr) (v1 : Int) : RP c78 2 [(0, v0), (1, v1)] K =
 (nn v0 fun y1_ => (st (y1_.add 6) (true) (K [(1, v1)]))) := by kernel_rfl
@[go_sem] theorem c78_r3 (v1 : Int) : RP c78 3 [(1, v1)] K =
 (K [(4, v1)]) := by kernel_rfl
@[go_sem] theorem c78_o : c78.lo 1000000 = [4] := rfl
@[go_sem] theorem c78_e (v4 : Int) : RTp c78 [(4, v4)] k = (k (v4)) := by kernel_rfl
theorem c78_ok : (c78.P.follows .mixedOrders && okc c78 c78.body) = true := by kernel_rfl
theorem c78_fn (hρ : envA 0 args.toList = ρ) (hs : Nat.ble args.size 11 = true) (h : E L (D c78 (.seq (.reg 0) (.seq (.seq (.reg 1) (.cond (.tmp 6) (.reg 2) (.skip))) (.seq (.reg 3) (.ret)))) (fnQ c78 e G) ρ)) : E L (cal e Tryz.prog 78 args G) :=
  d_fn (c := c78) Tryz.func78 (by kernel_rfl) (by kernel_rfl) (by kernel_rfl) c78_ok (by kernel_rfl) (by kernel_rfl) hρ hs h
noncomputable def c83 := cf Tryz.f83 12 [(0, [0]), (1, [0])] [(0, [0]), (1, [2]), (1000000, [2])] [] []
@[go_sem] theorem c83_i : c83.li 0 = [0] ∧ c83.li 1 = [0] := ⟨rfl, rfl⟩
@[go_sem] theorem c83_r0 (v0 : Option Addr) : RP c83 0 [(0, v0)] K =
 (K [(0, v0)]) := by kernel_rfl
@[go_sem] theorem c83_r1 (v0 : Option Addr) : RP c83 1 [(0, v0)] K =
 (cnd (v0.isNone) (K [(2, true)]) (nn v0 fun y1_ => (ld eP y1_ fun (y2_ : Option Addr) => (K [(2, .bool (y2_.isNone))])))) := by kernel_rfl
@[go_sem] theorem c83_o : c83.lo 1000000 = [2] := rfl
@[go_sem] theorem c83_e (v2 : Bool) : RTp c83 [(2, v2)] k = (k (v2)) := by kernel_rfl
theorem c83_ok : (c83.P.follows .mixedOrders && okc c83 c83.body) = true := by kernel_rfl
theorem c83_fn (hρ : envA 0 args.toList = ρ) (hs : Nat.ble args.size 12 = true) (h : E L (D c83 (.seq (.reg 0) (.seq (.reg 1) (.ret))) (fnQ c83 e G) ρ)) : E L (cal e Tryz.prog 83 args G) :=
  d_fn (c := c83) Tryz.func83 (by kernel_rfl) (by kernel_rfl) (by kernel_rfl) c83_ok (by kernel_rfl) (by kernel_rfl) hρ hs h
end Go.Sp
namespace Go.Sp
open Go
set_option maxRecDepth 100000
set_option linter.unusedVariables false
open Go.Proofs
variable (K : Env → W) (k : Value → W) {e : Enc} {args : Array Value} {G : e.α → W} {L : List HP} {ρ : Env}
attribute [local instance] cI cB cP cA
noncomputable def c17 := cf Tryz.f17 58 [(0, [0, 1, 2, 3]), (1, [0, 1, 2, 3]), (2, [0, 1, 2, 3, 10]), (3, [10]), (4, [0, 1, 2, 3]), (5, [11]), (6, [11, 12, 13]), (7, [13]), (8, [11, 12]), (9, [11]), (10, [11]), (11, [11, 14]), (12, [14]), (13, [11])] [(0, [0, 1, 2, 3]), (1, [0, 1, 2, 3, 10]), (2, [0, 1, 2, 3, 10, 21]), (3, [8, 9]), (4, [11]), (5, [11, 12, 13]), (6, [11, 12, 13, 35]), (7, [8, 9]), (8, [11]), (9, [11]), (10, [11, 14]), (11, [11, 14, 55]), (12, [8, 9]), (13, [8, 9]), (1000000, [8, 9])] [] []
@[go_sem] theorem c17_i : c17.li 0 = [0, 1, 2, 3] ∧ c17.li 1 = [0, 1, 2, 3] ∧ c17.li 2 = [0, 1, 2, 3, 10] ∧ c17.li 3 = [10] ∧ c17.li 4 = [0, 1, 2, 3] ∧ c17.li 5 = [11] ∧ c17.li 6 = [11, 12, 13] ∧ c17.li 7 = [13] ∧ c17.li 8 = [11, 12] ∧ c17.li 9 = [11] ∧ c17.li 10 = [11] ∧ c17.li 11 = [11, 14] ∧ c17.li 12 = [14] ∧ c17.li 13 = [11] := ⟨rfl, rfl, rfl, rfl, rfl, rfl, rfl, rfl, rfl, rfl, rfl, rfl, rfl, rfl⟩
@[go_sem] theorem c17_r0 (v0 : Option Addr) (v1 v2 v3 : Int) : RP c17 0 [(0, v0), (1, v1), (2, v2), (3, v3)] K =
 (K [(0, v0), (1, v1), (2, v2), (3, v3)]) := by kernel_rfl
@[go_sem] theorem c17_r1 (v0 : Option Addr) (v1 v2 v3 : Int) : RP c17 1 [(0, v0), (1, v1), (2, v2), (3, v3)] K =
 (cal eI Tryz.prog 67 #[v0, v1, v2, v3] fun (y1_ : Int) => (K [(0, v0), (1, v1), (2, v2), (3, v3), (10, y1_)])) := by kernel_rfl
@[go_sem] theorem c17_r2 (v0 : Option Addr) (v1 v2 v3 v10 : Int) : RP c17 2 [(0, v0), (1, v1), (2, v2), (3, v3), (10, v10)] K =
 (K [(0, v0), (1, v1), (2, v2), (3, v3), (10, v10), (21, .bool (v10 != 0))]) := by kernel_rfl
@[go_sem] theorem c17_r3 (v10 : Int) : RP c17 3 [(10, v10)] K =
 (K [(8, .pointer none), (9, v10)]) := by kernel_rfl
@[go_sem] theorem c17_r4 (v0 : Option Addr) (v1 v2 v3 : Int) : RP c17 4 [(0, v0), (1, v1), (2, v2), (3, v3)] K =
 (nwc #[.pointer ((⟨v0, v1, v2, v3, ([] : List UInt8), (0 : Int), false⟩ : wal_Log).disk), .int .i64 ((⟨v0, v1, v2, v3, ([] : List UInt8), (0 : Int), false⟩ : wal_Log).base), .int .i64 ((⟨v0, v1, v2, v3, ([] : List UInt8), (0 : Int), false⟩ : wal_Log).sectors), .int .i64 ((⟨v0, v1, v2, v3, ([] : List UInt8), (0 : Int), false⟩ : wal_Log).run), str ((⟨v0, v1, v2, v3, ([] : List UInt8), (0 : Int), false⟩ : wal_Log).all), .int .i64 ((⟨v0, v1, v2, v3, ([] : List UInt8), (0 : Int), false⟩ : wal_Log).durable), .bool ((⟨v0, v1, v2, v3, ([] : List UInt8), (0 : Int), false⟩ : wal_Log).dead)] 66 fun y1_ => (K [(11, y1_)])) := by kernel_rfl
@[go_sem] theorem c17_r5 (v11 : Addr) : RP c17 5 [(11, v11)] K =
 (cal (eT2 eS eI) Tryz.prog 68 #[v11] fun (y1_ : ((List UInt8) × Int)) => (K [(11, v11), (12, str y1_.1), (13, y1_.2)])) := by kernel_rfl
@[go_sem] theorem c17_r6 (v11 : Addr) (v12 : List UInt8) (v13 : Int) : RP c17 6 [(11, v11), (12, str v12), (13, v13)] K =
 (K [(11, v11), (12, str v12), (13, v13), (35, .bool (v13 != 0))]) := by kernel_rfl
@[go_sem] theorem c17_r7 (v13 : Int) : RP c17 7 [(13, v13)] K =
 (K [(8, .pointer none), (9, v13)]) := by kernel_rfl
@[go_sem] theorem c17_r8 (v11 : Addr) (v12 : List UInt8) : RP c17 8 [(11, v11), (12, str v12)] K =
 (cal eI Tryz.prog 69 #[str v12] fun (y1_ : Int) => (rq (0 ≤ (0 : Int) ∧ 0 ≤ y1_ ∧ y1_ ≤ (v12.length : Int)) (st (v11.add 4) (str (ss v12 0 y1_)) (K [(11, v11)])))) := by kernel_rfl
@[go_sem] theorem c17_r9 (v11 : Addr) : RP c17 9 [(11, v11)] K =
 (ld eS (v11.add 4) fun (y1_ : List UInt8) => (st (v11.add 5) (.int .i64 (y1_.length : Int)) (K [(11, v11)]))) := by kernel_rfl
@[go_sem] theorem c17_r10 (v11 : Addr) : RP c17 10 [(11, v11)] K =
 (cal eI Tryz.prog 70 #[v11] fun (y1_ : Int) => (K [(11, v11), (14, y1_)])) := by kernel_rfl
@[go_sem] theorem c17_r11 (v11 : Addr) (v14 : Int) : RP c17 11 [(11, v11), (14, v14)] K =
 (K [(11, v11), (14, v14), (55, .bool (v14 != 0))]) := by kernel_rfl
@[go_sem] theorem c17_r12 (v14 : Int) : RP c17 12 [(14, v14)] K =
 (K [(8, .pointer none), (9, v14)]) := by kernel_rfl
@[go_sem] theorem c17_r13 (v11 : Addr) : RP c17 13 [(11, v11)] K =
 (K [(8, v11), (9, .int .i64 0)]) := by kernel_rfl
@[go_sem] theorem c17_o : c17.lo 1000000 = [8, 9] := rfl
@[go_sem] theorem c17_e (v8 : Option Addr) (v9 : Int) : RTp c17 [(8, v8), (9, v9)] k = (k (.tuple #[v8, v9])) := by kernel_rfl
theorem c17_ok : (c17.P.follows .mixedOrders && okc c17 c17.body) = true := by kernel_rfl
theorem c17_fn (hρ : envA 0 args.toList = ρ) (hs : Nat.ble args.size 58 = true) (h : E L (D c17 (.seq (.reg 0) (.seq (.seq (.reg 1) (.seq (.reg 2) (.cond (.tmp 21) (.seq (.reg 3) (.ret)) (.skip)))) (.seq (.reg 4) (.seq (.reg 5) (.seq (.seq (.reg 6) (.cond (.tmp 35) (.seq (.reg 7) (.ret)) (.skip))) (.seq (.reg 8) (.seq (.reg 9) (.seq (.seq (.reg 10) (.seq (.reg 11) (.cond (.tmp 55) (.seq (.reg 12) (.ret)) (.skip)))) (.seq (.reg 13) (.ret)))))))))) (fnQ c17 e G) ρ)) : E L (cal e Tryz.prog 17 args G) :=
  d_fn (c := c17) Tryz.func17 (by kernel_rfl) (by kernel_rfl) (by kernel_rfl) c17_ok (by kernel_rfl) (by kernel_rfl) hρ hs h
noncomputable def c20 := cf Tryz.f20 27 [(0, [0, 1]), (1, [0, 3]), (2, [0, 3, 6]), (3, [6]), (4, [0, 3]), (5, [0, 7, 8]), (6, [8]), (7, [0, 7])] [(0, [0, 3]), (1, [0, 3, 6]), (2, [0, 3, 6, 12]), (3, [4, 5]), (4, [0, 7, 8]), (5, [0, 7, 8, 20]), (6, [4, 5]), (7, [4, 5]), (1000000, [4, 5])] [] []
@[go_sem] theorem c20_i : c20.li 0 = [0, 1] ∧ c20.li 1 = [0, 3] ∧ c20.li 2 = [0, 3, 6] ∧ c20.li 3 = [6] ∧ c20.li 4 = [0, 3] ∧ c20.li 5 = [0, 7, 8] ∧ c20.li 6 = [8] ∧ c20.li 7 = [0, 7] := ⟨rfl, rfl, rfl, rfl, rfl, rfl, rfl, rfl⟩
@[go_sem] theorem c20_r0 (v0 : Option Addr) (v1 : api_Rec) : RP c20 0 [(0, v0), (1, v_api_Rec v1)] K =
 (nwc #[v1.Kind, v1.Txn, v1.Prev, v1.Page, v1.Act, str v1.Key, str v1.Old, str v1.New, v1.Next, .slice v1.Images.1 v1.Images.2.1 v1.Images.2.2, .slice v1.Table.1 v1.Table.2.1 v1.Table.2.2, v1.Epoch, v1.Node] 36 fun y1_ => (K [(0, v0), (3, y1_)])) := by kernel_rfl
@[go_sem] theorem c20_r1 (v0 : Option Addr) (v3 : Addr) : RP c20 1 [(0, v0), (3, v3)] K =
 (cal eI Tryz.prog 75 #[v0] fun (y1_ : Int) => (K [(0, v0), (3, v3), (6, y1_)])) := by kernel_rfl
@[go_sem] theorem c20_r2 (v0 : Option Addr) (v3 : Addr) (v6 : Int) : RP c20 2 [(0, v0), (3, v3), (6, v6)] K =
 (K [(0, v0), (3, v3), (6, v6), (12, .bool (v6 != 0))]) := by kernel_rfl
@[go_sem] theorem c20_r3 (v6 : Int) : RP c20 3 [(6, v6)] K =
 (K [(4, .int .i64 0), (5, v6)]) := by kernel_rfl
@[go_sem] theorem c20_r4 (v0 : Option Addr) (v3 : Addr) : RP c20 4 [(0, v0), (3, v3)] K =
 (ldn e_api_Rec 13 v3 fun (y1_ : api_Rec) => (cal (eT2 eS eI) Tryz.prog 18 #[v_api_Rec y1_] fun (y2_ : ((List UInt8) × Int)) => (K [(0, v0), (7, str y2_.1), (8, y2_.2)]))) := by kernel_rfl
@[go_sem] theorem c20_r5 (v0 : Option Addr) (v7 : List UInt8) (v8 : Int) : RP c20 5 [(0, v0), (7, str v7), (8, v8)] K =
 (K [(0, v0), (7, str v7), (8, v8), (20, .bool (v8 != 0))]) := by kernel_rfl
@[go_sem] theorem c20_r6 (v8 : Int) : RP c20 6 [(8, v8)] K =
 (K [(4, .int .i64 0), (5, v8)]) := by kernel_rfl
@[go_sem] theorem c20_r7 (v0 : Option Addr) (v7 : List UInt8) : RP c20 7 [(0, v0), (7, str v7)] K =
 (cal (eT2 eI eI) Tryz.prog 76 #[v0, str v7] fun (y1_ : (Int × Int)) => (K [(4, y1_.1), (5, y1_.2)])) := by kernel_rfl
@[go_sem] theorem c20_o : c20.lo 1000000 = [4, 5] := rfl
@[go_sem] theorem c20_e (v4 v5 : Int) : RTp c20 [(4, v4), (5, v5)] k = (k (.tuple #[v4, v5])) := by kernel_rfl
theorem c20_ok : (c20.P.follows .mixedOrders && okc c20 c20.body) = true := by kernel_rfl
theorem c20_fn (hρ : envA 0 args.toList = ρ) (hs : Nat.ble args.size 27 = true) (h : E L (D c20 (.seq (.reg 0) (.seq (.seq (.reg 1) (.seq (.reg 2) (.cond (.tmp 12) (.seq (.reg 3) (.ret)) (.skip)))) (.seq (.reg 4) (.seq (.seq (.reg 5) (.cond (.tmp 20) (.seq (.reg 6) (.ret)) (.skip))) (.seq (.reg 7) (.ret)))))) (fnQ c20 e G) ρ)) : E L (cal e Tryz.prog 20 args G) :=
  d_fn (c := c20) Tryz.func20 (by kernel_rfl) (by kernel_rfl) (by kernel_rfl) c20_ok (by kernel_rfl) (by kernel_rfl) hρ hs h
noncomputable def c21 := cf Tryz.f21 63 [(0, [0]), (1, [0]), (2, [0, 3]), (3, [3]), (4, [0]), (5, []), (6, [0]), (7, [0, 4]), (8, [0, 4]), (9, [0, 4]), (10, [0, 4, 5]), (11, [0, 5]), (12, [0]), (13, [0, 6]), (14, [0, 6]), (15, [0]), (16, [])] [(0, [0]), (1, [0, 3]), (2, [0, 3, 10]), (3, [2]), (4, [0, 21]), (5, [2]), (6, [0, 4]), (7, [0, 4, 34]), (8, [0, 4]), (9, [0, 4, 5]), (10, [0, 4, 5, 41]), (11, [2]), (12, [0, 6]), (13, [0, 6, 51]), (14, [2]), (15, []), (16, [2]), (1000000, [2])] [(4, (true, [(0, 1), (1, 1), (2, 1), (3, 0), (4, 1), (5, 1), (6, 1), (7, 0), (8, 1), (9, 1)]))] []
@[go_sem] theorem c21_i : c21.li 0 = [0] ∧ c21.li 1 = [0] ∧ c21.li 2 = [0, 3] ∧ c21.li 3 = [3] ∧ c21.li 4 = [0] ∧ c21.li 5 = [] ∧ c21.li 6 = [0] ∧ c21.li 7 = [0, 4] ∧ c21.li 8 = [0, 4] ∧ c21.li 9 = [0, 4] ∧ c21.li 10 = [0, 4, 5] ∧ c21.li 11 = [0, 5] ∧ c21.li 12 = [0] ∧ c21.li 13 = [0, 6] ∧ c21.li 14 = [0, 6] ∧ c21.li 15 = [0] ∧ c21.li 16 = [] := ⟨rfl, rfl, rfl, rfl, rfl, rfl, rfl, rfl, rfl, rfl, rfl, rfl, rfl, rfl, rfl, rfl, rfl⟩
@[go_sem] theorem c21_r0 (v0 : Option Addr) : RP c21 0 [(0, v0)] K =
 (K [(0, v0)]) := by kernel_rfl
@[go_sem] theorem c21_r1 (v0 : Option Addr) : RP c21 1 [(0, v0)] K =
 (cal eI Tryz.prog 75 #[v0] fun (y1_ : Int) => (K [(0, v0), (3, y1_)])) := by kernel_rfl
@[go_sem] theorem c21_r2 (v0 : Option Addr) (v3 : Int) : RP c21 2 [(0, v0), (3, v3)] K =
 (K [(0, v0), (3, v3), (10, .bool (v3 != 0))]) := by kernel_rfl
@[go_sem] theorem c21_r3 (v3 : Int) : RP c21 3 [(3, v3)] K =
 (K [(2, v3)]) := by kernel_rfl
@[go_sem] theorem c21_r4 (v0 : Option Addr) : RP c21 4 [(0, v0)] K =
 (ph fun S0 => (nn v0 fun y1_ => (ldq S0 eI (y1_.add 5) fun (y2_ : Int) => (nn v0 fun y3_ => (ldq S0 eS (y3_.add 4) fun (y4_ : List UInt8) => (K [(0, v0), (21, .bool (y2_ == (y4_.length : Int)))])))))) := by kernel_rfl
@[go_sem] theorem c21_r5 : RP c21 5 [] K =
 (K [(2, .int .i64 0)]) := by kernel_rfl
@[go_sem] theorem c21_r6 (v0 : Option Addr) : RP c21 6 [(0, v0)] K =
 (nn v0 fun y1_ => (ld eI (y1_.add 5) fun (y2_ : Int) => (rq ((58 : Int) ≠ 0) (K [(0, v0), (4, IntKind.wrap .i64 (y2_.tdiv (58 : Int)))])))) := by kernel_rfl
@[go_sem] theorem c21_r7 (v0 : Option Addr) (v4 : Int) : RP c21 7 [(0, v0), (4, v4)] K =
 (nn v0 fun y1_ => (ld eS (y1_.add 4) fun (y2_ : List UInt8) => (K [(0, v0), (4, v4), (34, decide ((IntKind.wrap .i64 (v4 * 58)) < (y2_.length : Int)))]))) := by kernel_rfl
@[go_sem] theorem c21_r8 (v0 : Option Addr) (v4 : Int) : RP c21 8 [(0, v0), (4, v4)] K =
 (K [(0, v0), (4, IntKind.wrap .i64 (v4 + 1))]) := by kernel_rfl
@[go_sem] theorem c21_r9 (v0 : Option Addr) (v4 : Int) : RP c21 9 [(0, v0), (4, v4)] K =
 (cal eI Tryz.prog 77 #[v0, v4] fun (y1_ : Int) => (K [(0, v0), (4, v4), (5, y1_)])) := by kernel_rfl
@[go_sem] theorem c21_r10 (v0 : Option Addr) (v4 v5 : Int) : RP c21 10 [(0, v0), (4, v4), (5, v5)] K =
 (K [(0, v0), (4, v4), (5, v5), (41, .bool (v5 != 0))]) := by kernel_rfl
@[go_sem] theorem c21_r11 (v0 : Option Addr) (v5 : Int) : RP c21 11 [(0, v0), (5, v5)] K =
 (cal eI Tryz.prog 78 #[v0, v5] fun (y1_ : Int) => (K [(2, y1_)])) := by kernel_rfl
@[go_sem] theorem c21_r12 (v0 : Option Addr) : RP c21 12 [(0, v0)] K =
 (nn v0 fun y1_ => (ld eP y1_ fun (y2_ : Option Addr) => (cal eI Tryz.prog 79 #[y2_] fun (y3_ : Int) => (K [(0, v0), (6, y3_)])))) := by kernel_rfl
@[go_sem] theorem c21_r13 (v0 : Option Addr) (v6 : Int) : RP c21 13 [(0, v0), (6, v6)] K =
 (K [(0, v0), (6, v6), (51, .bool (v6 != 0))]) := by kernel_rfl
@[go_sem] theorem c21_r14 (v0 : Option Addr) (v6 : Int) : RP c21 14 [(0, v0), (6, v6)] K =
 (cal eI Tryz.prog 78 #[v0, v6] fun (y1_ : Int) => (K [(2, y1_)])) := by kernel_rfl
@[go_sem] theorem c21_r15 (v0 : Option Addr) : RP c21 15 [(0, v0)] K =
 (nn v0 fun y1_ => (ld eS (y1_.add 4) fun (y2_ : List UInt8) => (nn v0 fun y3_ => (st (y3_.add 5) (.int .i64 (y2_.length : Int)) (K []))))) := by kernel_rfl
@[go_sem] theorem c21_r16 : RP c21 16 [] K =
 (K [(2, .int .i64 0)]) := by kernel_rfl
@[go_sem] theorem c21_o : c21.lo 1000000 = [2] := rfl
@[go_sem] theorem c21_e (v2 : Int) : RTp c21 [(2, v2)] k = (k (v2)) := by kernel_rfl
theorem c21_ok : (c21.P.follows .mixedOrders && okc c21 c21.body) = true := by kernel_rfl
theorem c21_fn (hρ : envA 0 args.toList = ρ) (hs : Nat.ble args.size 63 = true) (h : E L (D c21 (.seq (.reg 0) (.seq (.seq (.reg 1) (.seq (.reg 2) (.cond (.tmp 10) (.seq (.reg 3) (.ret)) (.skip)))) (.seq (.seq (.reg 4) (.cond (.tmp 21) (.seq (.reg 5) (.ret)) (.skip))) (.seq (.seq (.reg 6) (.block 0 (.loop (.seq (.seq (.reg 7) (.cond (.tmp 34) (.skip) (.exit 0))) (.seq (.block 1 (.seq (.reg 9) (.seq (.reg 10) (.cond (.tmp 41) (.seq (.reg 11) (.ret)) (.skip))))) (.reg 8)))))) (.seq (.seq (.reg 12) (.seq (.reg 13) (.cond (.tmp 51) (.seq (.reg 14) (.ret)) (.skip)))) (.seq (.reg 15) (.seq (.reg 16) (.ret)))))))) (fnQ c21 e G) ρ)) : E L (cal e Tryz.prog 21 args G) :=
  d_fn (c := c21) Tryz.func21 (by kernel_rfl) (by kernel_rfl) (by kernel_rfl) c21_ok (by kernel_rfl) (by kernel_rfl) hρ hs h
noncomputable def c28 := cf Tryz.f28 11 [(0, [0]), (1, [0]), (2, []), (3, [0])] [(0, [0]), (1, [0, 4]), (2, [2]), (3, [2]), (1000000, [2])] [] []
@[go_sem] theorem c28_i : c28.li 0 = [0] ∧ c28.li 1 = [0] ∧ c28.li 2 = [] ∧ c28.li 3 = [0] := ⟨rfl, rfl, rfl, rfl⟩
@[go_sem] theorem c28_r0 (v0 : Option Addr) : RP c28 0 [(0, v0)] K =
 (K [(0, v0)]) := by kernel_rfl
@[go_sem] theorem c28_r1 (v0 : Option Addr) : RP c28 1 [(0, v0)] K =
 (cal eB Tryz.prog 83 #[v0] fun (y1_ : Bool) => (K [(0, v0), (4, y1_)])) := by kernel_rfl
@[go_sem] theorem c28_r2 : RP c28 2 [] K =
 (K [(2, .int .i64 0)]) := by kernel_rfl
@[go_sem] theorem c28_r3 (v0 : Option Addr) : RP c28 3 [(0, v0)] K =
 (nn v0 fun y1_ => (ld eS (y1_.add 4) fun (y2_ : List UInt8) => (K [(2, IntKind.wrap .i64 ((y2_.length : Int) + 1))]))) := by kernel_rfl
@[go_sem] theorem c28_o : c28.lo 1000000 = [2] := rfl
@[go_sem] theorem c28_e (v2 : Int) : RTp c28 [(2, v2)] k = (k (v2)) := by kernel_rfl
theorem c28_ok : (c28.P.follows .mixedOrders && okc c28 c28.body) = true := by kernel_rfl
theorem c28_fn (hρ : envA 0 args.toList = ρ) (hs : Nat.ble args.size 11 = true) (h : E L (D c28 (.seq (.reg 0) (.seq (.seq (.reg 1) (.cond (.tmp 4) (.seq (.reg 2) (.ret)) (.skip))) (.seq (.reg 3) (.ret)))) (fnQ c28 e G) ρ)) : E L (cal e Tryz.prog 28 args G) :=
  d_fn (c := c28) Tryz.func28 (by kernel_rfl) (by kernel_rfl) (by kernel_rfl) c28_ok (by kernel_rfl) (by kernel_rfl) hρ hs h
noncomputable def c29 := cf Tryz.f29 10 [(0, [0]), (1, [0]), (2, []), (3, [0])] [(0, [0]), (1, [0, 4]), (2, [2]), (3, [2]), (1000000, [2])] [] []
@[go_sem] theorem c29_i : c29.li 0 = [0] ∧ c29.li 1 = [0] ∧ c29.li 2 = [] ∧ c29.li 3 = [0] := ⟨rfl, rfl, rfl, rfl⟩
@[go_sem] theorem c29_r0 (v0 : Option Addr) : RP c29 0 [(0, v0)] K =
 (K [(0, v0)]) := by kernel_rfl
@[go_sem] theorem c29_r1 (v0 : Option Addr) : RP c29 1 [(0, v0)] K =
 (cal eB Tryz.prog 83 #[v0] fun (y1_ : Bool) => (K [(0, v0), (4, y1_)])) := by kernel_rfl
@[go_sem] theorem c29_r2 : RP c29 2 [] K =
 (K [(2, .int .i64 0)]) := by kernel_rfl
@[go_sem] theorem c29_r3 (v0 : Option Addr) : RP c29 3 [(0, v0)] K =
 (nn v0 fun y1_ => (ld eI (y1_.add 5) fun (y2_ : Int) => (K [(2, IntKind.wrap .i64 (y2_ + 1))]))) := by kernel_rfl
@[go_sem] theorem c29_o : c29.lo 1000000 = [2] := rfl
@[go_sem] theorem c29_e (v2 : Int) : RTp c29 [(2, v2)] k = (k (v2)) := by kernel_rfl
theorem c29_ok : (c29.P.follows .mixedOrders && okc c29 c29.body) = true := by kernel_rfl
theorem c29_fn (hρ : envA 0 args.toList = ρ) (hs : Nat.ble args.size 10 = true) (h : E L (D c29 (.seq (.reg 0) (.seq (.seq (.reg 1) (.cond (.tmp 4) (.seq (.reg 2) (.ret)) (.skip))) (.seq (.reg 3) (.ret)))) (fnQ c29 e G) ρ)) : E L (cal e Tryz.prog 29 args G) :=
  d_fn (c := c29) Tryz.func29 (by kernel_rfl) (by kernel_rfl) (by kernel_rfl) c29_ok (by kernel_rfl) (by kernel_rfl) hρ hs h
noncomputable def c30 := cf Tryz.f30 16 [(0, [0]), (1, [0]), (2, []), (3, [0])] [(0, [0]), (1, [0, 4]), (2, [2]), (3, [2]), (1000000, [2])] [(3, (true, [(0, 1), (1, 1), (2, 1), (3, 0), (4, 1), (5, 1), (6, 1), (7, 1), (8, 0), (9, 1), (10, 1), (11, 1)]))] []
@[go_sem] theorem c30_i : c30.li 0 = [0] ∧ c30.li 1 = [0] ∧ c30.li 2 = [] ∧ c30.li 3 = [0] := ⟨rfl, rfl, rfl, rfl⟩
@[go_sem] theorem c30_r0 (v0 : Option Addr) : RP c30 0 [(0, v0)] K =
 (K [(0, v0)]) := by kernel_rfl
@[go_sem] theorem c30_r1 (v0 : Option Addr) : RP c30 1 [(0, v0)] K =
 (cal eB Tryz.prog 83 #[v0] fun (y1_ : Bool) => (K [(0, v0), (4, y1_)])) := by kernel_rfl
@[go_sem] theorem c30_r2 : RP c30 2 [] K =
 (K [(2, .int .i64 0)]) := by kernel_rfl
@[go_sem] theorem c30_r3 (v0 : Option Addr) : RP c30 3 [(0, v0)] K =
 (ph fun S0 => (nn v0 fun y1_ => (ldq S0 eI (y1_.add 2) fun (y2_ : Int) => (nn v0 fun y3_ => (ldq S0 eS (y3_.add 4) fun (y4_ : List UInt8) => (K [(2, IntKind.wrap .i64 ((IntKind.wrap .i64 (y2_ * 58)) - (y4_.length : Int)))])))))) := by kernel_rfl
@[go_sem] theorem c30_o : c30.lo 1000000 = [2] := rfl
@[go_sem] theorem c30_e (v2 : Int) : RTp c30 [(2, v2)] k = (k (v2)) := by kernel_rfl
theorem c30_ok : (c30.P.follows .mixedOrders && okc c30 c30.body) = true := by kernel_rfl
theorem c30_fn (hρ : envA 0 args.toList = ρ) (hs : Nat.ble args.size 16 = true) (h : E L (D c30 (.seq (.reg 0) (.seq (.seq (.reg 1) (.cond (.tmp 4) (.seq (.reg 2) (.ret)) (.skip))) (.seq (.reg 3) (.ret)))) (fnQ c30 e G) ρ)) : E L (cal e Tryz.prog 30 args G) :=
  d_fn (c := c30) Tryz.func30 (by kernel_rfl) (by kernel_rfl) (by kernel_rfl) c30_ok (by kernel_rfl) (by kernel_rfl) hρ hs h
noncomputable def c35 := cf Tryz.f35 46 [(0, [0, 1]), (1, [0, 1, 4]), (2, [4]), (3, [0, 1, 4]), (4, [4]), (5, [0, 1, 4]), (6, [1, 4, 7, 8, 9]), (7, [4, 9]), (8, [1, 4, 7, 8])] [(0, [0, 1, 4]), (1, [0, 1, 4, 10]), (2, [4, 5, 6]), (3, [0, 1, 4, 14]), (4, [4, 5, 6]), (5, [1, 4, 7, 8, 9]), (6, [1, 4, 7, 8, 9, 39]), (7, [4, 5, 6]), (8, [4, 5, 6]), (1000000, [4, 5, 6])] [] []
@[go_sem] theorem c35_i : c35.li 0 = [0, 1] ∧ c35.li 1 = [0, 1, 4] ∧ c35.li 2 = [4] ∧ c35.li 3 = [0, 1, 4] ∧ c35.li 4 = [4] ∧ c35.li 5 = [0, 1, 4] ∧ c35.li 6 = [1, 4, 7, 8, 9] ∧ c35.li 7 = [4, 9] ∧ c35.li 8 = [1, 4, 7, 8] := ⟨rfl, rfl, rfl, rfl, rfl, rfl, rfl, rfl, rfl⟩
@[go_sem] theorem c35_r0 (v0 : Option Addr) (v1 : Int) : RP c35 0 [(0, v0), (1, v1)] K =
 (nwc #[.int .i64 0, .int .i64 0, .int .i64 0, .int .i64 0, .int .i64 0, str ([] : List UInt8), str ([] : List UInt8), str ([] : List UInt8), .int .i64 0, .slice none 0 0, .slice none 0 0, .int .i64 0, .int .i64 0] 36 fun y1_ => (K [(0, v0), (1, v1), (4, y1_)])) := by kernel_rfl
@[go_sem] theorem c35_r1 (v0 : Option Addr) (v1 : Int) (v4 : Addr) : RP c35 1 [(0, v0), (1, v1), (4, v4)] K =
 (cal eB Tryz.prog 83 #[v0] fun (y1_ : Bool) => (K [(0, v0), (1, v1), (4, v4), (10, y1_)])) := by kernel_rfl
@[go_sem] theorem c35_r2 (v4 : Addr) : RP c35 2 [(4, v4)] K =
 (stl [.int .i64 ((⟨(0 : Int), (0 : Int), (0 : Int), (0 : Int), (0 : Int), ([] : List UInt8), ([] : List UInt8), ([] : List UInt8), (0 : Int), (none, 0, 0), (none, 0, 0), (0 : Int), (0 : Int)⟩ : api_Rec).Kind), .int .i64 ((⟨(0 : Int), (0 : Int), (0 : Int), (0 : Int), (0 : Int), ([] : List UInt8), ([] : List UInt8), ([] : List UInt8), (0 : Int), (none, 0, 0), (none, 0, 0), (0 : Int), (0 : Int)⟩ : api_Rec).Txn), .int .i64 ((⟨(0 : Int), (0 : Int), (0 : Int), (0 : Int), (0 : Int), ([] : List UInt8), ([] : List UInt8), ([] : List UInt8), (0 : Int), (none, 0, 0), (none, 0, 0), (0 : Int), (0 : Int)⟩ : api_Rec).Prev), .int .i64 ((⟨(0 : Int), (0 : Int), (0 : Int), (0 : Int), (0 : Int), ([] : List UInt8), ([] : List UInt8), ([] : List UInt8), (0 : Int), (none, 0, 0), (none, 0, 0), (0 : Int), (0 : Int)⟩ : api_Rec).Page), .int .i64 ((⟨(0 : Int), (0 : Int), (0 : Int), (0 : Int), (0 : Int), ([] : List UInt8), ([] : List UInt8), ([] : List UInt8), (0 : Int), (none, 0, 0), (none, 0, 0), (0 : Int), (0 : Int)⟩ : api_Rec).Act), str ((⟨(0 : Int), (0 : Int), (0 : Int), (0 : Int), (0 : Int), ([] : List UInt8), ([] : List UInt8), ([] : List UInt8), (0 : Int), (none, 0, 0), (none, 0, 0), (0 : Int), (0 : Int)⟩ : api_Rec).Key), str ((⟨(0 : Int), (0 : Int), (0 : Int), (0 : Int), (0 : Int), ([] : List UInt8), ([] : List UInt8), ([] : List UInt8), (0 : Int), (none, 0, 0), (none, 0, 0), (0 : Int), (0 : Int)⟩ : api_Rec).Old), str ((⟨(0 : Int), (0 : Int), (0 : Int), (0 : Int), (0 : Int), ([] : List UInt8), ([] : List UInt8), ([] : List UInt8), (0 : Int), (none, 0, 0), (none, 0, 0), (0 : Int), (0 : Int)⟩ : api_Rec).New), .int .i64 ((⟨(0 : Int), (0 : Int), (0 : Int), (0 : Int), (0 : Int), ([] : List UInt8), ([] : List UInt8), ([] : List UInt8), (0 : Int), (none, 0, 0), (none, 0, 0), (0 : Int), (0 : Int)⟩ : api_Rec).Next), .slice (((⟨(0 : Int), (0 : Int), (0 : Int), (0 : Int), (0 : Int), ([] : List UInt8), ([] : List UInt8), ([] : List UInt8), (0 : Int), (none, 0, 0), (none, 0, 0), (0 : Int), (0 : Int)⟩ : api_Rec).Images).1) (((⟨(0 : Int), (0 : Int), (0 : Int), (0 : Int), (0 : Int), ([] : List UInt8), ([] : List UInt8), ([] : List UInt8), (0 : Int), (none, 0, 0), (none, 0, 0), (0 : Int), (0 : Int)⟩ : api_Rec).Images).2.1) (((⟨(0 : Int), (0 : Int), (0 : Int), (0 : Int), (0 : Int), ([] : List UInt8), ([] : List UInt8), ([] : List UInt8), (0 : Int), (none, 0, 0), (none, 0, 0), (0 : Int), (0 : Int)⟩ : api_Rec).Images).2.2), .slice (((⟨(0 : Int), (0 : Int), (0 : Int), (0 : Int), (0 : Int), ([] : List UInt8), ([] : List UInt8), ([] : List UInt8), (0 : Int), (none, 0, 0), (none, 0, 0), (0 : Int), (0 : Int)⟩ : api_Rec).Table).1) (((⟨(0 : Int), (0 : Int), (0 : Int), (0 : Int), (0 : Int), ([] : List UInt8), ([] : List UInt8), ([] : List UInt8), (0 : Int), (none, 0, 0), (none, 0, 0), (0 : Int), (0 : Int)⟩ : api_Rec).Table).2.1) (((⟨(0 : Int), (0 : Int), (0 : Int), (0 : Int), (0 : Int), ([] : List UInt8), ([] : List UInt8), ([] : List UInt8), (0 : Int), (none, 0, 0), (none, 0, 0), (0 : Int), (0 : Int)⟩ : api_Rec).Table).2.2), .int .i64 ((⟨(0 : Int), (0 : Int), (0 : Int), (0 : Int), (0 : Int), ([] : List UInt8), ([] : List UInt8), ([] : List UInt8), (0 : Int), (none, 0, 0), (none, 0, 0), (0 : Int), (0 : Int)⟩ : api_Rec).Epoch), .int .i64 ((⟨(0 : Int), (0 : Int), (0 : Int), (0 : Int), (0 : Int), ([] : List UInt8), ([] : List UInt8), ([] : List UInt8), (0 : Int), (none, 0, 0), (none, 0, 0), (0 : Int), (0 : Int)⟩ : api_Rec).Node)] v4 0 (K [(4, v4), (5, .int .i64 0), (6, .int .i64 11)])) := by kernel_rfl
@[go_sem] theorem c35_r3 (v0 : Option Addr) (v1 : Int) (v4 : Addr) : RP c35 3 [(0, v0), (1, v1), (4, v4)] K =
 (cnd (decide (v1 < 1)) (K [(0, v0), (1, v1), (4, v4), (14, true)]) (nn v0 fun y1_ => (ld eS (y1_.add 4) fun (y2_ : List UInt8) => (K [(0, v0), (1, v1), (4, v4), (14, decide ((y2_.length : Int) < v1))])))) := by kernel_rfl
@[go_sem] theorem c35_r4 (v4 : Addr) : RP c35 4 [(4, v4)] K =
 (stl [.int .i64 ((⟨(0 : Int), (0 : Int), (0 : Int), (0 : Int), (0 : Int), ([] : List UInt8), ([] : List UInt8), ([] : List UInt8), (0 : Int), (none, 0, 0), (none, 0, 0), (0 : Int), (0 : Int)⟩ : api_Rec).Kind), .int .i64 ((⟨(0 : Int), (0 : Int), (0 : Int), (0 : Int), (0 : Int), ([] : List UInt8), ([] : List UInt8), ([] : List UInt8), (0 : Int), (none, 0, 0), (none, 0, 0), (0 : Int), (0 : Int)⟩ : api_Rec).Txn), .int .i64 ((⟨(0 : Int), (0 : Int), (0 : Int), (0 : Int), (0 : Int), ([] : List UInt8), ([] : List UInt8), ([] : List UInt8), (0 : Int), (none, 0, 0), (none, 0, 0), (0 : Int), (0 : Int)⟩ : api_Rec).Prev), .int .i64 ((⟨(0 : Int), (0 : Int), (0 : Int), (0 : Int), (0 : Int), ([] : List UInt8), ([] : List UInt8), ([] : List UInt8), (0 : Int), (none, 0, 0), (none, 0, 0), (0 : Int), (0 : Int)⟩ : api_Rec).Page), .int .i64 ((⟨(0 : Int), (0 : Int), (0 : Int), (0 : Int), (0 : Int), ([] : List UInt8), ([] : List UInt8), ([] : List UInt8), (0 : Int), (none, 0, 0), (none, 0, 0), (0 : Int), (0 : Int)⟩ : api_Rec).Act), str ((⟨(0 : Int), (0 : Int), (0 : Int), (0 : Int), (0 : Int), ([] : List UInt8), ([] : List UInt8), ([] : List UInt8), (0 : Int), (none, 0, 0), (none, 0, 0), (0 : Int), (0 : Int)⟩ : api_Rec).Key), str ((⟨(0 : Int), (0 : Int), (0 : Int), (0 : Int), (0 : Int), ([] : List UInt8), ([] : List UInt8), ([] : List UInt8), (0 : Int), (none, 0, 0), (none, 0, 0), (0 : Int), (0 : Int)⟩ : api_Rec).Old), str ((⟨(0 : Int), (0 : Int), (0 : Int), (0 : Int), (0 : Int), ([] : List UInt8), ([] : List UInt8), ([] : List UInt8), (0 : Int), (none, 0, 0), (none, 0, 0), (0 : Int), (0 : Int)⟩ : api_Rec).New), .int .i64 ((⟨(0 : Int), (0 : Int), (0 : Int), (0 : Int), (0 : Int), ([] : List UInt8), ([] : List UInt8), ([] : List UInt8), (0 : Int), (none, 0, 0), (none, 0, 0), (0 : Int), (0 : Int)⟩ : api_Rec).Next), .slice (((⟨(0 : Int), (0 : Int), (0 : Int), (0 : Int), (0 : Int), ([] : List UInt8), ([] : List UInt8), ([] : List UInt8), (0 : Int), (none, 0, 0), (none, 0, 0), (0 : Int), (0 : Int)⟩ : api_Rec).Images).1) (((⟨(0 : Int), (0 : Int), (0 : Int), (0 : Int), (0 : Int), ([] : List UInt8), ([] : List UInt8), ([] : List UInt8), (0 : Int), (none, 0, 0), (none, 0, 0), (0 : Int), (0 : Int)⟩ : api_Rec).Images).2.1) (((⟨(0 : Int), (0 : Int), (0 : Int), (0 : Int), (0 : Int), ([] : List UInt8), ([] : List UInt8), ([] : List UInt8), (0 : Int), (none, 0, 0), (none, 0, 0), (0 : Int), (0 : Int)⟩ : api_Rec).Images).2.2), .slice (((⟨(0 : Int), (0 : Int), (0 : Int), (0 : Int), (0 : Int), ([] : List UInt8), ([] : List UInt8), ([] : List UInt8), (0 : Int), (none, 0, 0), (none, 0, 0), (0 : Int), (0 : Int)⟩ : api_Rec).Table).1) (((⟨(0 : Int), (0 : Int), (0 : Int), (0 : Int), (0 : Int), ([] : List UInt8), ([] : List UInt8), ([] : List UInt8), (0 : Int), (none, 0, 0), (none, 0, 0), (0 : Int), (0 : Int)⟩ : api_Rec).Table).2.1) (((⟨(0 : Int), (0 : Int), (0 : Int), (0 : Int), (0 : Int), ([] : List UInt8), ([] : List UInt8), ([] : List UInt8), (0 : Int), (none, 0, 0), (none, 0, 0), (0 : Int), (0 : Int)⟩ : api_Rec).Table).2.2), .int .i64 ((⟨(0 : Int), (0 : Int), (0 : Int), (0 : Int), (0 : Int), ([] : List UInt8), ([] : List UInt8), ([] : List UInt8), (0 : Int), (none, 0, 0), (none, 0, 0), (0 : Int), (0 : Int)⟩ : api_Rec).Epoch), .int .i64 ((⟨(0 : Int), (0 : Int), (0 : Int), (0 : Int), (0 : Int), ([] : List UInt8), ([] : List UInt8), ([] : List UInt8), (0 : Int), (none, 0, 0), (none, 0, 0), (0 : Int), (0 : Int)⟩ : api_Rec).Node)] v4 0 (K [(4, v4), (5, .int .i64 0), (6, .int .i64 8)])) := by kernel_rfl
@[go_sem] theorem c35_r5 (v0 : Option Addr) (v1 : Int) (v4 : Addr) : RP c35 5 [(0, v0), (1, v1), (4, v4)] K =
 (nn v0 fun y1_ => (ld eS (y1_.add 4) fun (y2_ : List UInt8) => (cal (eT3 e_api_Rec eI eI) Tryz.prog 26 #[str y2_, IntKind.wrap .i64 (v1 - 1)] fun (y3_ : (api_Rec × Int × Int)) => (nwc #[.int .i64 0, .int .i64 0, .int .i64 0, .int .i64 0, .int .i64 0, str ([] : List UInt8), str ([] : List UInt8), str ([] : List UInt8), .int .i64 0, .slice none 0 0, .slice none 0 0, .int .i64 0, .int .i64 0] 36 fun y4_ => (stl [.int .i64 y3_.1.Kind, .int .i64 y3_.1.Txn, .int .i64 y3_.1.Prev, .int .i64 y3_.1.Page, .int .i64 y3_.1.Act, str y3_.1.Key, str y3_.1.Old, str y3_.1.New, .int .i64 y3_.1.Next, .slice y3_.1.Images.1 y3_.1.Images.2.1 y3_.1.Images.2.2, .slice y3_.1.Table.1 y3_.1.Table.2.1 y3_.1.Table.2.2, .int .i64 y3_.1.Epoch, .int .i64 y3_.1.Node] y4_ 0 (K [(1, v1), (4, v4), (7, y4_), (8, .int .i64 y3_.2.1), (9, .int .i64 y3_.2.2)])))))) := by kernel_rfl
@[go_sem] theorem c35_r6 (v1 : Int) (v4 v7 : Addr) (v8 v9 : Int) : RP c35 6 [(1, v1), (4, v4), (7, v7), (8, v8), (9, v9)] K =
 (K [(1, v1), (4, v4), (7, v7), (8, v8), (9, v9), (39, .bool (v9 != 0))]) := by kernel_rfl
@[go_sem] theorem c35_r7 (v4 : Addr) (v9 : Int) : RP c35 7 [(4, v4), (9, v9)] K =
 (stl [.int .i64 ((⟨(0 : Int), (0 : Int), (0 : Int), (0 : Int), (0 : Int), ([] : List UInt8), ([] : List UInt8), ([] : List UInt8), (0 : Int), (none, 0, 0), (none, 0, 0), (0 : Int), (0 : Int)⟩ : api_Rec).Kind), .int .i64 ((⟨(0 : Int), (0 : Int), (0 : Int), (0 : Int), (0 : Int), ([] : List UInt8), ([] : List UInt8), ([] : List UInt8), (0 : Int), (none, 0, 0), (none, 0, 0), (0 : Int), (0 : Int)⟩ : api_Rec).Txn), .int .i64 ((⟨(0 : Int), (0 : Int), (0 : Int), (0 : Int), (0 : Int), ([] : List UInt8), ([] : List UInt8), ([] : List UInt8), (0 : Int), (none, 0, 0), (none, 0, 0), (0 : Int), (0 : Int)⟩ : api_Rec).Prev), .int .i64 ((⟨(0 : Int), (0 : Int), (0 : Int), (0 : Int), (0 : Int), ([] : List UInt8), ([] : List UInt8), ([] : List UInt8), (0 : Int), (none, 0, 0), (none, 0, 0), (0 : Int), (0 : Int)⟩ : api_Rec).Page), .int .i64 ((⟨(0 : Int), (0 : Int), (0 : Int), (0 : Int), (0 : Int), ([] : List UInt8), ([] : List UInt8), ([] : List UInt8), (0 : Int), (none, 0, 0), (none, 0, 0), (0 : Int), (0 : Int)⟩ : api_Rec).Act), str ((⟨(0 : Int), (0 : Int), (0 : Int), (0 : Int), (0 : Int), ([] : List UInt8), ([] : List UInt8), ([] : List UInt8), (0 : Int), (none, 0, 0), (none, 0, 0), (0 : Int), (0 : Int)⟩ : api_Rec).Key), str ((⟨(0 : Int), (0 : Int), (0 : Int), (0 : Int), (0 : Int), ([] : List UInt8), ([] : List UInt8), ([] : List UInt8), (0 : Int), (none, 0, 0), (none, 0, 0), (0 : Int), (0 : Int)⟩ : api_Rec).Old), str ((⟨(0 : Int), (0 : Int), (0 : Int), (0 : Int), (0 : Int), ([] : List UInt8), ([] : List UInt8), ([] : List UInt8), (0 : Int), (none, 0, 0), (none, 0, 0), (0 : Int), (0 : Int)⟩ : api_Rec).New), .int .i64 ((⟨(0 : Int), (0 : Int), (0 : Int), (0 : Int), (0 : Int), ([] : List UInt8), ([] : List UInt8), ([] : List UInt8), (0 : Int), (none, 0, 0), (none, 0, 0), (0 : Int), (0 : Int)⟩ : api_Rec).Next), .slice (((⟨(0 : Int), (0 : Int), (0 : Int), (0 : Int), (0 : Int), ([] : List UInt8), ([] : List UInt8), ([] : List UInt8), (0 : Int), (none, 0, 0), (none, 0, 0), (0 : Int), (0 : Int)⟩ : api_Rec).Images).1) (((⟨(0 : Int), (0 : Int), (0 : Int), (0 : Int), (0 : Int), ([] : List UInt8), ([] : List UInt8), ([] : List UInt8), (0 : Int), (none, 0, 0), (none, 0, 0), (0 : Int), (0 : Int)⟩ : api_Rec).Images).2.1) (((⟨(0 : Int), (0 : Int), (0 : Int), (0 : Int), (0 : Int), ([] : List UInt8), ([] : List UInt8), ([] : List UInt8), (0 : Int), (none, 0, 0), (none, 0, 0), (0 : Int), (0 : Int)⟩ : api_Rec).Images).2.2), .slice (((⟨(0 : Int), (0 : Int), (0 : Int), (0 : Int), (0 : Int), ([] : List UInt8), ([] : List UInt8), ([] : List UInt8), (0 : Int), (none, 0, 0), (none, 0, 0), (0 : Int), (0 : Int)⟩ : api_Rec).Table).1) (((⟨(0 : Int), (0 : Int), (0 : Int), (0 : Int), (0 : Int), ([] : List UInt8), ([] : List UInt8), ([] : List UInt8), (0 : Int), (none, 0, 0), (none, 0, 0), (0 : Int), (0 : Int)⟩ : api_Rec).Table).2.1) (((⟨(0 : Int), (0 : Int), (0 : Int), (0 : Int), (0 : Int), ([] : List UInt8), ([] : List UInt8), ([] : List UInt8), (0 : Int), (none, 0, 0), (none, 0, 0), (0 : Int), (0 : Int)⟩ : api_Rec).Table).2.2), .int .i64 ((⟨(0 : Int), (0 : Int), (0 : Int), (0 : Int), (0 : Int), ([] : List UInt8), ([] : List UInt8), ([] : List UInt8), (0 : Int), (none, 0, 0), (none, 0, 0), (0 : Int), (0 : Int)⟩ : api_Rec).Epoch), .int .i64 ((⟨(0 : Int), (0 : Int), (0 : Int), (0 : Int), (0 : Int), ([] : List UInt8), ([] : List UInt8), ([] : List UInt8), (0 : Int), (none, 0, 0), (none, 0, 0), (0 : Int), (0 : Int)⟩ : api_Rec).Node)] v4 0 (K [(4, v4), (5, .int .i64 0), (6, v9)])) := by kernel_rfl
@[go_sem] theorem c35_r8 (v1 : Int) (v4 v7 : Addr) (v8 : Int) : RP c35 8 [(1, v1), (4, v4), (7, v7), (8, v8)] K =
 (ldn e_api_Rec 13 v7 fun (y1_ : api_Rec) => (stl [y1_.Kind, y1_.Txn, y1_.Prev, y1_.Page, y1_.Act, str y1_.Key, str y1_.Old, str y1_.New, y1_.Next, .slice y1_.Images.1 y1_.Images.2.1 y1_.Images.2.2, .slice y1_.Table.1 y1_.Table.2.1 y1_.Table.2.2, y1_.Epoch, y1_.Node] v4 0 (K [(4, v4), (5, IntKind.wrap .i64 (v1 + v8)), (6, .int .i64 0)]))) := by kernel_rfl
@[go_sem] theorem c35_o : c35.lo 1000000 = [4, 5, 6] := rfl
@[go_sem] theorem c35_e (v4 : Addr) (v5 v6 : Int) : RTp c35 [(4, v4), (5, v5), (6, v6)] k = (ldn e_api_Rec 13 v4 fun (y1_ : api_Rec) => (k (.tuple #[v_api_Rec y1_, v5, v6]))) := by kernel_rfl
theorem c35_ok : (c35.P.follows .mixedOrders && okc c35 c35.body) = true := by kernel_rfl
theorem c35_fn (hρ : envA 0 args.toList = ρ) (hs : Nat.ble args.size 46 = true) (h : E L (D c35 (.seq (.reg 0) (.seq (.block 0 (.seq (.reg 1) (.cond (.tmp 10) (.seq (.reg 2) (.ret)) (.seq (.reg 3) (.cond (.tmp 14) (.seq (.reg 4) (.ret)) (.skip)))))) (.seq (.reg 5) (.seq (.seq (.reg 6) (.cond (.tmp 39) (.seq (.reg 7) (.ret)) (.skip))) (.seq (.reg 8) (.ret)))))) (fnQ c35 e G) ρ)) : E L (cal e Tryz.prog 35 args G) :=
  d_fn (c := c35) Tryz.func35 (by kernel_rfl) (by kernel_rfl) (by kernel_rfl) c35_ok (by kernel_rfl) (by kernel_rfl) hρ hs h
noncomputable def c40 := cf Tryz.f40 17 [(0, [0, 1]), (1, [0, 1]), (2, [0, 1, 5]), (3, [5]), (4, [0, 1]), (5, []), (6, [0])] [(0, [0, 1]), (1, [0, 1, 5]), (2, [0, 1, 5, 9]), (3, [4]), (4, [0, 14]), (5, [4]), (6, [4]), (1000000, [4])] [] []
@[go_sem] theorem c40_i : c40.li 0 = [0, 1] ∧ c40.li 1 = [0, 1] ∧ c40.li 2 = [0, 1, 5] ∧ c40.li 3 = [5] ∧ c40.li 4 = [0, 1] ∧ c40.li 5 = [] ∧ c40.li 6 = [0] := ⟨rfl, rfl, rfl, rfl, rfl, rfl, rfl⟩
@[go_sem] theorem c40_r0 (v0 : Option Addr) (v1 : Int) : RP c40 0 [(0, v0), (1, v1)] K =
 (K [(0, v0), (1, v1)]) := by kernel_rfl
@[go_sem] theorem c40_r1 (v0 : Option Addr) (v1 : Int) : RP c40 1 [(0, v0), (1, v1)] K =
 (cal eI Tryz.prog 75 #[v0] fun (y1_ : Int) => (K [(0, v0), (1, v1), (5, y1_)])) := by kernel_rfl
@[go_sem] theorem c40_r2 (v0 : Option Addr) (v1 v5 : Int) : RP c40 2 [(0, v0), (1, v1), (5, v5)] K =
 (K [(0, v0), (1, v1), (5, v5), (9, .bool (v5 != 0))]) := by kernel_rfl
@[go_sem] theorem c40_r3 (v5 : Int) : RP c40 3 [(5, v5)] K =
 (K [(4, v5)]) := by kernel_rfl
@[go_sem] theorem c40_r4 (v0 : Option Addr) (v1 : Int) : RP c40 4 [(0, v0), (1, v1)] K =
 (cal eI Tryz.prog 29 #[v0] fun (y1_ : Int) => (K [(0, v0), (14, decide (v1 < y1_))])) := by kernel_rfl
@[go_sem] theorem c40_r5 : RP c40 5 [] K =
 (K [(4, .int .i64 0)]) := by kernel_rfl
@[go_sem] theorem c40_r6 (v0 : Option Addr) : RP c40 6 [(0, v0)] K =
 (cal eI Tryz.prog 21 #[v0] fun (y1_ : Int) => (K [(4, y1_)])) := by kernel_rfl
@[go_sem] theorem c40_o : c40.lo 1000000 = [4] := rfl
@[go_sem] theorem c40_e (v4 : Int) : RTp c40 [(4, v4)] k = (k (v4)) := by kernel_rfl
theorem c40_ok : (c40.P.follows .mixedOrders && okc c40 c40.body) = true := by kernel_rfl
theorem c40_fn (hρ : envA 0 args.toList = ρ) (hs : Nat.ble args.size 17 = true) (h : E L (D c40 (.seq (.reg 0) (.seq (.seq (.reg 1) (.seq (.reg 2) (.cond (.tmp 9) (.seq (.reg 3) (.ret)) (.skip)))) (.seq (.seq (.reg 4) (.cond (.tmp 14) (.seq (.reg 5) (.ret)) (.skip))) (.seq (.reg 6) (.ret))))) (fnQ c40 e G) ρ)) : E L (cal e Tryz.prog 40 args G) :=
  d_fn (c := c40) Tryz.func40 (by kernel_rfl) (by kernel_rfl) (by kernel_rfl) c40_ok (by kernel_rfl) (by kernel_rfl) hρ hs h
end Go.Sp
namespace Go.Sp
open Go Go.Proofs
set_option linter.unusedSimpArgs false
set_option linter.unusedVariables false
set_option maxRecDepth 10000
structure Lg where
  q : Nat
  base : Nat
  sectors : Nat
  run : Nat
  all : List UInt8
  durable : Nat
  dead : Bool
abbrev lgp (G : Lg) (sb : Nat) : HP := ar G.q 66 [.pointer (some ⟨sb, 0, none⟩), .int .i64 (G.base : Int), .int .i64 (G.sectors : Int), .int .i64 (G.run : Int), str G.all, .int .i64 (G.durable : Int), .bool G.dead]
abbrev Lg.p (G : Lg) : Value := .pointer (some ⟨G.q, 0, none⟩)
structure Lg.ok (G : Lg) (n : Nat) : Prop where
  s1 : 1 ≤ G.sectors
  fit : G.base + G.sectors ≤ n
  n1 : n ≤ 8192
  r1 : 1 ≤ G.run
  r2 : G.run < 4294967296
  du : G.durable ≤ G.all.length
  le : G.all.length ≤ 58 * G.sectors
theorem g83 (G : Lg) (sb : Nat) : Fp eB Tryz.prog 83 #[G.p] [lgp G sb] false := fun L => by
  refine c83_fn rfl rfl ?_
  repeat' (first | (with_reducible first | refine d_seq fun K hK => ?_ | (refine hK _ _ ?_; clear hK K) | (refine SG.p ?_; try intro b) | refine SP.p ?_) | refine i_c ?_ ?_ <;> intro hc <;> try simp only [push_cast, seval] at hc | refine i_x ?_ | clear hK K)
  (with_reducible first | apply i_ret0 | apply i_ret2 | apply i_ret3 | apply i_ret); exact rfl
  rfl
def Lg.off (G : Lg) : Int := if G.dead then 9 else 0
theorem g75 (G : Lg) (sb : Nat) : Fp eI Tryz.prog 75 #[G.p] [lgp G sb] G.off := fun L => by
  unfold Lg.off
  refine c75_fn rfl rfl ?_
  repeat' (first | (with_reducible first | refine d_seq fun K hK => ?_ | (refine hK _ _ ?_; clear hK K) | (refine SG.p ?_; try intro b)) | refine i_c ?_ ?_ <;> intro hc <;> try simp only [push_cast, seval] at hc | refine i_x ?_ | clear hK K)
  refine i_clp (g83 G sb) ?_
  repeat' (first | (with_reducible first | refine d_seq fun K hK => ?_ | (refine hK _ _ ?_; clear hK K) | (refine SG.p ?_; try intro b)) | refine i_c ?_ ?_ <;> intro hc <;> try simp only [push_cast, seval] at hc | refine i_x ?_ | clear hK K)
  all_goals try contradiction
  · (with_reducible first | apply i_ret0 | apply i_ret2 | apply i_ret3 | apply i_ret); exact rfl
    rw [if_pos (by assumption)]
  · (with_reducible first | apply i_ret0 | apply i_ret2 | apply i_ret3 | apply i_ret); exact rfl
    rw [if_neg (by simpa using hc)]
def Lg.down (G : Lg) (e : Int) : Lg := if e = 0 then G else { G with dead := true }
theorem g78 (G : Lg) (sb : Nat) (e : Int) : Fq eI Tryz.prog 78 #[G.p, .int .i64 e] [lgp G sb] [lgp (G.down e) sb] e := fun L => by
  unfold Lg.down
  refine c78_fn rfl rfl ?_
  by_cases he : e = 0
  · rw [if_pos he]
    repeat' (first | (with_reducible first | refine d_seq fun K hK => ?_ | (refine hK _ _ ?_; clear hK K) | (refine SG.p ?_; try intro b)) | refine i_c ?_ ?_ <;> intro hc <;> try simp only [push_cast, seval] at hc | refine i_x ?_ | clear hK K)
    all_goals try (first | contradiction | (simp only [ reduceCtorEq] at *; done) | (exfalso; omega))
    (with_reducible first | apply i_ret0 | apply i_ret2 | apply i_ret3 | apply i_ret); exact rfl
    rfl
  · rw [if_neg he]
    repeat' (first | (with_reducible first | refine d_seq fun K hK => ?_ | (refine hK _ _ ?_; clear hK K) | (refine SG.p ?_; try intro b)) | refine i_c ?_ ?_ <;> intro hc <;> try simp only [push_cast, seval] at hc | refine i_x ?_ | clear hK K)
    all_goals try (first | contradiction | (simp only [ reduceCtorEq] at *; done) | (exfalso; omega))
    (with_reducible first | apply i_ret0 | apply i_ret2 | apply i_ret3 | apply i_ret); exact rfl
    rfl
theorem g28 (G : Lg) (sb : Nat) (h : G.all.length ≤ 1000000) : Fp eI Tryz.prog 28 #[G.p] [lgp G sb] ((G.all.length + 1 : Nat) : Int) := fun L => by
  refine c28_fn rfl rfl ?_
  repeat' (first | (with_reducible first | refine d_seq fun K hK => ?_ | (refine hK _ _ ?_; clear hK K) | (refine SG.p ?_; try intro b)) | refine i_c ?_ ?_ <;> intro hc <;> try simp only [push_cast, seval] at hc | refine i_x ?_ | clear hK K)
  refine i_clp (g83 G sb) ?_
  repeat' (first | (with_reducible first | refine d_seq fun K hK => ?_ | (refine hK _ _ ?_; clear hK K) | (refine SG.p ?_; try intro b) | refine SP.p ?_) | refine i_c ?_ ?_ <;> intro hc <;> try simp only [push_cast, seval] at hc | refine i_x ?_ | clear hK K)
  (with_reducible first | apply i_ret0 | apply i_ret2 | apply i_ret3 | apply i_ret); exact rfl
  rw [w64 (by omega) (by omega)]
  rfl
theorem g29 (G : Lg) (sb : Nat) (h : G.durable ≤ 1000000) : Fp eI Tryz.prog 29 #[G.p] [lgp G sb] ((G.durable + 1 : Nat) : Int) := fun L => by
  refine c29_fn rfl rfl ?_
  repeat' (first | (with_reducible first | refine d_seq fun K hK => ?_ | (refine hK _ _ ?_; clear hK K) | (refine SG.p ?_; try intro b)) | refine i_c ?_ ?_ <;> intro hc <;> try simp only [push_cast, seval] at hc | refine i_x ?_ | clear hK K)
  refine i_clp (g83 G sb) ?_
  repeat' (first | (with_reducible first | refine d_seq fun K hK => ?_ | (refine hK _ _ ?_; clear hK K) | (refine SG.p ?_; try intro b) | refine SP.p ?_) | refine i_c ?_ ?_ <;> intro hc <;> try simp only [push_cast, seval] at hc | refine i_x ?_ | clear hK K)
  (with_reducible first | apply i_ret0 | apply i_ret2 | apply i_ret3 | apply i_ret); exact rfl
  rw [w64 (by omega) (by omega)]
  rfl
theorem g30 (G : Lg) (sb : Nat) (h : G.all.length ≤ 58 * G.sectors) (h2 : G.sectors ≤ 8192) : Fp eI Tryz.prog 30 #[G.p] [lgp G sb] ((58 * G.sectors - G.all.length : Nat) : Int) := fun L => by
  refine c30_fn rfl rfl ?_
  repeat' (first | (with_reducible first | refine d_seq fun K hK => ?_ | (refine hK _ _ ?_; clear hK K) | (refine SG.p ?_; try intro b)) | refine i_c ?_ ?_ <;> intro hc <;> try simp only [push_cast, seval] at hc | refine i_x ?_ | clear hK K)
  refine i_clp (g83 G sb) ?_
  repeat' (first | (with_reducible first | refine d_seq fun K hK => ?_ | (refine hK _ _ ?_; clear hK K) | (refine SG.p ?_; try intro b) | refine SP.p ?_) | refine i_c ?_ ?_ <;> intro hc <;> try simp only [push_cast, seval] at hc | refine i_x ?_ | clear hK K)
  (with_reducible first | apply i_ret0 | apply i_ret2 | apply i_ret3 | apply i_ret); exact rfl
  rw [w64 (n := (G.sectors : Int) * 58) (by omega) (by omega), w64 (by omega) (by omega)]
  show ((G.sectors : Int) * 58 - (G.all.length : Int)) = ((58 * G.sectors - G.all.length : Nat) : Int)
  omega
def lchk (n : Nat) (base sectors run : Int) : Int := if base < 0 ∨ sectors < 1 ∨ run < 1 ∨ 4294967296 ≤ run then 1 else if (n : Int) < base ∨ (n : Int) - base < sectors then 6 else 0
theorem g67 (Z : Dk) (h : Z.ok) (base sectors run : Int) (hb : wf64 base) : Fp eI Tryz.prog 67 #[.pointer (some ⟨Z.sb, 0, none⟩), .int .i64 base, .int .i64 sectors, .int .i64 run] [dk Z] (lchk Z.sure.length base sectors run) := fun L => by
  have F := F26 Z h
  have hn := h.n1
  unfold wf64 at hb
  unfold lchk
  simp only [Dk.p] at F
  refine c67_fn rfl rfl ?_
  by_cases h1 : base < 0 ∨ sectors < 1 ∨ run < 1 ∨ 4294967296 ≤ run
  · rw [if_pos h1]
    repeat' (first | (with_reducible first | refine d_seq fun K hK => ?_ | (refine hK _ _ ?_; clear hK K) | (refine SG.p ?_; try intro b)) | refine i_c ?_ ?_ <;> intro hc <;> try simp only [push_cast, seval] at hc | refine i_x ?_ | clear hK K)
    all_goals try (exfalso; omega)
    all_goals first | contradiction | ((with_reducible first | apply i_ret0 | apply i_ret2 | apply i_ret3 | apply i_ret); exact rfl; rfl)
  · rw [if_neg h1]
    by_cases h2 : (Z.sure.length : Int) < base ∨ (Z.sure.length : Int) - base < sectors
    · rw [if_pos h2]
      repeat' (first | (with_reducible first | refine d_seq fun K hK => ?_ | (refine hK _ _ ?_; clear hK K) | (refine SG.p ?_; try intro b)) | refine i_c ?_ ?_ <;> intro hc <;> try simp only [push_cast, seval] at hc | refine i_x ?_ | clear hK K)
      all_goals try (exfalso; omega)
      all_goals try contradiction
      refine i_clp F ?_
      repeat' (first | (with_reducible first | refine d_seq fun K hK => ?_ | (refine hK _ _ ?_; clear hK K) | (refine SG.p ?_; try intro b)) | refine i_c ?_ ?_ <;> intro hc <;> try simp only [push_cast, seval] at hc | refine i_x ?_ | clear hK K)
      all_goals try (exfalso; omega)
      · (with_reducible first | apply i_ret0 | apply i_ret2 | apply i_ret3 | apply i_ret); exact rfl
        rfl
      · refine i_clp F ?_
        rw [w64 (by omega) (by omega)]
        repeat' (first | (with_reducible first | refine d_seq fun K hK => ?_ | (refine hK _ _ ?_; clear hK K) | (refine SG.p ?_; try intro b)) | refine i_c ?_ ?_ <;> intro hc <;> try simp only [push_cast, seval] at hc | refine i_x ?_ | clear hK K)
        all_goals try (exfalso; omega)
        (with_reducible first | apply i_ret0 | apply i_ret2 | apply i_ret3 | apply i_ret); exact rfl
        rfl
    · rw [if_neg h2]
      repeat' (first | (with_reducible first | refine d_seq fun K hK => ?_ | (refine hK _ _ ?_; clear hK K) | (refine SG.p ?_; try intro b)) | refine i_c ?_ ?_ <;> intro hc <;> try simp only [push_cast, seval] at hc | refine i_x ?_ | clear hK K)
      all_goals try (exfalso; omega)
      all_goals try contradiction
      refine i_clp F ?_
      repeat' (first | (with_reducible first | refine d_seq fun K hK => ?_ | (refine hK _ _ ?_; clear hK K) | (refine SG.p ?_; try intro b)) | refine i_c ?_ ?_ <;> intro hc <;> try simp only [push_cast, seval] at hc | refine i_x ?_ | clear hK K)
      all_goals try (exfalso; omega)
      refine i_clp F ?_
      rw [w64 (by omega) (by omega)]
      repeat' (first | (with_reducible first | refine d_seq fun K hK => ?_ | (refine hK _ _ ?_; clear hK K) | (refine SG.p ?_; try intro b)) | refine i_c ?_ ?_ <;> intro hc <;> try simp only [push_cast, seval] at hc | refine i_x ?_ | clear hK K)
      all_goals try (exfalso; omega)
      (with_reducible first | apply i_ret0 | apply i_ret2 | apply i_ret3 | apply i_ret); exact rfl
      rfl
def whl (s : List UInt8) : Nat → Nat → Nat
  | 0, a => a
  | k + 1, a => if (opn s (a : Int)).2.2 = 0 then whl s k (a + (opn s (a : Int)).2.1.toNat) else a
def whole (s : List UInt8) : Nat := whl s (s.length + 1) 0
theorem opn_nat {s : List UInt8} {a : Nat} (h : a ≤ s.length) : opn s (a : Int) = opn0 (s.drop a) := by
  unfold opn
  rw [if_neg (by omega), Int.toNat_natCast]
theorem opn_step {s : List UInt8} {a : Nat} (h : a ≤ s.length) (h0 : (opn s (a : Int)).2.2 = 0) : ∃ m : Nat, (opn s (a : Int)).2.1 = (m : Int) ∧ 7 ≤ m ∧ a + m ≤ s.length := by
  rw [opn_nat h] at h0 ⊢
  generalize ho : opn0 (s.drop a) = o at *
  obtain ⟨c, n, e⟩ := o
  dsimp only at h0 ⊢
  subst h0
  obtain ⟨hs, _, f, Y, ht, hf, hn⟩ := opn0_ok ho
  have hl := frame_len hs hf
  have := congrArg List.length ht
  rw [List.length_drop, List.length_append] at this
  exact ⟨f.length, hn, hl.1, by omega⟩
set_option maxHeartbeats 1000000 in
theorem g69 (s : List UInt8) (hs : s.length ≤ 4611686018427387903) : Fp eI Tryz.prog 69 #[str s] [] (whole s : Int) := fun L => by
  refine c69_fn rfl rfl ?_
  repeat' (first | (with_reducible first | refine d_seq fun K hK => ?_ | (refine hK _ _ ?_; clear hK K) | (refine SG.p ?_; try intro b)) | refine i_c ?_ ?_ <;> intro hc <;> try simp only [push_cast, seval] at hc | refine i_x ?_ | clear hK K)
  refine d_lp [0, 3] (fun t : Nat × Nat => [(0, str s), (3, .int .i64 (t.2 : Int))]) (fun _ => L) (fun t => t.2 ≤ s.length ∧ whl s t.1 t.2 = whole s ∧ s.length + 1 ≤ t.1 + t.2) (fun t => t.1) (s.length + 1, 0) rfl SX.p ⟨by dsimp only; omega, rfl, by dsimp only; omega⟩ ?_
  rintro ⟨k, a⟩ ⟨h1, h2, h3⟩
  dsimp only at h1 h2 h3 ⊢
  obtain ⟨k', rfl⟩ : ∃ k', k = k' + 1 := ⟨k - 1, by omega⟩
  rw [show whl s (k' + 1) a = if (opn s (a : Int)).2.2 = 0 then whl s k' (a + (opn s (a : Int)).2.1.toNat) else a from rfl] at h2
  have O := g26 s (a : Int) (by omega)
  have S := opn_step h1
  generalize opn s (a : Int) = o at *
  obtain ⟨c, n, e⟩ := o
  dsimp only at h2 O S
  repeat' (first | (with_reducible first | refine d_seq fun K hK => ?_ | (refine hK _ _ ?_; clear hK K) | (refine SG.p ?_; try intro b)) | refine i_c ?_ ?_ <;> intro hc <;> try simp only [push_cast, seval] at hc | refine i_x ?_ | clear hK K)
  refine i_cal O ?_
  rintro ⟨⟨k1, k2, k3, k4, k5, k6, k7, k8, k9, k10, k11, k12, k13⟩, y⟩ X ⟨A, rfl, hr, he⟩
  dsimp only at he
  subst he
  by_cases h0 : e = 0
  · subst h0
    obtain ⟨m, rfl, hm1, hm2⟩ := S rfl
    rw [if_pos rfl, Int.toNat_natCast] at h2
    repeat' (first | (with_reducible first | refine d_seq fun K hK => ?_ | (refine hK _ _ ?_; clear hK K) | (refine SG.p ?_; try intro b)) | refine i_c ?_ ?_ <;> intro hc <;> try simp only [push_cast, seval] at hc | refine i_x ?_ | clear hK K)
    all_goals try (first | contradiction | (simp only [ reduceCtorEq] at *; done) | (exfalso; omega))
    rw [w64 (by omega) (by omega)]
    exact i_bk (k', a + m) rfl ⟨by dsimp only; omega, h2, by dsimp only; omega⟩ (by dsimp only; omega)
  · rw [if_neg h0] at h2
    repeat' (first | (with_reducible first | refine d_seq fun K hK => ?_ | (refine hK _ _ ?_; clear hK K) | (refine SG.p ?_; try intro b)) | refine i_c ?_ ?_ <;> intro hc <;> try simp only [push_cast, seval] at hc | refine i_x ?_ | clear hK K)
    all_goals try (first | contradiction | (simp only [ reduceCtorEq] at *; done) | (exfalso; omega))
    (with_reducible first | apply i_ret0 | apply i_ret2 | apply i_ret3 | apply i_ret); exact rfl
    rw [h2]
end Go.Sp
namespace Go.Sp
open Go
def ex (h0 : PH) : HP := fun h => h = h0
def dm (b : Nat) (h : PH) : Prop := ∀ n, b < n → h n = none
def lo (b : Nat) (h : PH) : PH := fun n => if n ≤ b then h n else none
def Low (b : Nat) (A : HP) : Prop := ∀ h, A h → A (lo b h)
theorem lo_mono {b : Nat} {a h : PH} (s : sub a h) : sub (lo b a) (lo b h) := fun n o e => by
  unfold lo at e ⊢
  split at e
  · rename_i hn
    rw [if_pos hn]
    exact s n o e
  · cases e
theorem Low.blk {b c : Nat} {o : Obj} (h : c < b) : Low b (blk c o) := fun x hx => by
  show lo b x (c + 1) = _
  unfold lo
  rw [if_pos (by omega)]
  exact hx
theorem Low.ex {b : Nat} {h0 : PH} (h : dm b h0) : Low b (ex h0) := fun x hx => by
  subst hx
  funext n
  unfold lo
  split
  · rfl
  · rename_i hn
    exact (h n (by omega)).symm
theorem Low.HS {b : Nat} : ∀ {L : List HP}, (∀ A ∈ L, Low b A) → ∀ h, HS L h → HS L (lo b h)
  | [], _, _, _ => trivial
  | A :: L, hl, h, ⟨x, y, d, sx, sy, px, py⟩ => by
    refine ⟨lo b x, lo b y, fun n => ?_, lo_mono sx, lo_mono sy, hl A (by simp) x px, Low.HS (fun B hB => hl B (by simp [hB])) y py⟩
    unfold lo
    split
    · exact d n
    · exact .inl rfl
theorem Low.fold {b : Nat} {L : List HP} (h : ∀ A ∈ L, Low b A) : Low b (Sp.HS L) := Low.HS h
theorem HS.ex {L : List HP} : ∀ {A : List HP} {h : PH}, HS (A ++ L) h → ∃ h0, HS L h0 ∧ HS (A ++ [Sp.ex h0]) h
  | [], h, x => ⟨h, x, h, fun _ => none, fun _ => .inr rfl, sub.refl _, sub.none _, rfl, trivial⟩
  | B :: A, h, ⟨x, y, d, sx, sy, px, py⟩ => by
    obtain ⟨h0, h1, h2⟩ := HS.ex (A := A) py
    exact ⟨h0, h1, x, y, d, sx, sy, px, h2⟩
theorem HS.unex {L : List HP} {h0 : PH} (hL : HS L h0) : ∀ {A : List HP} {h : PH}, HS (A ++ [Sp.ex h0]) h → HS (A ++ L) h
  | [], h, ⟨x, y, d, sx, sy, px, py⟩ => by
    have e : x = h0 := px
    subst e
    exact HS.mono hL sx
  | B :: A, h, ⟨x, y, d, sx, sy, px, py⟩ => ⟨x, y, d, sx, sy, px, HS.unex hL py⟩
theorem Fn.ex {e : Enc} {P : Program} {f : FuncId} {args : Array Value} {A : List HP} {B : e.α → List HP → Prop} (h : ∀ h0, E (A ++ [Sp.ex h0]) (cal e P f args fun x w => ∃ X, B x X ∧ Holds w (X ++ [Sp.ex h0]))) : Fn e P f args A B := fun L w hw => by
  obtain ⟨h0, h1, h2⟩ := HS.ex hw
  refine (h h0 w h2).mono ?_
  rintro _ w' ⟨x, he, X, hB, hX⟩
  exact ⟨x, he, X, hB, HS.unex h1 hX⟩
theorem HS.dom {b : Nat} : ∀ {L : List HP} {h : PH}, HS L h → dm b h → ∀ X ∈ L, ∃ a, X a ∧ dm b a
  | A :: L, h, ⟨x, y, d, sx, sy, px, py⟩, hd, X, hX => by
    have dx : dm b x := fun n hn => by
      cases hx : x n with
      | none => rfl
      | some o => exact absurd (sx n o hx) (by simp [hd n hn])
    have dy : dm b y := fun n hn => by
      cases hy : y n with
      | none => rfl
      | some o => exact absurd (sy n o hy) (by simp [hd n hn])
    rcases List.mem_cons.1 hX with rfl | hX
    · exact ⟨x, px, dx⟩
    · exact HS.dom py dy X hX
theorem r_nwcD {L : List HP} {k : Addr → W} {l : List Value} {t : TypeId} (h : ∀ b, (∀ X ∈ L, ∃ a, X a ∧ dm b a) → E (ar b t l :: L) (k ⟨b, 0, none⟩)) : E L (nwc l.toArray t k) := fun w hw => by
  refine h w.heap.size (HS.dom hw fun n hn => ?_) _ (Holds.push hw (.cells ⟨l⟩ t (0, 0)) rfl)
  cases n with
  | zero => omega
  | succ n => rw [hp_s, Array.getElem?_eq_none (by omega)]; rfl
theorem dm_blk {b c : Nat} {o : Obj} {a : PH} (h : blk c o a) (hd : dm b a) : c < b := by
  rcases Nat.lt_or_ge b (c + 1) with h1 | h1
  · have := hd (c + 1) h1
    rw [show a (c + 1) = some (.inl o) from h] at this
    cases this
  · omega
abbrev bld (b T e : TypeId) (p : Option Addr) (s : SlV) (bs : List Value) : List HP := [ar b T [.pointer p, .slice s.1 s.2.1 s.2.2], ow e 1 s bs]
section
variable {T e : TypeId} {b : Nat} {p : Option Addr} {s : SlV} {bs : List Value} {L : List HP} {w w' : World}
theorem bld_is (hp : p = none ∨ p = some ⟨b, 0, none⟩) (hs : ∀ g, s.1 = some g → b < g.block) (h : Holds w (bld b T e p s bs ++ L)) : Lib.IsBuilder T e b b bs w := by
  have h1 : Holds w (ar b T [.pointer p, .slice s.1 s.2.1 s.2.2] :: (ow e 1 s bs :: L)) := h
  have h2 : Holds w (ow e 1 s bs :: L) := HS.tl h1
  have hg := Holds.get h1
  have ho := ow_world h2 b (fun g hg => by have := hs g hg; omega)
  have hl : bs.length = s.2.1 := by have := ho.1; omega
  have hA : Lib.BuilderAt T e b b (.pointer p) bs w := by
    refine ⟨Nat.le_refl _, _, hg, ?_, ?_⟩
    · rw [hl]; exact ho
    · obtain ⟨q, n, c⟩ := s
      cases q with
      | none => simp [Value.ownBlock]
      | some g =>
        have := hs g rfl
        simp only [Value.ownBlock, ne_eq, Option.some.injEq]
        omega
  rcases hp with rfl | rfl
  · exact .inl hA
  · exact .inr hA
theorem bld_of (hL : ∀ A ∈ L, Low b A) (h : Holds w (bld b T e p s bs ++ L)) {bs' : List Value} (hb : Lib.BuilderAt T e b b (.pointer (some ⟨b, 0, none⟩)) bs' w') (hbe : RowKit.Below b w w') :
    ∃ s' : SlV, (∀ g, s'.1 = some g → b < g.block) ∧ Holds w' (bld b T e (some ⟨b, 0, none⟩) s' bs' ++ L) := by
  obtain ⟨x, y, d, sx, sy, px, x2, y2, d2, sx2, sy2, px2, hr⟩ := h
  have hrl := Low.HS hL y2 hr
  have srl : sub (lo b y2) (Sp.hp w') := fun n o hn => by
    unfold lo at hn
    split at hn
    · rename_i hnb
      have h1 := sy n o (sy2 n o hn)
      cases n with
      | zero => simpa [Sp.hp, hbe.os, hbe.output, hbe.tape] using h1
      | succ n =>
        rw [hp_s] at h1 ⊢
        rw [hbe.block n (by omega)]
        exact h1
    · cases hn
  obtain ⟨_, v, hv, hown, hne⟩ := hb
  obtain ⟨ho1, ho2⟩ := hown
  rcases ho2 with ⟨rfl, hn0⟩ | ⟨g, cap, cur, rfl, hbg, hgc, hn, hm, hcs, ht⟩
  · have : bs' = [] := List.eq_nil_of_length_eq_zero (by omega)
    subst this
    refine ⟨(none, 0, 0), ⟨fun g hg => (by cases hg), ?_⟩⟩
    refine ⟨fun n => if n = b + 1 then some (.inl (.cells ⟨[.pointer (some ⟨b, 0, none⟩), .slice none 0 0]⟩ T (0, 0))) else none, lo b y2, fun n => ?_, ?_, srl, by show (if b + 1 = b + 1 then _ else _) = _; rw [if_pos rfl], ?_⟩
    · by_cases hnb : n = b + 1
      · right; unfold lo; rw [if_neg (by omega)]
      · left; dsimp only; rw [if_neg hnb]
    · intro n o hn
      dsimp only at hn
      split at hn
      · rename_i hnb
        subst hnb
        simp only [Option.some.injEq] at hn
        subst hn
        exact hp_o.2 hv
      · cases hn
    · exact ⟨fun _ => none, lo b y2, fun _ => .inl rfl, sub.none _, sub.refl _, ow_nil _ _ _, hrl⟩
  · have hgb : g ≠ b := fun h => hne (by simp [Value.ownBlock, h])
    refine ⟨(some ⟨g, 0, none⟩, bs'.length, cap), fun g' hg' => by simp only [Option.some.injEq] at hg'; subst hg'; show b < g; omega, ?_⟩
    refine ⟨fun n => if n = b + 1 then some (.inl (.cells ⟨[.pointer (some ⟨b, 0, none⟩), .slice (some ⟨g, 0, none⟩) bs'.length cap]⟩ T (0, 0))) else none, fun n => if n = g + 1 then some (.inl (.cells cur e (0, 0))) else lo b y2 n, fun n => ?_, ?_, ?_, by show (if b + 1 = b + 1 then _ else _) = _; rw [if_pos rfl], ?_⟩
    · by_cases hnb : n = b + 1
      · right; dsimp only; rw [if_neg (by omega)]; unfold lo; rw [if_neg (by omega)]
      · left; dsimp only; rw [if_neg hnb]
    · intro n o hn
      dsimp only at hn
      split at hn
      · rename_i hnb
        subst hnb
        simp only [Option.some.injEq] at hn
        subst hn
        exact hp_o.2 hv
      · cases hn
    · intro n o hn
      dsimp only at hn
      split at hn
      · rename_i hnb
        subst hnb
        simp only [Option.some.injEq] at hn
        subst hn
        exact hp_o.2 hgc
      · exact srl n o hn
    · refine ⟨fun n => if n = g + 1 then some (.inl (.cells cur e (0, 0))) else none, lo b y2, fun n => ?_, ?_, ?_, ⟨by simp, .inr ⟨g, cap, cur, rfl, by simp, hn, hm, by simpa using hcs, by simpa using ht⟩⟩, hrl⟩
      · by_cases hng : n = g + 1
        · right; unfold lo; rw [if_neg (by omega)]
        · left; dsimp only; rw [if_neg hng]
      · intro n o hn
        dsimp only at hn ⊢
        split at hn
        · rename_i hng
          rw [if_pos hng]; exact hn
        · cases hn
      · intro n o hn
        dsimp only
        by_cases hng : n = g + 1
        · subst hng
          unfold lo at hn
          rw [if_neg (by omega)] at hn
          cases hn
        · rw [if_neg hng]; exact hn
end
end Go.Sp
namespace Go.Sp
open Go
set_option maxRecDepth 100000
set_option linter.unusedVariables false
open Go.Proofs
variable (K : Env → W) (k : Value → W) {e : Enc} {args : Array Value} {G : e.α → W} {L : List HP} {ρ : Env}
attribute [local instance] cI cB cP cA
noncomputable def c51 := cf Tryz.f51 24 [(0, [0, 1, 2]), (1, [0, 1, 2]), (2, [2, 8, 9])] [(0, [0, 1, 2]), (1, [2, 8, 9]), (2, [6]), (1000000, [6])] [] []
@[go_sem] theorem c51_i : c51.li 0 = [0, 1, 2] ∧ c51.li 1 = [0, 1, 2] ∧ c51.li 2 = [2, 8, 9] := ⟨rfl, rfl, rfl⟩
@[go_sem] theorem c51_r0 (v0 : Option Addr) (v1 v2 : Int) : RP c51 0 [(0, v0), (1, v1), (2, v2)] K =
 (K [(0, v0), (1, v1), (2, v2)]) := by kernel_rfl
@[go_sem] theorem c51_r1 (v0 : Option Addr) (v1 v2 : Int) : RP c51 1 [(0, v0), (1, v1), (2, v2)] K =
 (cal (eT3 eS eI eI) Tryz.prog 65 #[v0, v1] fun (y1_ : ((List UInt8) × Int × Int)) => (K [(2, v2), (8, .int .i64 y1_.2.1), (9, .int .i64 y1_.2.2)])) := by kernel_rfl
@[go_sem] theorem c51_r2 (v2 v8 v9 : Int) : RP c51 2 [(2, v2), (8, v8), (9, v9)] K =
 (cnd (v9 == 0) (K [(6, .bool (v8 == v2))]) (K [(6, false)])) := by kernel_rfl
@[go_sem] theorem c51_o : c51.lo 1000000 = [6] := rfl
@[go_sem] theorem c51_e (v6 : Bool) : RTp c51 [(6, v6)] k = (k (v6)) := by kernel_rfl
theorem c51_ok : (c51.P.follows .mixedOrders && okc c51 c51.body) = true := by kernel_rfl
theorem c51_fn (hρ : envA 0 args.toList = ρ) (hs : Nat.ble args.size 24 = true) (h : E L (D c51 (.seq (.reg 0) (.seq (.reg 1) (.seq (.reg 2) (.ret)))) (fnQ c51 e G) ρ)) : E L (cal e Tryz.prog 51 args G) :=
  d_fn (c := c51) Tryz.func51 (by kernel_rfl) (by kernel_rfl) (by kernel_rfl) c51_ok (by kernel_rfl) (by kernel_rfl) hρ hs h
noncomputable def c65 := cf Tryz.f65 87 [(0, [0, 1]), (1, [0, 1]), (2, [0, 1, 7]), (3, [7]), (4, [0, 1]), (5, [0, 1, 8, 9]), (6, [0, 1, 8, 9, 10, 11]), (7, [0, 1, 8, 9, 10, 11, 23]), (8, [0, 1, 8, 9, 10, 11, 23]), (9, [0, 1, 8, 9, 10, 11, 12, 23]), (10, [0, 1, 8, 9, 10, 11, 12, 13, 14, 23]), (11, [14]), (12, [0, 1, 8, 9, 10, 11, 12, 13, 23]), (13, [0, 1, 8, 10, 11, 13, 23]), (14, [0, 1, 8, 9, 10, 11, 13, 23]), (15, [0, 1, 8, 9, 10, 11, 13, 15, 23]), (16, [0, 1, 8, 9, 10, 11, 13, 23]), (17, [0, 1, 8, 9, 10, 11, 13, 23]), (18, [0, 1, 8, 9, 10, 11, 23]), (19, [8, 9, 10, 11]), (20, []), (21, [8, 9, 11]), (22, []), (23, [8, 9]), (24, [8, 16]), (25, [8, 16])] [(0, [0, 1]), (1, [0, 1, 7]), (2, [0, 1, 7, 21]), (3, [4, 5, 6]), (4, [0, 1, 8, 9]), (5, [0, 1, 8, 9, 10, 11]), (6, [0, 1, 8, 9, 10, 11, 23]), (7, [0, 1, 8, 9, 10, 11, 23, 24]), (8, [0, 1, 8, 9, 10, 11, 12, 23]), (9, [0, 1, 8, 9, 10, 11, 12, 13, 14, 23]), (10, [0, 1, 8, 9, 10, 11, 12, 13, 14, 23, 44]), (11, [4, 5, 6]), (12, [0, 1, 8, 9, 10, 11, 13, 23, 47]), (13, [0, 1, 8, 9, 10, 11, 13, 23]), (14, [0, 1, 8, 9, 10, 11, 13, 15, 23]), (15, [0, 1, 8, 9, 10, 11, 13, 23]), (16, [0, 1, 8, 9, 10, 11, 13, 23]), (17, [0, 1, 8, 9, 10, 11, 23]), (18, [0, 1, 8, 9, 10, 11, 23]), (19, [8, 9, 11, 74]), (20, [4, 5, 6]), (21, [8, 9, 77]), (22, [4, 5, 6]), (23, [8, 16]), (24, [8, 16]), (25, [4, 5, 6]), (1000000, [4, 5, 6])] [(9, (true, [(0, 1), (1, 1), (2, 1), (3, 0), (4, 1), (5, 1), (6, 1), (7, 0), (8, 1), (9, 1), (10, 1), (11, 1), (12, 1), (13, 4), (14, 1), (15, 1), (16, 1), (17, 1), (18, 1)])), (15, (true, [(0, 1), (1, 1), (2, 1), (4, 1), (5, 1), (6, 1), (7, 0), (3, 2), (8, 1), (9, 1), (10, 1)]))] []
@[go_sem] theorem c65_i : c65.li 0 = [0, 1] ∧ c65.li 1 = [0, 1] ∧ c65.li 2 = [0, 1, 7] ∧ c65.li 3 = [7] ∧ c65.li 4 = [0, 1] ∧ c65.li 5 = [0, 1, 8, 9] ∧ c65.li 6 = [0, 1, 8, 9, 10, 11] ∧ c65.li 7 = [0, 1, 8, 9, 10, 11, 23] ∧ c65.li 8 = [0, 1, 8, 9, 10, 11, 23] ∧ c65.li 9 = [0, 1, 8, 9, 10, 11, 12, 23] ∧ c65.li 10 = [0, 1, 8, 9, 10, 11, 12, 13, 14, 23] ∧ c65.li 11 = [14] ∧ c65.li 12 = [0, 1, 8, 9, 10, 11, 12, 13, 23] ∧ c65.li 13 = [0, 1, 8, 10, 11, 13, 23] ∧ c65.li 14 = [0, 1, 8, 9, 10, 11, 13, 23] ∧ c65.li 15 = [0, 1, 8, 9, 10, 11, 13, 15, 23] ∧ c65.li 16 = [0, 1, 8, 9, 10, 11, 13, 23] ∧ c65.li 17 = [0, 1, 8, 9, 10, 11, 13, 23] ∧ c65.li 18 = [0, 1, 8, 9, 10, 11, 23] ∧ c65.li 19 = [8, 9, 10, 11] ∧ c65.li 20 = [] ∧ c65.li 21 = [8, 9, 11] ∧ c65.li 22 = [] ∧ c65.li 23 = [8, 9] ∧ c65.li 24 = [8, 16] ∧ c65.li 25 = [8, 16] := ⟨rfl, rfl, rfl, rfl, rfl, rfl, rfl, rfl, rfl, rfl, rfl, rfl, rfl, rfl, rfl, rfl, rfl, rfl, rfl, rfl, rfl, rfl, rfl, rfl, rfl, rfl⟩
@[go_sem] theorem c65_r0 (v0 : Option Addr) (v1 : Int) : RP c65 0 [(0, v0), (1, v1)] K =
 (K [(0, v0), (1, v1)]) := by kernel_rfl
@[go_sem] theorem c65_r1 (v0 : Option Addr) (v1 : Int) : RP c65 1 [(0, v0), (1, v1)] K =
 (cal eI Tryz.prog 98 #[v0, v1] fun (y1_ : Int) => (K [(0, v0), (1, v1), (7, y1_)])) := by kernel_rfl
@[go_sem] theorem c65_r2 (v0 : Option Addr) (v1 v7 : Int) : RP c65 2 [(0, v0), (1, v1), (7, v7)] K =
 (K [(0, v0), (1, v1), (7, v7), (21, .bool (v7 != 0))]) := by kernel_rfl
@[go_sem] theorem c65_r3 (v7 : Int) : RP c65 3 [(7, v7)] K =
 (K [(4, str ([] : List UInt8)), (5, .int .i64 0), (6, v7)]) := by kernel_rfl
@[go_sem] theorem c65_r4 (v0 : Option Addr) (v1 : Int) : RP c65 4 [(0, v0), (1, v1)] K =
 (K [(0, v0), (1, v1), (8, str ([] : List UInt8)), (9, str ([] : List UInt8))]) := by kernel_rfl
@[go_sem] theorem c65_r5 (v0 : Option Addr) (v1 : Int) (v8 v9 : List UInt8) : RP c65 5 [(0, v0), (1, v1), (8, str v8), (9, str v9)] K =
 (K [(0, v0), (1, v1), (8, str v8), (9, str v9), (10, false), (11, true)]) := by kernel_rfl
@[go_sem] theorem c65_r6 (v0 : Option Addr) (v1 : Int) (v8 v9 : List UInt8) (v10 v11 : Bool) : RP c65 6 [(0, v0), (1, v1), (8, str v8), (9, str v9), (10, v10), (11, v11)] K =
 (K [(0, v0), (1, v1), (8, str v8), (9, str v9), (10, v10), (11, v11), (23, .int .i64 0)]) := by kernel_rfl
@[go_sem] theorem c65_r7 (v0 : Option Addr) (v1 : Int) (v8 v9 : List UInt8) (v10 v11 : Bool) (v23 : Int) : RP c65 7 [(0, v0), (1, v1), (8, str v8), (9, str v9), (10, v10), (11, v11), (23, v23)] K =
 (K [(0, v0), (1, v1), (8, str v8), (9, str v9), (10, v10), (11, v11), (23, v23), (24, decide (v23 < 4))]) := by kernel_rfl
@[go_sem] theorem c65_r8 (v0 : Option Addr) (v1 : Int) (v8 v9 : List UInt8) (v10 v11 : Bool) (v23 : Int) : RP c65 8 [(0, v0), (1, v1), (8, str v8), (9, str v9), (10, v10), (11, v11), (23, v23)] K =
 (K [(0, v0), (1, v1), (8, str v8), (9, str v9), (10, v10), (11, v11), (12, v23), (23, v23)]) := by kernel_rfl
@[go_sem] theorem c65_r9 (v0 : Option Addr) (v1 : Int) (v8 v9 : List UInt8) (v10 v11 : Bool) (v12 v23 : Int) : RP c65 9 [(0, v0), (1, v1), (8, str v8), (9, str v9), (10, v10), (11, v11), (12, v12), (23, v23)] K =
 (ph fun S0 => (nn v0 fun y1_ => (ldq S0 eP y1_ fun (y2_ : Option Addr) => (nn v0 fun y3_ => (ldq S0 eI (y3_.add 1) fun (y4_ : Int) => (cal (eT2 eS eI) Tryz.prog 22 #[y2_, IntKind.wrap .i64 ((IntKind.wrap .i64 (y4_ + (IntKind.wrap .i64 ((4 : Int) * v1)))) + v12)] fun (y5_ : ((List UInt8) × Int)) => (K [(0, v0), (1, v1), (8, str v8), (9, str v9), (10, v10), (11, v11), (12, v12), (13, str y5_.1), (14, y5_.2), (23, v23)]))))))) := by kernel_rfl
@[go_sem] theorem c65_r10 (v0 : Option Addr) (v1 : Int) (v8 v9 : List UInt8) (v10 v11 : Bool) (v12 : Int) (v13 : List UInt8) (v14 v23 : Int) : RP c65 10 [(0, v0), (1, v1), (8, str v8), (9, str v9), (10, v10), (11, v11), (12, v12), (13, str v13), (14, v14), (23, v23)] K =
 (K [(0, v0), (1, v1), (8, str v8), (9, str v9), (10, v10), (11, v11), (12, v12), (13, str v13), (14, v14), (23, v23), (44, .bool (v14 != 0))]) := by kernel_rfl
@[go_sem] theorem c65_r11 (v14 : Int) : RP c65 11 [(14, v14)] K =
 (K [(4, str ([] : List UInt8)), (5, .int .i64 0), (6, v14)]) := by kernel_rfl
@[go_sem] theorem c65_r12 (v0 : Option Addr) (v1 : Int) (v8 v9 : List UInt8) (v10 v11 : Bool) (v12 : Int) (v13 : List UInt8) (v23 : Int) : RP c65 12 [(0, v0), (1, v1), (8, str v8), (9, str v9), (10, v10), (11, v11), (12, v12), (13, str v13), (23, v23)] K =
 (K [(0, v0), (1, v1), (8, str v8), (9, str v9), (10, v10), (11, v11), (13, str v13), (23, v23), (47, .bool (v12 == 0))]) := by kernel_rfl
@[go_sem] theorem c65_r13 (v0 : Option Addr) (v1 : Int) (v8 : List UInt8) (v10 v11 : Bool) (v13 : List UInt8) (v23 : Int) : RP c65 13 [(0, v0), (1, v1), (8, str v8), (10, v10), (11, v11), (13, str v13), (23, v23)] K =
 (rq (0 ≤ (0 : Int) ∧ 0 ≤ (8 : Int) ∧ (8 : Int) ≤ (v13.length : Int)) (K [(0, v0), (1, v1), (8, str v8), (9, str (ss v13 0 (8 : Int))), (10, v10), (11, v11), (13, str v13), (23, v23)])) := by kernel_rfl
@[go_sem] theorem c65_r14 (v0 : Option Addr) (v1 : Int) (v8 v9 : List UInt8) (v10 v11 : Bool) (v13 : List UInt8) (v23 : Int) : RP c65 14 [(0, v0), (1, v1), (8, str v8), (9, str v9), (10, v10), (11, v11), (13, str v13), (23, v23)] K =
 (cal eP Tryz.prog 84 #[str v13] fun (y1_ : Option Addr) => (K [(0, v0), (1, v1), (8, str v8), (9, str v9), (10, v10), (11, v11), (13, str v13), (15, y1_), (23, v23)])) := by kernel_rfl
@[go_sem] theorem c65_r15 (v0 : Option Addr) (v1 : Int) (v8 v9 : List UInt8) (v10 v11 : Bool) (v13 : List UInt8) (v15 : Option Addr) (v23 : Int) : RP c65 15 [(0, v0), (1, v1), (8, str v8), (9, str v9), (10, v10), (11, v11), (13, str v13), (15, v15), (23, v23)] K =
 (ph fun S0 => (cnd v10 (kpn S0 fun S1 => (K [(0, v0), (1, v1), (8, str v8), (9, str v9), (10, true), (11, v11), (13, str v13), (23, v23)])) (nn v0 fun y1_ => (ldq S0 eI (y1_.add 3) fun (y2_ : Int) => (cal eI Tryz.prog 85 #[v15, .int .i64 2] fun (y3_ : Int) => (kpn S0 fun S2 => (K [(0, v0), (1, v1), (8, str v8), (9, str v9), (10, .bool (y3_ == y2_)), (11, v11), (13, str v13), (23, v23)]))))))) := by kernel_rfl
@[go_sem] theorem c65_r16 (v0 : Option Addr) (v1 : Int) (v8 v9 : List UInt8) (v10 v11 : Bool) (v13 : List UInt8) (v23 : Int) : RP c65 16 [(0, v0), (1, v1), (8, str v8), (9, str v9), (10, v10), (11, v11), (13, str v13), (23, v23)] K =
 (cnd v11 (rq (0 ≤ (0 : Int) ∧ 0 ≤ (8 : Int) ∧ (8 : Int) ≤ (v13.length : Int)) (K [(0, v0), (1, v1), (8, str v8), (9, str v9), (10, v10), (11, .bool ((ss v13 0 (8 : Int)) == v9)), (13, str v13), (23, v23)])) (K [(0, v0), (1, v1), (8, str v8), (9, str v9), (10, v10), (11, false), (13, str v13), (23, v23)])) := by kernel_rfl
@[go_sem] theorem c65_r17 (v0 : Option Addr) (v1 : Int) (v8 v9 : List UInt8) (v10 v11 : Bool) (v13 : List UInt8) (v23 : Int) : RP c65 17 [(0, v0), (1, v1), (8, str v8), (9, str v9), (10, v10), (11, v11), (13, str v13), (23, v23)] K =
 (rq (0 ≤ ((8 : Int) : Int) ∧ (8 : Int) ≤ (v13.length : Int) ∧ (v13.length : Int) ≤ (v13.length : Int)) (rq ((v8.length : Int) + ((ss v13 (8 : Int) (v13.length : Int)).length : Int) ≤ 9223372036854775807) (K [(0, v0), (1, v1), (8, str (v8 ++ (ss v13 (8 : Int) (v13.length : Int)))), (9, str v9), (10, v10), (11, v11), (23, v23)]))) := by kernel_rfl
@[go_sem] theorem c65_r18 (v0 : Option Addr) (v1 : Int) (v8 v9 : List UInt8) (v10 v11 : Bool) (v23 : Int) : RP c65 18 [(0, v0), (1, v1), (8, str v8), (9, str v9), (10, v10), (11, v11), (23, v23)] K =
 (K [(0, v0), (1, v1), (8, str v8), (9, str v9), (10, v10), (11, v11), (23, IntKind.wrap .i64 (v23 + 1))]) := by kernel_rfl
@[go_sem] theorem c65_r19 (v8 v9 : List UInt8) (v10 v11 : Bool) : RP c65 19 [(8, str v8), (9, str v9), (10, v10), (11, v11)] K =
 (K [(8, str v8), (9, str v9), (11, v11), (74, .bool (!v10))]) := by kernel_rfl
@[go_sem] theorem c65_r20 : RP c65 20 [] K =
 (K [(4, str ([] : List UInt8)), (5, .int .i64 0), (6, .int .i64 8)]) := by kernel_rfl
@[go_sem] theorem c65_r21 (v8 v9 : List UInt8) (v11 : Bool) : RP c65 21 [(8, str v8), (9, str v9), (11, v11)] K =
 (K [(8, str v8), (9, str v9), (77, .bool (!v11))]) := by kernel_rfl
@[go_sem] theorem c65_r22 : RP c65 22 [] K =
 (K [(4, str ([] : List UInt8)), (5, .int .i64 0), (6, .int .i64 10)]) := by kernel_rfl
@[go_sem] theorem c65_r23 (v8 v9 : List UInt8) : RP c65 23 [(8, str v8), (9, str v9)] K =
 (cal eP Tryz.prog 84 #[str v9] fun (y1_ : Option Addr) => (K [(8, str v8), (16, y1_)])) := by kernel_rfl
@[go_sem] theorem c65_r24 (v8 : List UInt8) (v16 : Option Addr) : RP c65 24 [(8, str v8), (16, v16)] K =
 (cal eI Tryz.prog 85 #[v16, .int .i64 2] fun (y1_ : Int) => (K [(8, str v8), (16, v16)])) := by kernel_rfl
@[go_sem] theorem c65_r25 (v8 : List UInt8) (v16 : Option Addr) : RP c65 25 [(8, str v8), (16, v16)] K =
 (cal eI Tryz.prog 85 #[v16, .int .i64 6] fun (y1_ : Int) => (K [(4, str v8), (5, y1_), (6, .int .i64 0)])) := by kernel_rfl
@[go_sem] theorem c65_o : c65.lo 1000000 = [4, 5, 6] := rfl
@[go_sem] theorem c65_e (v4 : List UInt8) (v5 v6 : Int) : RTp c65 [(4, str v4), (5, v5), (6, v6)] k = (k (.tuple #[str v4, v5, v6])) := by kernel_rfl
theorem c65_ok : (c65.P.follows .mixedOrders && okc c65 c65.body) = true := by kernel_rfl
theorem c65_fn (hρ : envA 0 args.toList = ρ) (hs : Nat.ble args.size 87 = true) (h : E L (D c65 (.seq (.reg 0) (.seq (.seq (.reg 1) (.seq (.reg 2) (.cond (.tmp 21) (.seq (.reg 3) (.ret)) (.skip)))) (.seq (.reg 4) (.seq (.reg 5) (.seq (.seq (.reg 6) (.block 0 (.loop (.seq (.reg 7) (.seq (.cond (.tmp 24) (.skip) (.exit 0)) (.seq (.block 1 (.seq (.reg 8) (.seq (.reg 9) (.seq (.seq (.reg 10) (.cond (.tmp 44) (.seq (.reg 11) (.ret)) (.skip))) (.seq (.seq (.reg 12) (.cond (.tmp 47) (.reg 13) (.skip))) (.seq (.reg 14) (.seq (.reg 15) (.seq (.reg 16) (.reg 17))))))))) (.reg 18))))))) (.seq (.block 2 (.seq (.reg 19) (.cond (.tmp 74) (.seq (.reg 20) (.ret)) (.seq (.reg 21) (.cond (.tmp 77) (.seq (.reg 22) (.ret)) (.skip)))))) (.seq (.reg 23) (.seq (.reg 24) (.seq (.reg 25) (.ret)))))))))) (fnQ c65 e G) ρ)) : E L (cal e Tryz.prog 65 args G) :=
  d_fn (c := c65) Tryz.func65 (by kernel_rfl) (by kernel_rfl) (by kernel_rfl) c65_ok (by kernel_rfl) (by kernel_rfl) hρ hs h
noncomputable def c88 := cf Tryz.f88 53 [(0, [0, 1, 2, 3]), (1, [0, 1, 2, 3]), (2, []), (3, [0, 1, 2, 3]), (4, []), (5, [0, 1, 2, 3])] [(0, [0, 1, 2, 3]), (1, [0, 1, 2, 3, 10]), (2, [8, 9]), (3, [0, 1, 2, 3, 33]), (4, [8, 9]), (5, [8, 9]), (1000000, [8, 9])] [] []
@[go_sem] theorem c88_i : c88.li 0 = [0, 1, 2, 3] ∧ c88.li 1 = [0, 1, 2, 3] ∧ c88.li 2 = [] ∧ c88.li 3 = [0, 1, 2, 3] ∧ c88.li 4 = [] ∧ c88.li 5 = [0, 1, 2, 3] := ⟨rfl, rfl, rfl, rfl, rfl, rfl⟩
@[go_sem] theorem c88_r0 (v0 : Option Addr) (v1 v2 v3 : Int) : RP c88 0 [(0, v0), (1, v1), (2, v2), (3, v3)] K =
 (K [(0, v0), (1, v1), (2, v2), (3, v3)]) := by kernel_rfl
@[go_sem] theorem c88_r1 (v0 : Option Addr) (v1 v2 v3 : Int) : RP c88 1 [(0, v0), (1, v1), (2, v2), (3, v3)] K =
 (cnd (v0.isNone) (K [(0, v0), (1, v1), (2, v2), (3, v3), (10, true)]) (cnd (decide (v3 < 1)) (K [(0, v0), (1, v1), (2, v2), (3, v3), (10, true)]) (cnd (decide (65536 ≤ v3)) (K [(0, v0), (1, v1), (2, v2), (3, v3), (10, true)]) (cnd (decide (v1 < 0)) (K [(0, v0), (1, v1), (2, v2), (3, v3), (10, true)]) (cnd (decide (v2 < 1)) (K [(0, v0), (1, v1), (2, v2), (3, v3), (10, true)]) (K [(0, v0), (1, v1), (2, v2), (3, v3), (10, decide (200 < v2))])))))) := by kernel_rfl
@[go_sem] theorem c88_r2 : RP c88 2 [] K =
 (K [(8, .pointer none), (9, .int .i64 1)]) := by kernel_rfl
@[go_sem] theorem c88_r3 (v0 : Option Addr) (v1 v2 v3 : Int) : RP c88 3 [(0, v0), (1, v1), (2, v2), (3, v3)] K =
 (cal eI Tryz.prog 99 #[v0] fun (y1_ : Int) => (cnd (decide (y1_ < v1)) (K [(0, v0), (1, v1), (2, v2), (3, v3), (33, true)]) (cal eI Tryz.prog 99 #[v0] fun (y2_ : Int) => (K [(0, v0), (1, v1), (2, v2), (3, v3), (33, decide ((IntKind.wrap .i64 (y2_ - v1)) < (IntKind.wrap .i64 (v2 * 4))))])))) := by kernel_rfl
@[go_sem] theorem c88_r4 : RP c88 4 [] K =
 (K [(8, .pointer none), (9, .int .i64 6)]) := by kernel_rfl
@[go_sem] theorem c88_r5 (v0 : Option Addr) (v1 v2 v3 : Int) : RP c88 5 [(0, v0), (1, v1), (2, v2), (3, v3)] K =
 (nwc #[.pointer ((⟨v0, v1, v2, v3⟩ : store_Store).disk), .int .i64 ((⟨v0, v1, v2, v3⟩ : store_Store).base), .int .i64 ((⟨v0, v1, v2, v3⟩ : store_Store).pages), .int .i64 ((⟨v0, v1, v2, v3⟩ : store_Store).gen)] 141 fun y1_ => (K [(8, y1_), (9, .int .i64 0)])) := by kernel_rfl
@[go_sem] theorem c88_o : c88.lo 1000000 = [8, 9] := rfl
@[go_sem] theorem c88_e (v8 : Option Addr) (v9 : Int) : RTp c88 [(8, v8), (9, v9)] k = (k (.tuple #[v8, v9])) := by kernel_rfl
theorem c88_ok : (c88.P.follows .mixedOrders && okc c88 c88.body) = true := by kernel_rfl
theorem c88_fn (hρ : envA 0 args.toList = ρ) (hs : Nat.ble args.size 53 = true) (h : E L (D c88 (.seq (.reg 0) (.seq (.block 0 (.seq (.reg 1) (.cond (.tmp 10) (.seq (.reg 2) (.ret)) (.seq (.reg 3) (.cond (.tmp 33) (.seq (.reg 4) (.ret)) (.skip)))))) (.seq (.reg 5) (.ret)))) (fnQ c88 e G) ρ)) : E L (cal e Tryz.prog 88 args G) :=
  d_fn (c := c88) Tryz.func88 (by kernel_rfl) (by kernel_rfl) (by kernel_rfl) c88_ok (by kernel_rfl) (by kernel_rfl) hρ hs h
noncomputable def c92 := cf Tryz.f92 9 [(0, [0]), (1, [0]), (2, []), (3, [0])] [(0, [0]), (1, [0, 4]), (2, [2]), (3, [2]), (1000000, [2])] [] []
@[go_sem] theorem c92_i : c92.li 0 = [0] ∧ c92.li 1 = [0] ∧ c92.li 2 = [] ∧ c92.li 3 = [0] := ⟨rfl, rfl, rfl, rfl⟩
@[go_sem] theorem c92_r0 (v0 : Option Addr) : RP c92 0 [(0, v0)] K =
 (K [(0, v0)]) := by kernel_rfl
@[go_sem] theorem c92_r1 (v0 : Option Addr) : RP c92 1 [(0, v0)] K =
 (K [(0, v0), (4, .bool (v0.isNone))]) := by kernel_rfl
@[go_sem] theorem c92_r2 : RP c92 2 [] K =
 (K [(2, .int .i64 0)]) := by kernel_rfl
@[go_sem] theorem c92_r3 (v0 : Option Addr) : RP c92 3 [(0, v0)] K =
 (nn v0 fun y1_ => (ld eI (y1_.add 2) fun (y2_ : Int) => (K [(2, y2_)]))) := by kernel_rfl
@[go_sem] theorem c92_o : c92.lo 1000000 = [2] := rfl
@[go_sem] theorem c92_e (v2 : Int) : RTp c92 [(2, v2)] k = (k (v2)) := by kernel_rfl
theorem c92_ok : (c92.P.follows .mixedOrders && okc c92 c92.body) = true := by kernel_rfl
theorem c92_fn (hρ : envA 0 args.toList = ρ) (hs : Nat.ble args.size 9 = true) (h : E L (D c92 (.seq (.reg 0) (.seq (.seq (.reg 1) (.cond (.tmp 4) (.seq (.reg 2) (.ret)) (.skip))) (.seq (.reg 3) (.ret)))) (fnQ c92 e G) ρ)) : E L (cal e Tryz.prog 92 args G) :=
  d_fn (c := c92) Tryz.func92 (by kernel_rfl) (by kernel_rfl) (by kernel_rfl) c92_ok (by kernel_rfl) (by kernel_rfl) hρ hs h
noncomputable def c98 := cf Tryz.f98 26 [(0, [0, 1]), (1, [0, 1]), (2, []), (3, [0, 1]), (4, []), (5, [])] [(0, [0, 1]), (1, [0, 1, 5]), (2, [4]), (3, [15]), (4, [4]), (5, [4]), (1000000, [4])] [] []
@[go_sem] theorem c98_i : c98.li 0 = [0, 1] ∧ c98.li 1 = [0, 1] ∧ c98.li 2 = [] ∧ c98.li 3 = [0, 1] ∧ c98.li 4 = [] ∧ c98.li 5 = [] := ⟨rfl, rfl, rfl, rfl, rfl, rfl⟩
@[go_sem] theorem c98_r0 (v0 : Option Addr) (v1 : Int) : RP c98 0 [(0, v0), (1, v1)] K =
 (K [(0, v0), (1, v1)]) := by kernel_rfl
@[go_sem] theorem c98_r1 (v0 : Option Addr) (v1 : Int) : RP c98 1 [(0, v0), (1, v1)] K =
 (cnd (v0.isNone) (K [(0, v0), (1, v1), (5, true)]) (nn v0 fun y1_ => (ld eP y1_ fun (y2_ : Option Addr) => (K [(0, v0), (1, v1), (5, .bool (y2_.isNone))])))) := by kernel_rfl
@[go_sem] theorem c98_r2 : RP c98 2 [] K =
 (K [(4, .int .i64 11)]) := by kernel_rfl
@[go_sem] theorem c98_r3 (v0 : Option Addr) (v1 : Int) : RP c98 3 [(0, v0), (1, v1)] K =
 (cnd (decide (v1 < 0)) (K [(15, true)]) (nn v0 fun y1_ => (ld eI (y1_.add 2) fun (y2_ : Int) => (K [(15, decide (y2_ ≤ v1))])))) := by kernel_rfl
@[go_sem] theorem c98_r4 : RP c98 4 [] K =
 (K [(4, .int .i64 6)]) := by kernel_rfl
@[go_sem] theorem c98_r5 : RP c98 5 [] K =
 (K [(4, .int .i64 0)]) := by kernel_rfl
@[go_sem] theorem c98_o : c98.lo 1000000 = [4] := rfl
@[go_sem] theorem c98_e (v4 : Int) : RTp c98 [(4, v4)] k = (k (v4)) := by kernel_rfl
theorem c98_ok : (c98.P.follows .mixedOrders && okc c98 c98.body) = true := by kernel_rfl
theorem c98_fn (hρ : envA 0 args.toList = ρ) (hs : Nat.ble args.size 26 = true) (h : E L (D c98 (.seq (.reg 0) (.seq (.block 0 (.seq (.reg 1) (.cond (.tmp 5) (.seq (.reg 2) (.ret)) (.seq (.reg 3) (.cond (.tmp 15) (.seq (.reg 4) (.ret)) (.skip)))))) (.seq (.reg 5) (.ret)))) (fnQ c98 e G) ρ)) : E L (cal e Tryz.prog 98 args G) :=
  d_fn (c := c98) Tryz.func98 (by kernel_rfl) (by kernel_rfl) (by kernel_rfl) c98_ok (by kernel_rfl) (by kernel_rfl) hρ hs h
noncomputable def c121 := cf Tryz.f121 62 [(0, [0, 1, 2, 3]), (1, [0, 1, 2, 3]), (2, [0, 1, 2, 3, 9]), (3, [9]), (4, [0, 1, 2, 3]), (5, []), (6, [0, 1, 2, 3]), (7, [0, 1, 2, 10, 11]), (8, [11]), (9, [0, 1, 2, 10]), (10, [0, 1, 2, 10, 32]), (11, [0, 1, 2, 10, 32]), (12, [0, 1, 2, 10, 12, 32]), (13, [0, 1, 2, 10, 13, 32]), (14, [13]), (15, [0, 1, 2, 10, 32]), (16, [])] [(0, [0, 1, 2, 3]), (1, [0, 1, 2, 3, 9]), (2, [0, 1, 2, 3, 9, 18]), (3, [8]), (4, [0, 1, 2, 3, 22]), (5, [8]), (6, [0, 1, 2, 10, 11]), (7, [0, 1, 2, 10, 11, 30]), (8, [8]), (9, [0, 1, 2, 10, 32]), (10, [0, 1, 2, 10, 32, 33]), (11, [0, 1, 2, 10, 12, 32]), (12, [0, 1, 2, 10, 13, 32]), (13, [0, 1, 2, 10, 13, 32, 59]), (14, [8]), (15, [0, 1, 2, 10, 32]), (16, [8]), (1000000, [8])] [(12, (true, [(0, 1), (1, 1), (2, 1), (3, 0), (4, 1), (5, 1), (6, 1), (7, 0), (8, 1), (9, 1), (10, 1), (11, 1), (12, 1), (13, 1), (14, 1), (15, 1), (16, 1), (17, 1), (18, 1), (19, 1), (20, 1), (21, 1), (22, 4), (23, 1)]))] []
@[go_sem] theorem c121_i : c121.li 0 = [0, 1, 2, 3] ∧ c121.li 1 = [0, 1, 2, 3] ∧ c121.li 2 = [0, 1, 2, 3, 9] ∧ c121.li 3 = [9] ∧ c121.li 4 = [0, 1, 2, 3] ∧ c121.li 5 = [] ∧ c121.li 6 = [0, 1, 2, 3] ∧ c121.li 7 = [0, 1, 2, 10, 11] ∧ c121.li 8 = [11] ∧ c121.li 9 = [0, 1, 2, 10] ∧ c121.li 10 = [0, 1, 2, 10, 32] ∧ c121.li 11 = [0, 1, 2, 10, 32] ∧ c121.li 12 = [0, 1, 2, 10, 12, 32] ∧ c121.li 13 = [0, 1, 2, 10, 13, 32] ∧ c121.li 14 = [13] ∧ c121.li 15 = [0, 1, 2, 10, 32] ∧ c121.li 16 = [] := ⟨rfl, rfl, rfl, rfl, rfl, rfl, rfl, rfl, rfl, rfl, rfl, rfl, rfl, rfl, rfl, rfl, rfl⟩
@[go_sem] theorem c121_r0 (v0 : Option Addr) (v1 : Int) (v2 : List UInt8) (v3 : Int) : RP c121 0 [(0, v0), (1, v1), (2, str v2), (3, v3)] K =
 (K [(0, v0), (1, v1), (2, str v2), (3, v3)]) := by kernel_rfl
@[go_sem] theorem c121_r1 (v0 : Option Addr) (v1 : Int) (v2 : List UInt8) (v3 : Int) : RP c121 1 [(0, v0), (1, v1), (2, str v2), (3, v3)] K =
 (cal eI Tryz.prog 98 #[v0, v1] fun (y1_ : Int) => (K [(0, v0), (1, v1), (2, str v2), (3, v3), (9, y1_)])) := by kernel_rfl
@[go_sem] theorem c121_r2 (v0 : Option Addr) (v1 : Int) (v2 : List UInt8) (v3 v9 : Int) : RP c121 2 [(0, v0), (1, v1), (2, str v2), (3, v3), (9, v9)] K =
 (K [(0, v0), (1, v1), (2, str v2), (3, v3), (9, v9), (18, .bool (v9 != 0))]) := by kernel_rfl
@[go_sem] theorem c121_r3 (v9 : Int) : RP c121 3 [(9, v9)] K =
 (K [(8, v9)]) := by kernel_rfl
@[go_sem] theorem c121_r4 (v0 : Option Addr) (v1 : Int) (v2 : List UInt8) (v3 : Int) : RP c121 4 [(0, v0), (1, v1), (2, str v2), (3, v3)] K =
 (K [(0, v0), (1, v1), (2, str v2), (3, v3), (22, .bool ((v2.length : Int) != 224))]) := by kernel_rfl
@[go_sem] theorem c121_r5 : RP c121 5 [] K =
 (K [(8, .int .i64 4)]) := by kernel_rfl
@[go_sem] theorem c121_r6 (v0 : Option Addr) (v1 : Int) (v2 : List UInt8) (v3 : Int) : RP c121 6 [(0, v0), (1, v1), (2, str v2), (3, v3)] K =
 (cal (eT2 eS eI) Tryz.prog 135 #[v0, v3] fun (y1_ : ((List UInt8) × Int)) => (K [(0, v0), (1, v1), (2, str v2), (10, str y1_.1), (11, y1_.2)])) := by kernel_rfl
@[go_sem] theorem c121_r7 (v0 : Option Addr) (v1 : Int) (v2 v10 : List UInt8) (v11 : Int) : RP c121 7 [(0, v0), (1, v1), (2, str v2), (10, str v10), (11, v11)] K =
 (K [(0, v0), (1, v1), (2, str v2), (10, str v10), (11, v11), (30, .bool (v11 != 0))]) := by kernel_rfl
@[go_sem] theorem c121_r8 (v11 : Int) : RP c121 8 [(11, v11)] K =
 (K [(8, v11)]) := by kernel_rfl
@[go_sem] theorem c121_r9 (v0 : Option Addr) (v1 : Int) (v2 v10 : List UInt8) : RP c121 9 [(0, v0), (1, v1), (2, str v2), (10, str v10)] K =
 (K [(0, v0), (1, v1), (2, str v2), (10, str v10), (32, .int .i64 0)]) := by kernel_rfl
@[go_sem] theorem c121_r10 (v0 : Option Addr) (v1 : Int) (v2 v10 : List UInt8) (v32 : Int) : RP c121 10 [(0, v0), (1, v1), (2, str v2), (10, str v10), (32, v32)] K =
 (K [(0, v0), (1, v1), (2, str v2), (10, str v10), (32, v32), (33, decide (v32 < 4))]) := by kernel_rfl
@[go_sem] theorem c121_r11 (v0 : Option Addr) (v1 : Int) (v2 v10 : List UInt8) (v32 : Int) : RP c121 11 [(0, v0), (1, v1), (2, str v2), (10, str v10), (32, v32)] K =
 (K [(0, v0), (1, v1), (2, str v2), (10, str v10), (12, v32), (32, v32)]) := by kernel_rfl
@[go_sem] theorem c121_r12 (v0 : Option Addr) (v1 : Int) (v2 v10 : List UInt8) (v12 v32 : Int) : RP c121 12 [(0, v0), (1, v1), (2, str v2), (10, str v10), (12, v12), (32, v32)] K =
 (ph fun S0 => (nn v0 fun y1_ => (ldq S0 eP y1_ fun (y2_ : Option Addr) => (nn v0 fun y3_ => (ldq S0 eI (y3_.add 1) fun (y4_ : Int) => (rq (0 ≤ ((IntKind.wrap .i64 (v12 * 56)) : Int) ∧ (IntKind.wrap .i64 (v12 * 56)) ≤ (IntKind.wrap .i64 ((IntKind.wrap .i64 (v12 + 1)) * 56)) ∧ (IntKind.wrap .i64 ((IntKind.wrap .i64 (v12 + 1)) * 56)) ≤ (v2.length : Int)) (rq ((v10.length : Int) + ((ss v2 (IntKind.wrap .i64 (v12 * 56)) (IntKind.wrap .i64 ((IntKind.wrap .i64 (v12 + 1)) * 56))).length : Int) ≤ 9223372036854775807) (cal eI Tryz.prog 24 #[y2_, IntKind.wrap .i64 ((IntKind.wrap .i64 (y4_ + (IntKind.wrap .i64 ((4 : Int) * v1)))) + v12), str (v10 ++ (ss v2 (IntKind.wrap .i64 (v12 * 56)) (IntKind.wrap .i64 ((IntKind.wrap .i64 (v12 + 1)) * 56))))] fun (y5_ : Int) => (K [(0, v0), (1, v1), (2, str v2), (10, str v10), (13, y5_), (32, v32)]))))))))) := by kernel_rfl
@[go_sem] theorem c121_r13 (v0 : Option Addr) (v1 : Int) (v2 v10 : List UInt8) (v13 v32 : Int) : RP c121 13 [(0, v0), (1, v1), (2, str v2), (10, str v10), (13, v13), (32, v32)] K =
 (K [(0, v0), (1, v1), (2, str v2), (10, str v10), (13, v13), (32, v32), (59, .bool (v13 != 0))]) := by kernel_rfl
@[go_sem] theorem c121_r14 (v13 : Int) : RP c121 14 [(13, v13)] K =
 (K [(8, v13)]) := by kernel_rfl
@[go_sem] theorem c121_r15 (v0 : Option Addr) (v1 : Int) (v2 v10 : List UInt8) (v32 : Int) : RP c121 15 [(0, v0), (1, v1), (2, str v2), (10, str v10), (32, v32)] K =
 (K [(0, v0), (1, v1), (2, str v2), (10, str v10), (32, IntKind.wrap .i64 (v32 + 1))]) := by kernel_rfl
@[go_sem] theorem c121_r16 : RP c121 16 [] K =
 (K [(8, .int .i64 0)]) := by kernel_rfl
@[go_sem] theorem c121_o : c121.lo 1000000 = [8] := rfl
@[go_sem] theorem c121_e (v8 : Int) : RTp c121 [(8, v8)] k = (k (v8)) := by kernel_rfl
theorem c121_ok : (c121.P.follows .mixedOrders && okc c121 c121.body) = true := by kernel_rfl
theorem c121_fn (hρ : envA 0 args.toList = ρ) (hs : Nat.ble args.size 62 = true) (h : E L (D c121 (.seq (.reg 0) (.seq (.seq (.reg 1) (.seq (.reg 2) (.cond (.tmp 18) (.seq (.reg 3) (.ret)) (.skip)))) (.seq (.seq (.reg 4) (.cond (.tmp 22) (.seq (.reg 5) (.ret)) (.skip))) (.seq (.reg 6) (.seq (.seq (.reg 7) (.cond (.tmp 30) (.seq (.reg 8) (.ret)) (.skip))) (.seq (.seq (.reg 9) (.block 0 (.loop (.seq (.reg 10) (.seq (.cond (.tmp 33) (.skip) (.exit 0)) (.seq (.block 1 (.seq (.reg 11) (.seq (.reg 12) (.seq (.reg 13) (.cond (.tmp 59) (.seq (.reg 14) (.ret)) (.skip)))))) (.reg 15))))))) (.seq (.reg 16) (.ret)))))))) (fnQ c121 e G) ρ)) : E L (cal e Tryz.prog 121 args G) :=
  d_fn (c := c121) Tryz.func121 (by kernel_rfl) (by kernel_rfl) (by kernel_rfl) c121_ok (by kernel_rfl) (by kernel_rfl) hρ hs h
noncomputable def c122 := cf Tryz.f122 17 [(0, [0]), (1, [0]), (2, []), (3, [0])] [(0, [0]), (1, [0, 11]), (2, [2]), (3, [2]), (1000000, [2])] [] []
@[go_sem] theorem c122_i : c122.li 0 = [0] ∧ c122.li 1 = [0] ∧ c122.li 2 = [] ∧ c122.li 3 = [0] := ⟨rfl, rfl, rfl, rfl⟩
@[go_sem] theorem c122_r0 (v0 : Option Addr) : RP c122 0 [(0, v0)] K =
 (K [(0, v0)]) := by kernel_rfl
@[go_sem] theorem c122_r1 (v0 : Option Addr) : RP c122 1 [(0, v0)] K =
 (cnd (v0.isNone) (K [(0, v0), (11, true)]) (nn v0 fun y1_ => (ld eP y1_ fun (y2_ : Option Addr) => (K [(0, v0), (11, .bool (y2_.isNone))])))) := by kernel_rfl
@[go_sem] theorem c122_r2 : RP c122 2 [] K =
 (K [(2, .int .i64 11)]) := by kernel_rfl
@[go_sem] theorem c122_r3 (v0 : Option Addr) : RP c122 3 [(0, v0)] K =
 (nn v0 fun y1_ => (ld eP y1_ fun (y2_ : Option Addr) => (cal eI Tryz.prog 79 #[y2_] fun (y3_ : Int) => (K [(2, y3_)])))) := by kernel_rfl
@[go_sem] theorem c122_o : c122.lo 1000000 = [2] := rfl
@[go_sem] theorem c122_e (v2 : Int) : RTp c122 [(2, v2)] k = (k (v2)) := by kernel_rfl
theorem c122_ok : (c122.P.follows .mixedOrders && okc c122 c122.body) = true := by kernel_rfl
theorem c122_fn (hρ : envA 0 args.toList = ρ) (hs : Nat.ble args.size 17 = true) (h : E L (D c122 (.seq (.reg 0) (.seq (.seq (.reg 1) (.cond (.tmp 11) (.seq (.reg 2) (.ret)) (.skip))) (.seq (.reg 3) (.ret)))) (fnQ c122 e G) ρ)) : E L (cal e Tryz.prog 122 args G) :=
  d_fn (c := c122) Tryz.func122 (by kernel_rfl) (by kernel_rfl) (by kernel_rfl) c122_ok (by kernel_rfl) (by kernel_rfl) hρ hs h
noncomputable def c135 := cf Tryz.f135 21 [(0, [0, 1]), (1, [0, 1]), (2, [1, 6])] [(0, [0, 1]), (1, [1, 6]), (2, [4, 5]), (1000000, [4, 5])] [] []
@[go_sem] theorem c135_i : c135.li 0 = [0, 1] ∧ c135.li 1 = [0, 1] ∧ c135.li 2 = [1, 6] := ⟨rfl, rfl, rfl⟩
@[go_sem] theorem c135_r0 (v0 : Option Addr) (v1 : Int) : RP c135 0 [(0, v0), (1, v1)] K =
 (K [(0, v0), (1, v1)]) := by kernel_rfl
@[go_sem] theorem c135_r1 (v0 : Option Addr) (v1 : Int) : RP c135 1 [(0, v0), (1, v1)] K =
 (nn v0 fun y1_ => (ld eI (y1_.add 3) fun (y2_ : Int) => (cal (eT2 eS eI) Tryz.prog 73 #[str ([] : List UInt8), y2_, .int .i64 2] fun (y3_ : ((List UInt8) × Int)) => (K [(1, v1), (6, str y3_.1)])))) := by kernel_rfl
@[go_sem] theorem c135_r2 (v1 : Int) (v6 : List UInt8) : RP c135 2 [(1, v1), (6, str v6)] K =
 (cal (eT2 eS eI) Tryz.prog 73 #[str v6, v1, .int .i64 6] fun (y1_ : ((List UInt8) × Int)) => (K [(4, str y1_.1), (5, y1_.2)])) := by kernel_rfl
@[go_sem] theorem c135_o : c135.lo 1000000 = [4, 5] := rfl
@[go_sem] theorem c135_e (v4 : List UInt8) (v5 : Int) : RTp c135 [(4, str v4), (5, v5)] k = (k (.tuple #[str v4, v5])) := by kernel_rfl
theorem c135_ok : (c135.P.follows .mixedOrders && okc c135 c135.body) = true := by kernel_rfl
theorem c135_fn (hρ : envA 0 args.toList = ρ) (hs : Nat.ble args.size 21 = true) (h : E L (D c135 (.seq (.reg 0) (.seq (.reg 1) (.seq (.reg 2) (.ret)))) (fnQ c135 e G) ρ)) : E L (cal e Tryz.prog 135 args G) :=
  d_fn (c := c135) Tryz.func135 (by kernel_rfl) (by kernel_rfl) (by kernel_rfl) c135_ok (by kernel_rfl) (by kernel_rfl) hρ hs h
end Go.Sp
namespace Go.Sp
open Go
set_option maxRecDepth 100000
set_option linter.unusedVariables false
open Go.Proofs
variable (K : Env → W) (k : Value → W) {e : Enc} {args : Array Value} {G : e.α → W} {L : List HP} {ρ : Env}
attribute [local instance] cI cB cP cA
noncomputable def c41 := cf Tryz.f41 58 [(0, [0]), (1, [0]), (2, [0, 3, 4]), (3, []), (4, [0, 3]), (5, [0, 3, 5, 6]), (6, [0, 3, 5, 6, 7, 8]), (7, [3, 5, 6, 7, 8, 9, 10]), (8, []), (9, [3, 5, 7, 9])] [(0, [0]), (1, [0, 3, 4]), (2, [0, 3, 20]), (3, [2]), (4, [0, 3, 5, 6]), (5, [0, 3, 5, 6, 7, 8]), (6, [3, 5, 6, 7, 8, 9, 10]), (7, [3, 5, 7, 9, 51]), (8, [2]), (9, [2]), (1000000, [2])] [] []
@[go_sem] theorem c41_i : c41.li 0 = [0] ∧ c41.li 1 = [0] ∧ c41.li 2 = [0, 3, 4] ∧ c41.li 3 = [] ∧ c41.li 4 = [0, 3] ∧ c41.li 5 = [0, 3, 5, 6] ∧ c41.li 6 = [0, 3, 5, 6, 7, 8] ∧ c41.li 7 = [3, 5, 6, 7, 8, 9, 10] ∧ c41.li 8 = [] ∧ c41.li 9 = [3, 5, 7, 9] := ⟨rfl, rfl, rfl, rfl, rfl, rfl, rfl, rfl, rfl, rfl⟩
@[go_sem] theorem c41_r0 (v0 : Int) : RP c41 0 [(0, v0)] K =
 (K [(0, v0)]) := by kernel_rfl
@[go_sem] theorem c41_r1 (v0 : Int) : RP c41 1 [(0, v0)] K =
 (cal (eT2 eP eI) Tryz.prog 16 #[.int .i64 80] fun (y1_ : ((Option Addr) × Int)) => (K [(0, v0), (3, y1_.1), (4, y1_.2)])) := by kernel_rfl
@[go_sem] theorem c41_r2 (v0 : Int) (v3 : Option Addr) (v4 : Int) : RP c41 2 [(0, v0), (3, v3), (4, v4)] K =
 (cnd (v4 != 0) (K [(0, v0), (3, v3), (20, true)]) (K [(0, v0), (3, v3), (20, .bool (v3.isNone))])) := by kernel_rfl
@[go_sem] theorem c41_r3 : RP c41 3 [] K =
 (K [(2, .pointer none)]) := by kernel_rfl
@[go_sem] theorem c41_r4 (v0 : Int) (v3 : Option Addr) : RP c41 4 [(0, v0), (3, v3)] K =
 (cal (eT2 eP eI) Tryz.prog 17 #[v3, .int .i64 0, .int .i64 40, .int .i64 1] fun (y1_ : ((Option Addr) × Int)) => (K [(0, v0), (3, v3), (5, y1_.1), (6, y1_.2)])) := by kernel_rfl
@[go_sem] theorem c41_r5 (v0 : Int) (v3 v5 : Option Addr) (v6 : Int) : RP c41 5 [(0, v0), (3, v3), (5, v5), (6, v6)] K =
 (cal (eT2 eP eI) Tryz.prog 88 #[v3, .int .i64 40, .int .i64 8, .int .i64 1] fun (y1_ : ((Option Addr) × Int)) => (K [(0, v0), (3, v3), (5, v5), (6, v6), (7, y1_.1), (8, y1_.2)])) := by kernel_rfl
@[go_sem] theorem c41_r6 (v0 : Int) (v3 v5 : Option Addr) (v6 : Int) (v7 : Option Addr) (v8 : Int) : RP c41 6 [(0, v0), (3, v3), (5, v5), (6, v6), (7, v7), (8, v8)] K =
 (cal (eT2 eP eI) Tryz.prog 42 #[v7, v5, v0] fun (y1_ : ((Option Addr) × Int)) => (K [(3, v3), (5, v5), (6, v6), (7, v7), (8, v8), (9, y1_.1), (10, y1_.2)])) := by kernel_rfl
@[go_sem] theorem c41_r7 (v3 v5 : Option Addr) (v6 : Int) (v7 : Option Addr) (v8 : Int) (v9 : Option Addr) (v10 : Int) : RP c41 7 [(3, v3), (5, v5), (6, v6), (7, v7), (8, v8), (9, v9), (10, v10)] K =
 (cnd (v6 != 0) (K [(3, v3), (5, v5), (7, v7), (9, v9), (51, true)]) (cnd (v8 != 0) (K [(3, v3), (5, v5), (7, v7), (9, v9), (51, true)]) (cnd (v10 != 0) (K [(3, v3), (5, v5), (7, v7), (9, v9), (51, true)]) (K [(3, v3), (5, v5), (7, v7), (9, v9), (51, .bool (v9.isNone))])))) := by kernel_rfl
@[go_sem] theorem c41_r8 : RP c41 8 [] K =
 (K [(2, .pointer none)]) := by kernel_rfl
@[go_sem] theorem c41_r9 (v3 v5 v7 v9 : Option Addr) : RP c41 9 [(3, v3), (5, v5), (7, v7), (9, v9)] K =
 (nwc #[v3, v7, v5, v9, str ([] : List UInt8), str ([] : List UInt8), str ([] : List UInt8), str ([] : List UInt8), str ([] : List UInt8), str ([] : List UInt8), str ([] : List UInt8), str ([] : List UInt8), .int .i64 0, .int .i64 0, .int .i64 0, .int .i64 0, .int .i64 0, .int .i64 0, .int .i64 0, .int .i64 0, .int .i64 0, .int .i64 0, .int .i64 0, .int .i64 0, .int .i64 0, .int .i64 0, .int .i64 0, .int .i64 0] 81 fun y1_ => (K [(2, y1_)])) := by kernel_rfl
@[go_sem] theorem c41_o : c41.lo 1000000 = [2] := rfl
@[go_sem] theorem c41_e (v2 : Option Addr) : RTp c41 [(2, v2)] k = (k (v2)) := by kernel_rfl
theorem c41_ok : (c41.P.follows .mixedOrders && okc c41 c41.body) = true := by kernel_rfl
theorem c41_fn (hρ : envA 0 args.toList = ρ) (hs : Nat.ble args.size 58 = true) (h : E L (D c41 (.seq (.reg 0) (.seq (.reg 1) (.seq (.seq (.reg 2) (.cond (.tmp 20) (.seq (.reg 3) (.ret)) (.skip))) (.seq (.reg 4) (.seq (.reg 5) (.seq (.reg 6) (.seq (.seq (.reg 7) (.cond (.tmp 51) (.seq (.reg 8) (.ret)) (.skip))) (.seq (.reg 9) (.ret))))))))) (fnQ c41 e G) ρ)) : E L (cal e Tryz.prog 41 args G) :=
  d_fn (c := c41) Tryz.func41 (by kernel_rfl) (by kernel_rfl) (by kernel_rfl) c41_ok (by kernel_rfl) (by kernel_rfl) hρ hs h
noncomputable def c44 := cf Tryz.f44 57 [(0, []), (1, []), (2, [1]), (3, []), (4, [1]), (5, [1, 4]), (6, [1, 4, 7])] [(0, []), (1, [1]), (2, [1, 25]), (3, [0]), (4, [1, 4]), (5, [1, 4, 7]), (6, [0]), (1000000, [0])] [] []
@[go_sem] theorem c44_i : c44.li 0 = [] ∧ c44.li 1 = [] ∧ c44.li 2 = [1] ∧ c44.li 3 = [] ∧ c44.li 4 = [1] ∧ c44.li 5 = [1, 4] ∧ c44.li 6 = [1, 4, 7] := ⟨rfl, rfl, rfl, rfl, rfl, rfl, rfl⟩
@[go_sem] theorem c44_r0 : RP c44 0 [] K =
 (K []) := by kernel_rfl
@[go_sem] theorem c44_r1 : RP c44 1 [] K =
 (cal eP Tryz.prog 41 #[.int .i64 2] fun (y1_ : Option Addr) => (K [(1, y1_)])) := by kernel_rfl
@[go_sem] theorem c44_r2 (v1 : Option Addr) : RP c44 2 [(1, v1)] K =
 (cnd (v1.isNone) (K [(1, v1), (25, true)]) (cal eB Tryz.prog 47 #[v1, .int .i64 0, .int .u8 1] fun (y1_ : Bool) => (cnd (!y1_) (K [(1, v1), (25, true)]) (cal eB Tryz.prog 47 #[v1, .int .i64 1, .int .u8 2] fun (y2_ : Bool) => (cnd (!y2_) (K [(1, v1), (25, true)]) (cal eB Tryz.prog 47 #[v1, .int .i64 2, .int .u8 3] fun (y3_ : Bool) => (K [(1, v1), (25, .bool (!y3_))]))))))) := by kernel_rfl
@[go_sem] theorem c44_r3 : RP c44 3 [] K =
 (K [(0, false)]) := by kernel_rfl
@[go_sem] theorem c44_r4 (v1 : Option Addr) : RP c44 4 [(1, v1)] K =
 (nn v1 fun y1_ => (ld eP (y1_.add 1) fun (y2_ : Option Addr) => (cal (eT3 eS eI eI) Tryz.prog 65 #[y2_, .int .i64 0] fun (y3_ : ((List UInt8) × Int × Int)) => (K [(1, v1), (4, .int .i64 y3_.2.2)])))) := by kernel_rfl
@[go_sem] theorem c44_r5 (v1 : Option Addr) (v4 : Int) : RP c44 5 [(1, v1), (4, v4)] K =
 (nn v1 fun y1_ => (ld eP (y1_.add 1) fun (y2_ : Option Addr) => (cal (eT3 eS eI eI) Tryz.prog 65 #[y2_, .int .i64 1] fun (y3_ : ((List UInt8) × Int × Int)) => (K [(1, v1), (4, v4), (7, .int .i64 y3_.2.2)])))) := by kernel_rfl
@[go_sem] theorem c44_r6 (v1 : Option Addr) (v4 v7 : Int) : RP c44 6 [(1, v1), (4, v4), (7, v7)] K =
 (cnd (v4 == 0) (nn v1 fun y1_ => (ld eP (y1_.add 3) fun (y2_ : Option Addr) => (cal eB Tryz.prog 45 #[y2_, .int .i64 2] fun (y3_ : Bool) => (K [(0, y3_)])))) (cnd (v7 == 0) (nn v1 fun y4_ => (ld eP (y4_.add 3) fun (y5_ : Option Addr) => (cal eB Tryz.prog 45 #[y5_, .int .i64 2] fun (y6_ : Bool) => (K [(0, y6_)])))) (K [(0, false)]))) := by kernel_rfl
@[go_sem] theorem c44_o : c44.lo 1000000 = [0] := rfl
@[go_sem] theorem c44_e (v0 : Bool) : RTp c44 [(0, v0)] k = (k (v0)) := by kernel_rfl
theorem c44_ok : (c44.P.follows .mixedOrders && okc c44 c44.body) = true := by kernel_rfl
theorem c44_fn (hρ : envA 0 args.toList = ρ) (hs : Nat.ble args.size 57 = true) (h : E L (D c44 (.seq (.reg 0) (.seq (.reg 1) (.seq (.seq (.reg 2) (.cond (.tmp 25) (.seq (.reg 3) (.ret)) (.skip))) (.seq (.reg 4) (.seq (.reg 5) (.seq (.reg 6) (.ret))))))) (fnQ c44 e G) ρ)) : E L (cal e Tryz.prog 44 args G) :=
  d_fn (c := c44) Tryz.func44 (by kernel_rfl) (by kernel_rfl) (by kernel_rfl) c44_ok (by kernel_rfl) (by kernel_rfl) hρ hs h
noncomputable def c47 := cf Tryz.f47 62 [(0, [0, 1, 2]), (1, [0, 1, 2]), (2, [0, 1, 2, 7, 8]), (3, [8]), (4, [0, 1, 2, 7]), (5, [0, 1, 2, 7, 9]), (6, [9]), (7, [0, 1, 2, 7, 9]), (8, [0]), (9, [0, 1, 2, 7, 9]), (10, [0, 1, 7, 9]), (11, [9])] [(0, [0, 1, 2]), (1, [0, 1, 2, 7, 8]), (2, [0, 1, 2, 7, 8, 22]), (3, [6]), (4, [0, 1, 2, 7, 9]), (5, [0, 1, 2, 7, 9, 39]), (6, [6]), (7, [0, 1, 2, 7, 9, 43]), (8, [6]), (9, [0, 1, 7, 9]), (10, [9]), (11, [6]), (1000000, [6])] [(4, (true, [(0, 1), (1, 1), (2, 1), (3, 0), (4, 1), (5, 1), (7, 1), (6, 2), (8, 4), (9, 1)])), (9, (false, [(0, 1), (1, 1), (2, 1), (4, 1), (5, 1), (3, 4), (6, 1), (7, 4)]))] []
@[go_sem] theorem c47_i : c47.li 0 = [0, 1, 2] ∧ c47.li 1 = [0, 1, 2] ∧ c47.li 2 = [0, 1, 2, 7, 8] ∧ c47.li 3 = [8] ∧ c47.li 4 = [0, 1, 2, 7] ∧ c47.li 5 = [0, 1, 2, 7, 9] ∧ c47.li 6 = [9] ∧ c47.li 7 = [0, 1, 2, 7, 9] ∧ c47.li 8 = [0] ∧ c47.li 9 = [0, 1, 2, 7, 9] ∧ c47.li 10 = [0, 1, 7, 9] ∧ c47.li 11 = [9] := ⟨rfl, rfl, rfl, rfl, rfl, rfl, rfl, rfl, rfl, rfl, rfl, rfl⟩
@[go_sem] theorem c47_r0 (v0 : Option Addr) (v1 v2 : Int) : RP c47 0 [(0, v0), (1, v1), (2, .int .u8 v2)] K =
 (K [(0, v0), (1, v1), (2, .int .u8 v2)]) := by kernel_rfl
@[go_sem] theorem c47_r1 (v0 : Option Addr) (v1 v2 : Int) : RP c47 1 [(0, v0), (1, v1), (2, .int .u8 v2)] K =
 (nn v0 fun y1_ => (ld eP (y1_.add 2) fun (y2_ : Option Addr) => (cal (eT2 eI eI) Tryz.prog 20 #[y2_, v_api_Rec (⟨(7 : Int), (IntKind.wrap .i64 v2), (1 : Int), (0 : Int), (0 : Int), ([] : List UInt8), ([] : List UInt8), ([] : List UInt8), (0 : Int), (none, 0, 0), (none, 0, 0), (0 : Int), (0 : Int)⟩ : api_Rec)] fun (y3_ : (Int × Int)) => (K [(0, v0), (1, v1), (2, .int .u8 v2), (7, y3_.1), (8, y3_.2)])))) := by kernel_rfl
@[go_sem] theorem c47_r2 (v0 : Option Addr) (v1 v2 v7 v8 : Int) : RP c47 2 [(0, v0), (1, v1), (2, .int .u8 v2), (7, v7), (8, v8)] K =
 (K [(0, v0), (1, v1), (2, .int .u8 v2), (7, v7), (8, v8), (22, .bool (v8 != 0))]) := by kernel_rfl
@[go_sem] theorem c47_r3 (v8 : Int) : RP c47 3 [(8, v8)] K =
 (K [(6, .bool (v8 == 7))]) := by kernel_rfl
@[go_sem] theorem c47_r4 (v0 : Option Addr) (v1 v2 v7 : Int) : RP c47 4 [(0, v0), (1, v1), (2, .int .u8 v2), (7, v7)] K =
 (ph fun S0 => (nn v0 fun y1_ => (ldq S0 eP (y1_.add 3) fun (y2_ : Option Addr) => (cal eS Tryz.prog 66 #[.int .u8 v2] fun (y3_ : List UInt8) => (kpn S0 fun S1 => (cal eI Tryz.prog 43 #[y2_, v1, str y3_, v7] fun (y4_ : Int) => (K [(0, v0), (1, v1), (2, .int .u8 v2), (7, v7), (9, y4_)]))))))) := by kernel_rfl
@[go_sem] theorem c47_r5 (v0 : Option Addr) (v1 v2 v7 v9 : Int) : RP c47 5 [(0, v0), (1, v1), (2, .int .u8 v2), (7, v7), (9, v9)] K =
 (cnd (decide (v1 < 0)) (K [(0, v0), (1, v1), (2, .int .u8 v2), (7, v7), (9, v9), (39, true)]) (K [(0, v0), (1, v1), (2, .int .u8 v2), (7, v7), (9, v9), (39, decide (8 ≤ v1))])) := by kernel_rfl
@[go_sem] theorem c47_r6 (v9 : Int) : RP c47 6 [(9, v9)] K =
 (K [(6, .bool (v9 == 6))]) := by kernel_rfl
@[go_sem] theorem c47_r7 (v0 : Option Addr) (v1 v2 v7 v9 : Int) : RP c47 7 [(0, v0), (1, v1), (2, .int .u8 v2), (7, v7), (9, v9)] K =
 (K [(0, v0), (1, v1), (2, .int .u8 v2), (7, v7), (9, v9), (43, .bool (v9 == 7))]) := by kernel_rfl
@[go_sem] theorem c47_r8 (v0 : Option Addr) : RP c47 8 [(0, v0)] K =
 (cal eI Tryz.prog 93 #[v0] fun (y1_ : Int) => (K [(6, decide (2 ≤ y1_))])) := by kernel_rfl
@[go_sem] theorem c47_r9 (v0 : Option Addr) (v1 v2 v7 v9 : Int) : RP c47 9 [(0, v0), (1, v1), (2, .int .u8 v2), (7, v7), (9, v9)] K =
 (nn v0 fun y1_ => (cal eS Tryz.prog 66 #[.int .u8 v2] fun (y2_ : List UInt8) => (rq (0 ≤ v1 ∧ v1 < ((8 : Nat) : Int)) (st (Addr.add (y1_.add 4) (v1.toNat * 1)) (str y2_) (K [(0, v0), (1, v1), (7, v7), (9, v9)]))))) := by kernel_rfl
@[go_sem] theorem c47_r10 (v0 : Option Addr) (v1 v7 v9 : Int) : RP c47 10 [(0, v0), (1, v1), (7, v7), (9, v9)] K =
 (nn v0 fun y1_ => (rq (0 ≤ v1 ∧ v1 < ((8 : Nat) : Int)) (st (Addr.add (y1_.add 12) (v1.toNat * 1)) (v7) (K [(9, v9)])))) := by kernel_rfl
@[go_sem] theorem c47_r11 (v9 : Int) : RP c47 11 [(9, v9)] K =
 (K [(6, .bool (v9 == 0))]) := by kernel_rfl
@[go_sem] theorem c47_o : c47.lo 1000000 = [6] := rfl
@[go_sem] theorem c47_e (v6 : Bool) : RTp c47 [(6, v6)] k = (k (v6)) := by kernel_rfl
theorem c47_ok : (c47.P.follows .mixedOrders && okc c47 c47.body) = true := by kernel_rfl
theorem c47_fn (hρ : envA 0 args.toList = ρ) (hs : Nat.ble args.size 62 = true) (h : E L (D c47 (.seq (.reg 0) (.seq (.reg 1) (.seq (.seq (.reg 2) (.cond (.tmp 22) (.seq (.reg 3) (.ret)) (.skip))) (.seq (.reg 4) (.seq (.seq (.reg 5) (.cond (.tmp 39) (.seq (.reg 6) (.ret)) (.skip))) (.seq (.seq (.reg 7) (.cond (.tmp 43) (.seq (.reg 8) (.ret)) (.skip))) (.seq (.reg 9) (.seq (.reg 10) (.seq (.reg 11) (.ret)))))))))) (fnQ c47 e G) ρ)) : E L (cal e Tryz.prog 47 args G) :=
  d_fn (c := c47) Tryz.func47 (by kernel_rfl) (by kernel_rfl) (by kernel_rfl) c47_ok (by kernel_rfl) (by kernel_rfl) hρ hs h
noncomputable def c66 := cf Tryz.f66 18 [(0, [0]), (1, [0]), (2, [0, 3]), (3, [0, 3, 4]), (4, [0, 3, 4]), (5, [0, 3, 4]), (6, [3])] [(0, [0]), (1, [0, 3]), (2, [0, 3, 4]), (3, [0, 3, 4, 9]), (4, [0, 3, 4]), (5, [0, 3, 4]), (6, [2]), (1000000, [2])] [] []
@[go_sem] theorem c66_i : c66.li 0 = [0] ∧ c66.li 1 = [0] ∧ c66.li 2 = [0, 3] ∧ c66.li 3 = [0, 3, 4] ∧ c66.li 4 = [0, 3, 4] ∧ c66.li 5 = [0, 3, 4] ∧ c66.li 6 = [3] := ⟨rfl, rfl, rfl, rfl, rfl, rfl, rfl⟩
@[go_sem] theorem c66_r0 (v0 : Int) : RP c66 0 [(0, .int .u8 v0)] K =
 (K [(0, .int .u8 v0)]) := by kernel_rfl
@[go_sem] theorem c66_r1 (v0 : Int) : RP c66 1 [(0, .int .u8 v0)] K =
 (val eSl Tryz.prog (oMake 116 (.int .i64 224) (.int .i64 224)) fun (y1_ : (Option Addr × Nat × Nat)) => (K [(0, .int .u8 v0), (3, .slice y1_.1 y1_.2.1 y1_.2.2)])) := by kernel_rfl
@[go_sem] theorem c66_r2 (v0 : Int) (v3p : Option Addr) (v3n v3c : Nat) : RP c66 2 [(0, .int .u8 v0), (3, .slice v3p v3n v3c)] K =
 (K [(0, .int .u8 v0), (3, .slice v3p v3n v3c), (4, .int .i64 0)]) := by kernel_rfl
@[go_sem] theorem c66_r3 (v0 : Int) (v3p : Option Addr) (v3n v3c : Nat) (v4 : Int) : RP c66 3 [(0, .int .u8 v0), (3, .slice v3p v3n v3c), (4, v4)] K =
 (K [(0, .int .u8 v0), (3, .slice v3p v3n v3c), (4, v4), (9, decide (v4 < v3n))]) := by kernel_rfl
@[go_sem] theorem c66_r4 (v0 : Int) (v3p : Option Addr) (v3n v3c : Nat) (v4 : Int) : RP c66 4 [(0, .int .u8 v0), (3, .slice v3p v3n v3c), (4, v4)] K =
 (K [(0, .int .u8 v0), (3, .slice v3p v3n v3c), (4, IntKind.wrap .i64 (v4 + 1))]) := by kernel_rfl
@[go_sem] theorem c66_r5 (v0 : Int) (v3p : Option Addr) (v3n v3c : Nat) (v4 : Int) : RP c66 5 [(0, .int .u8 v0), (3, .slice v3p v3n v3c), (4, v4)] K =
 (rq (0 ≤ v4 ∧ v4 < v3n) (nn v3p fun y1_ => (st (Addr.add y1_ (v4.toNat * 1)) (.int .u8 v0) (K [(0, .int .u8 v0), (3, .slice v3p v3n v3c), (4, v4)])))) := by kernel_rfl
@[go_sem] theorem c66_r6 (v3p : Option Addr) (v3n v3c : Nat) : RP c66 6 [(3, .slice v3p v3n v3c)] K =
 (val eS Tryz.prog (oConv 116 9 (.slice v3p v3n v3c)) fun (y1_ : List UInt8) => (K [(2, str y1_)])) := by kernel_rfl
@[go_sem] theorem c66_o : c66.lo 1000000 = [2] := rfl
@[go_sem] theorem c66_e (v2 : List UInt8) : RTp c66 [(2, str v2)] k = (k (str v2)) := by kernel_rfl
theorem c66_ok : (c66.P.follows .mixedOrders && okc c66 c66.body) = true := by kernel_rfl
theorem c66_fn (hρ : envA 0 args.toList = ρ) (hs : Nat.ble args.size 18 = true) (h : E L (D c66 (.seq (.reg 0) (.seq (.reg 1) (.seq (.seq (.reg 2) (.block 0 (.loop (.seq (.seq (.reg 3) (.cond (.tmp 9) (.skip) (.exit 0))) (.seq (.block 1 (.reg 5)) (.reg 4)))))) (.seq (.reg 6) (.ret))))) (fnQ c66 e G) ρ)) : E L (cal e Tryz.prog 66 args G) :=
  d_fn (c := c66) Tryz.func66 (by kernel_rfl) (by kernel_rfl) (by kernel_rfl) c66_ok (by kernel_rfl) (by kernel_rfl) hρ hs h
noncomputable def c93 := cf Tryz.f93 19 [(0, [0]), (1, [0]), (2, [0, 3]), (3, [0, 3, 4]), (4, [0, 3, 4]), (5, [0, 3, 4]), (6, [0, 3, 4]), (7, [3])] [(0, [0]), (1, [0, 3]), (2, [0, 3, 4]), (3, [0, 3, 4, 6]), (4, [0, 3, 4]), (5, [0, 3, 4, 15]), (6, [0, 3, 4]), (7, [2]), (1000000, [2])] [] []
@[go_sem] theorem c93_i : c93.li 0 = [0] ∧ c93.li 1 = [0] ∧ c93.li 2 = [0, 3] ∧ c93.li 3 = [0, 3, 4] ∧ c93.li 4 = [0, 3, 4] ∧ c93.li 5 = [0, 3, 4] ∧ c93.li 6 = [0, 3, 4] ∧ c93.li 7 = [3] := ⟨rfl, rfl, rfl, rfl, rfl, rfl, rfl, rfl⟩
@[go_sem] theorem c93_r0 (v0 : Option Addr) : RP c93 0 [(0, v0)] K =
 (K [(0, v0)]) := by kernel_rfl
@[go_sem] theorem c93_r1 (v0 : Option Addr) : RP c93 1 [(0, v0)] K =
 (K [(0, v0), (3, .int .i64 0)]) := by kernel_rfl
@[go_sem] theorem c93_r2 (v0 : Option Addr) (v3 : Int) : RP c93 2 [(0, v0), (3, v3)] K =
 (K [(0, v0), (3, v3), (4, .int .i64 0)]) := by kernel_rfl
@[go_sem] theorem c93_r3 (v0 : Option Addr) (v3 v4 : Int) : RP c93 3 [(0, v0), (3, v3), (4, v4)] K =
 (K [(0, v0), (3, v3), (4, v4), (6, decide (v4 < 8))]) := by kernel_rfl
@[go_sem] theorem c93_r4 (v0 : Option Addr) (v3 v4 : Int) : RP c93 4 [(0, v0), (3, v3), (4, v4)] K =
 (K [(0, v0), (3, v3), (4, IntKind.wrap .i64 (v4 + 1))]) := by kernel_rfl
@[go_sem] theorem c93_r5 (v0 : Option Addr) (v3 v4 : Int) : RP c93 5 [(0, v0), (3, v3), (4, v4)] K =
 (nn v0 fun y1_ => (rq (0 ≤ v4 ∧ v4 < ((8 : Nat) : Int)) (ld eI (Addr.add (y1_.add 20) (v4.toNat * 1)) fun (y2_ : Int) => (K [(0, v0), (3, v3), (4, v4), (15, decide (0 < y2_))])))) := by kernel_rfl
@[go_sem] theorem c93_r6 (v0 : Option Addr) (v3 v4 : Int) : RP c93 6 [(0, v0), (3, v3), (4, v4)] K =
 (K [(0, v0), (3, IntKind.wrap .i64 (v3 + 1)), (4, v4)]) := by kernel_rfl
@[go_sem] theorem c93_r7 (v3 : Int) : RP c93 7 [(3, v3)] K =
 (K [(2, v3)]) := by kernel_rfl
@[go_sem] theorem c93_o : c93.lo 1000000 = [2] := rfl
@[go_sem] theorem c93_e (v2 : Int) : RTp c93 [(2, v2)] k = (k (v2)) := by kernel_rfl
theorem c93_ok : (c93.P.follows .mixedOrders && okc c93 c93.body) = true := by kernel_rfl
theorem c93_fn (hρ : envA 0 args.toList = ρ) (hs : Nat.ble args.size 19 = true) (h : E L (D c93 (.seq (.reg 0) (.seq (.reg 1) (.seq (.seq (.reg 2) (.block 0 (.loop (.seq (.seq (.reg 3) (.cond (.tmp 6) (.skip) (.exit 0))) (.seq (.block 1 (.seq (.reg 5) (.cond (.tmp 15) (.reg 6) (.skip)))) (.reg 4)))))) (.seq (.reg 7) (.ret))))) (fnQ c93 e G) ρ)) : E L (cal e Tryz.prog 93 args G) :=
  d_fn (c := c93) Tryz.func93 (by kernel_rfl) (by kernel_rfl) (by kernel_rfl) c93_ok (by kernel_rfl) (by kernel_rfl) hρ hs h
noncomputable def c94 := cf Tryz.f94 9 [(0, [0]), (1, [0])] [(0, [0]), (1, [2]), (1000000, [2])] [] []
@[go_sem] theorem c94_i : c94.li 0 = [0] ∧ c94.li 1 = [0] := ⟨rfl, rfl⟩
@[go_sem] theorem c94_r0 (v0 : Int) : RP c94 0 [(0, v0)] K =
 (K [(0, v0)]) := by kernel_rfl
@[go_sem] theorem c94_r1 (v0 : Int) : RP c94 1 [(0, v0)] K =
 (cnd (decide (0 ≤ v0)) (K [(2, decide (v0 < 8))]) (K [(2, false)])) := by kernel_rfl
@[go_sem] theorem c94_o : c94.lo 1000000 = [2] := rfl
@[go_sem] theorem c94_e (v2 : Bool) : RTp c94 [(2, v2)] k = (k (v2)) := by kernel_rfl
theorem c94_ok : (c94.P.follows .mixedOrders && okc c94 c94.body) = true := by kernel_rfl
theorem c94_fn (hρ : envA 0 args.toList = ρ) (hs : Nat.ble args.size 9 = true) (h : E L (D c94 (.seq (.reg 0) (.seq (.reg 1) (.ret))) (fnQ c94 e G) ρ)) : E L (cal e Tryz.prog 94 args G) :=
  d_fn (c := c94) Tryz.func94 (by kernel_rfl) (by kernel_rfl) (by kernel_rfl) c94_ok (by kernel_rfl) (by kernel_rfl) hρ hs h
end Go.Sp
namespace Go.Sp
open Go Go.Proofs
set_option linter.unusedSimpArgs false
set_option linter.unusedVariables false
set_option maxRecDepth 10000
structure St where
  q : Nat
  base : Nat
  pages : Nat
  gen : Nat
abbrev spt (S : St) (sb : Nat) : HP := ar S.q 141 [.pointer (some ⟨sb, 0, none⟩), .int .i64 (S.base : Int), .int .i64 (S.pages : Int), .int .i64 (S.gen : Int)]
abbrev St.p (S : St) : Value := .pointer (some ⟨S.q, 0, none⟩)
structure St.ok (S : St) (n : Nat) : Prop where
  g1 : 1 ≤ S.gen
  g2 : S.gen < 65536
  p1 : 1 ≤ S.pages
  p2 : S.pages ≤ 200
  fit : S.base + 4 * S.pages ≤ n
  n1 : n ≤ 8192
def St.chk (S : St) (id : Int) : Int := if id < 0 ∨ (S.pages : Int) ≤ id then 6 else 0
theorem f82 (S : St) (sb : Nat) (id : Int) : Fp eI Tryz.prog 98 #[S.p, .int .i64 id] [spt S sb] (S.chk id) := fun L => by
  refine c98_fn rfl rfl ?_
  unfold St.chk
  repeat' (first | (with_reducible first | refine d_seq fun K hK => ?_ | (refine hK _ _ ?_; clear hK K) | (refine SG.p ?_; try intro b)) | refine i_c ?_ ?_ <;> intro hc <;> try simp only [push_cast, seval] at hc | refine i_x ?_ | clear hK K)
  · (with_reducible first | apply i_ret0 | apply i_ret2 | apply i_ret3 | apply i_ret); exact rfl
    rw [if_pos (by omega)]
  · (with_reducible first | apply i_ret0 | apply i_ret2 | apply i_ret3 | apply i_ret); exact rfl
    rw [if_pos (by omega)]
  · (with_reducible first | apply i_ret0 | apply i_ret2 | apply i_ret3 | apply i_ret); exact rfl
    rw [if_neg (by omega)]
theorem f57 (S : St) (sb : Nat) : Fp eI Tryz.prog 92 #[S.p] [spt S sb] (S.pages : Int) := fun L => by
  refine c92_fn rfl rfl ?_
  repeat' (first | (with_reducible first | refine d_seq fun K hK => ?_ | (refine hK _ _ ?_; clear hK K) | (refine SG.p ?_; try intro b)) | refine i_c ?_ ?_ <;> intro hc <;> try simp only [push_cast, seval] at hc | refine i_x ?_ | clear hK K)
  (with_reducible first | apply i_ret0 | apply i_ret2 | apply i_ret3 | apply i_ret); exact rfl
  rfl
def mk8 (gen : Nat) (lsn : Int) : List UInt8 := lowb (gen : Int) 2 ++ lowb lsn 6
theorem mk8_len (gen : Nat) (lsn : Int) : (mk8 gen lsn).length = 8 := by simp [mk8, lowb_len]
theorem p2566 : ((256 ^ 6 : Nat) : Int) = 281474976710656 := by decide
theorem p2562 : ((256 ^ 2 : Nat) : Int) = 65536 := by decide
theorem f83 (S : St) (sb : Nat) (hg : S.gen < 65536) (lsn : Int) : Fp (eT2 eS eI) Tryz.prog 135 #[S.p, .int .i64 lsn] [spt S sb] (if lsn < 0 ∨ 281474976710656 ≤ lsn then ([], 6) else (mk8 S.gen lsn, 0)) := fun L => by
  have F := f97 [] (S.gen : Int) 2 (by decide) (by decide) (by decide)
  have G := f97 (lowb (S.gen : Int) 2) lsn 6 (by decide) (by decide) (by rw [lowb_len]; decide)
  unfold putN at F G
  rw [p2562, if_neg (by omega)] at F
  rw [p2566] at G
  refine c135_fn rfl rfl ?_
  repeat' (first | (with_reducible first | refine d_seq fun K hK => ?_ | (refine hK _ _ ?_; clear hK K) | (refine SG.p ?_; try intro b)) | refine i_c ?_ ?_ <;> intro hc <;> try simp only [push_cast, seval] at hc | refine i_x ?_ | clear hK K)
  refine i_clp F ?_
  repeat' (first | (with_reducible first | refine d_seq fun K hK => ?_ | (refine hK _ _ ?_; clear hK K) | (refine SG.p ?_; try intro b)) | refine i_c ?_ ?_ <;> intro hc <;> try simp only [push_cast, seval] at hc | refine i_x ?_ | clear hK K)
  refine i_clp G ?_
  repeat' (first | (with_reducible first | refine d_seq fun K hK => ?_ | (refine hK _ _ ?_; clear hK K) | (refine SG.p ?_; try intro b)) | refine i_c ?_ ?_ <;> intro hc <;> try simp only [push_cast, seval] at hc | refine i_x ?_ | clear hK K)
  (with_reducible first | apply i_ret0 | apply i_ret2 | apply i_ret3 | apply i_ret); exact rfl
  rfl
def fl (c : UInt8) : List UInt8 := List.replicate 224 c
theorem f47 (c : UInt8) : Fp eS Tryz.prog 66 #[.int .u8 (c.toNat : Int)] [] (fl c) := fun L => by
  refine c66_fn rfl rfl ?_
  repeat' (first | (with_reducible first | refine d_seq fun K hK => ?_ | (refine hK _ _ ?_; clear hK K) | (refine SG.p ?_; try intro b)) | refine i_c ?_ ?_ <;> intro hc <;> try simp only [push_cast, seval] at hc | refine i_x ?_ | clear hK K)
  refine r_mkb (el := 5) 224 (by kernel_rfl) rfl (by decide) fun b => ?_
  repeat' (first | (with_reducible first | refine d_seq fun K hK => ?_ | (refine hK _ _ ?_; clear hK K) | (refine SG.p ?_; try intro b)) | refine i_c ?_ ?_ <;> intro hc <;> try simp only [push_cast, seval] at hc | refine i_x ?_ | clear hK K)
  refine d_lp [0, 3, 4] (fun i : Nat => [(0, .int .u8 (c.toNat : Int)), (3, .slice (some ⟨b, 0, none⟩) 224 224), (4, .int .i64 (i : Int))])
    (fun i => ar b 5 (cb ((List.replicate 224 c).take i ++ List.replicate (224 - i) 0)) :: L) (fun i => i ≤ 224) (fun i => 224 - i) 0 rfl ?_ (by omega) ?_
  · have e : (List.replicate 224 c).take 0 ++ List.replicate (224 - 0) (0 : UInt8) = List.replicate 224 0 := by simp
    rw [e]
    exact SX.p
  intro i hi
  repeat' (first | (with_reducible first | refine d_seq fun K hK => ?_ | (refine hK _ _ ?_; clear hK K) | (refine SG.p ?_; try intro b)) | refine i_c ?_ ?_ <;> intro hc <;> try simp only [push_cast, seval] at hc | refine i_x ?_ | clear hK K)
  · refine r_bs c .here (by rw [List.length_append, List.length_take, List.length_replicate, List.length_replicate]; omega) rfl ?_
    rw [part_set (by omega) (by simp) (by rw [List.getElem?_replicate, if_pos (by omega)])]
    repeat' (first | (with_reducible first | refine d_seq fun K hK => ?_ | (refine hK _ _ ?_; clear hK K) | (refine SG.p ?_; try intro b)) | refine i_c ?_ ?_ <;> intro hc <;> try simp only [push_cast, seval] at hc | refine i_x ?_ | clear hK K)
    rw [w64 (by omega) (by omega)]
    exact i_bk (i + 1) rfl (by omega) (by omega)
  · obtain rfl : i = 224 := by omega
    have e : (List.replicate 224 c).take 224 ++ List.replicate (224 - 224) (0 : UInt8) = fl c := by simp [fl]
    rw [e]
    refine r_conv (bs := fl c) (by kernel_rfl) ((Rs_ar (by rw [cb_len]; rfl)).eqn rfl) .here ?_
    repeat' (first | (with_reducible first | refine d_seq fun K hK => ?_ | (refine hK _ _ ?_; clear hK K) | (refine SG.p ?_; try intro b) | refine SP.p ?_) | refine i_c ?_ ?_ <;> intro hc <;> try simp only [push_cast, seval] at hc | refine i_x ?_ | clear hK K)
    (with_reducible first | apply i_ret0 | apply i_ret2 | apply i_ret3 | apply i_ret); exact rfl
    rfl
def pt (text : List UInt8) (i : Nat) : List UInt8 := (text.drop (56 * i)).take 56
theorem pt_len {text : List UInt8} (h : text.length = 224) {i : Nat} (hi : i < 4) : (pt text i).length = 56 := by
  simp [pt, h]; omega
theorem pt_ss (text : List UInt8) (i : Nat) : ss text ((i * 56 : Nat) : Int) (((i + 1) * 56 : Nat) : Int) = pt text i := by
  have e : (i + 1) * 56 = 56 * i + 56 := by omega
  unfold pt
  rw [e, Nat.mul_comm i 56]
  exact ss_n text (56 * i) 56
def Dk.wp (Z : Dk) (a : Nat) (m text : List UInt8) : Nat → Int × Dk
  | 0 => (0, Z)
  | k + 1 => if (Z.wp a m text k).1 = 0 then (Z.wp a m text k).2.write ((a + k : Nat) : Int) (m ++ pt text k) else Z.wp a m text k
theorem Dk.wp_ok {Z : Dk} (h : Z.ok) (a : Nat) (m text : List UInt8) : ∀ k, (Z.wp a m text k).2.ok ∧ (Z.wp a m text k).2.sb = Z.sb
  | 0 => ⟨h, rfl⟩
  | k + 1 => by
    obtain ⟨h1, h2⟩ := Dk.wp_ok h a m text k
    unfold Dk.wp
    split
    · exact ⟨Dk.write_ok h1 _ _, (Dk.write_sb _ _ _).trans h2⟩
    · exact ⟨h1, h2⟩
theorem Dk.wp_bad {Z : Dk} {a : Nat} {m text : List UInt8} {i : Nat} (h : (Z.wp a m text i).1 ≠ 0) : ∀ k, Z.wp a m text (i + k) = Z.wp a m text i
  | 0 => rfl
  | k + 1 => by
    have ih := Dk.wp_bad h k
    show (if (Z.wp a m text (i + k)).1 = 0 then _ else Z.wp a m text (i + k)) = _
    rw [ih, if_neg h]
def Dk.wpg (Z : Dk) (S : St) (id : Int) (text : List UInt8) (lsn : Int) : Int × Dk :=
  if S.chk id = 0 then (if text.length = 224 then (if lsn < 0 ∨ 281474976710656 ≤ lsn then (6, Z) else Z.wp (S.base + 4 * id.toNat) (mk8 S.gen lsn) text 4) else (4, Z)) else (6, Z)
theorem St.chk_or (S : St) (id : Int) : S.chk id = 6 ∨ S.chk id = 0 := by unfold St.chk; split <;> simp
theorem St.chk_in {S : St} {id : Int} (h : S.chk id = 0) : ∃ p : Nat, id = (p : Int) ∧ p < S.pages := by
  unfold St.chk at h
  split at h
  · cases h
  · exact ⟨id.toNat, by omega, by omega⟩
theorem f46 (S : St) (Z : Dk) (h : Z.ok) (hS : S.ok Z.sure.length) (id : Int) (text : List UInt8) (lsn : Int) :
    Fq eI Tryz.prog 121 #[S.p, .int .i64 id, str text, .int .i64 lsn] [spt S Z.sb, dk Z] [spt S Z.sb, dk (Z.wpg S id text lsn).2] (Z.wpg S id text lsn).1 := by
  have C := f82 S Z.sb id
  have M := f83 S Z.sb hS.g2 lsn
  unfold Dk.wpg
  rcases S.chk_or id with hc | hc
  · rw [hc] at C ⊢
    rw [if_neg (by decide : ¬ (6 : Int) = 0)]
    intro L
    refine c121_fn rfl rfl ?_
    repeat' (first | (with_reducible first | refine d_seq fun K hK => ?_ | (refine hK _ _ ?_; clear hK K) | (refine SG.p ?_; try intro b)) | refine i_c ?_ ?_ <;> intro hc <;> try simp only [push_cast, seval] at hc | refine i_x ?_ | clear hK K)
    refine i_clp C ?_
    repeat' (first | (with_reducible first | refine d_seq fun K hK => ?_ | (refine hK _ _ ?_; clear hK K) | (refine SG.p ?_; try intro b)) | refine i_c ?_ ?_ <;> intro hc <;> try simp only [push_cast, seval] at hc | refine i_x ?_ | clear hK K)
    all_goals try (first | contradiction | (simp only [ reduceCtorEq] at *; done) | (exfalso; omega))
    (with_reducible first | apply i_ret0 | apply i_ret2 | apply i_ret3 | apply i_ret); exact rfl
    rfl
  · obtain ⟨p, rfl, hp⟩ := St.chk_in hc
    rw [hc] at C ⊢
    rw [if_pos rfl]
    by_cases h1 : text.length = 224
    · rw [if_pos h1]
      by_cases h2 : lsn < 0 ∨ 281474976710656 ≤ lsn
      · rw [if_pos h2] at M ⊢
        intro L
        refine c121_fn rfl rfl ?_
        repeat' (first | (with_reducible first | refine d_seq fun K hK => ?_ | (refine hK _ _ ?_; clear hK K) | (refine SG.p ?_; try intro b)) | refine i_c ?_ ?_ <;> intro hc <;> try simp only [push_cast, seval] at hc | refine i_x ?_ | clear hK K)
        refine i_clp C ?_
        repeat' (first | (with_reducible first | refine d_seq fun K hK => ?_ | (refine hK _ _ ?_; clear hK K) | (refine SG.p ?_; try intro b)) | refine i_c ?_ ?_ <;> intro hc <;> try simp only [push_cast, seval] at hc | refine i_x ?_ | clear hK K)
        all_goals try (exfalso; omega)
        refine i_clp M ?_
        repeat' (first | (with_reducible first | refine d_seq fun K hK => ?_ | (refine hK _ _ ?_; clear hK K) | (refine SG.p ?_; try intro b)) | refine i_c ?_ ?_ <;> intro hc <;> try simp only [push_cast, seval] at hc | refine i_x ?_ | clear hK K)
        all_goals try (first | contradiction | (simp only [ reduceCtorEq] at *; done) | (exfalso; omega))
        (with_reducible first | apply i_ret0 | apply i_ret2 | apply i_ret3 | apply i_ret); exact rfl
        rfl
      · rw [if_neg h2] at M ⊢
        rw [Int.toNat_natCast]
        have hm := mk8_len S.gen lsn
        generalize mk8 S.gen lsn = m at *
        obtain ⟨a, ha⟩ : ∃ a, a = S.base + 4 * p := ⟨_, rfl⟩
        rw [← ha]
        have hfit := hS.fit
        have hn1 := hS.n1
        clear h2 hc
        intro L
        refine c121_fn rfl rfl ?_
        repeat' (first | (with_reducible first | refine d_seq fun K hK => ?_ | (refine hK _ _ ?_; clear hK K) | (refine SG.p ?_; try intro b)) | refine i_c ?_ ?_ <;> intro hc <;> try simp only [push_cast, seval] at hc | refine i_x ?_ | clear hK K)
        refine i_clp C ?_
        repeat' (first | (with_reducible first | refine d_seq fun K hK => ?_ | (refine hK _ _ ?_; clear hK K) | (refine SG.p ?_; try intro b)) | refine i_c ?_ ?_ <;> intro hc <;> try simp only [push_cast, seval] at hc | refine i_x ?_ | clear hK K)
        all_goals try (exfalso; omega)
        refine i_clp M ?_
        repeat' (first | (with_reducible first | refine d_seq fun K hK => ?_ | (refine hK _ _ ?_; clear hK K) | (refine SG.p ?_; try intro b)) | refine i_c ?_ ?_ <;> intro hc <;> try simp only [push_cast, seval] at hc | refine i_x ?_ | clear hK K)
        all_goals try (first | contradiction | (simp only [ reduceCtorEq] at *; done) | (exfalso; omega))
        refine d_lp [0, 1, 2, 10, 32] (fun i : Nat => [(0, .pointer (some ⟨S.q, 0, none⟩)), (1, .int .i64 (p : Int)), (2, str text), (10, str m), (32, .int .i64 (i : Int))])
          (fun i => spt S Z.sb :: dk (Z.wp a m text i).2 :: L) (fun i => i ≤ 4 ∧ (Z.wp a m text i).1 = 0) (fun i => 4 - i) 0 rfl ?_ ⟨by omega, rfl⟩ ?_
        · show Sub (spt S Z.sb :: dk Z :: L) _
          exact SX.p
        rintro i ⟨hi, h0⟩
        repeat' (first | (with_reducible first | refine d_seq fun K hK => ?_ | (refine hK _ _ ?_; clear hK K) | (refine SG.p ?_; try intro b)) | refine i_c ?_ ?_ <;> intro hc <;> try simp only [push_cast, seval] at hc | refine i_x ?_ | clear hK K)
        · obtain ⟨o1, o2⟩ := Dk.wp_ok h a m text i
          have F := F27 _ o1 ((a + i : Nat) : Int) (m ++ pt text i)
          have es : Z.wp a m text (i + 1) = (Z.wp a m text i).2.write ((a + i : Nat) : Int) (m ++ pt text i) := by show ite _ _ _ = _; rw [if_pos h0]
          rw [← es] at F
          simp only [Dk.p, o2] at F
          have e1 : IntKind.wrap .i64 ((i : Int) * 56) = ((i * 56 : Nat) : Int) := by rw [w64 (by omega) (by omega)]; omega
          have e2 : IntKind.wrap .i64 (IntKind.wrap .i64 ((i : Int) + 1) * 56) = (((i + 1) * 56 : Nat) : Int) := by rw [w64 (n := (i : Int) + 1) (by omega) (by omega), w64 (by omega) (by omega)]; omega
          have e3 : IntKind.wrap .i64 (IntKind.wrap .i64 ((S.base : Int) + IntKind.wrap .i64 (4 * (p : Int))) + (i : Int)) = ((a + i : Nat) : Int) := by
            rw [w64 (n := 4 * (p : Int)) (by omega) (by omega), w64 (n := (S.base : Int) + 4 * (p : Int)) (by omega) (by omega), w64 (by omega) (by omega)]; omega
          have hpl := pt_len h1 (i := i) (by omega)
          rw [e1, e2, pt_ss]
          repeat' (first | (with_reducible first | refine d_seq fun K hK => ?_ | (refine hK _ _ ?_; clear hK K) | (refine SG.p ?_; try intro b) | refine SP.p ?_) | refine i_c ?_ ?_ <;> intro hc <;> try simp only [push_cast, seval] at hc | refine i_x ?_ | clear hK K)
          rw [e3]
          refine i_clq F ?_
          repeat' (first | (with_reducible first | refine d_seq fun K hK => ?_ | (refine hK _ _ ?_; clear hK K) | (refine SG.p ?_; try intro b)) | refine i_c ?_ ?_ <;> intro hc <;> try simp only [push_cast, seval] at hc | refine i_x ?_ | clear hK K)
          · have hb : (Z.wp a m text (i + 1)).1 ≠ 0 := by assumption
            have e4 : Z.wp a m text 4 = Z.wp a m text (i + 1) := by
              have := Dk.wp_bad hb (4 - (i + 1))
              rwa [show i + 1 + (4 - (i + 1)) = 4 by omega] at this
            rw [e4]
            (with_reducible first | apply i_ret0 | apply i_ret2 | apply i_ret3 | apply i_ret); exact rfl
            rfl
          · have hb : (Z.wp a m text (i + 1)).1 = 0 := by assumption
            rw [w64 (by omega) (by omega)]
            exact i_bk (i + 1) rfl ⟨by omega, hb⟩ (by omega)
        · obtain rfl : i = 4 := by omega
          (with_reducible first | apply i_ret0 | apply i_ret2 | apply i_ret3 | apply i_ret); exact rfl
          exact h0.symm
    · rw [if_neg h1]
      intro L
      refine c121_fn rfl rfl ?_
      repeat' (first | (with_reducible first | refine d_seq fun K hK => ?_ | (refine hK _ _ ?_; clear hK K) | (refine SG.p ?_; try intro b)) | refine i_c ?_ ?_ <;> intro hc <;> try simp only [push_cast, seval] at hc | refine i_x ?_ | clear hK K)
      refine i_clp C ?_
      repeat' (first | (with_reducible first | refine d_seq fun K hK => ?_ | (refine hK _ _ ?_; clear hK K) | (refine SG.p ?_; try intro b)) | refine i_c ?_ ?_ <;> intro hc <;> try simp only [push_cast, seval] at hc | refine i_x ?_ | clear hK K)
      all_goals try (exfalso; omega)
      (with_reducible first | apply i_ret0 | apply i_ret2 | apply i_ret3 | apply i_ret); exact rfl
      rfl
def Dk.sc (Z : Dk) (a i : Nat) : List UInt8 := Z.get ((a + i : Nat) : Int)
def Dk.rtx (Z : Dk) (a : Nat) : Nat → List UInt8
  | 0 => []
  | i + 1 => Z.rtx a i ++ (Z.sc a i).drop 8
def Dk.rsm (Z : Dk) (a gen : Nat) : Nat → Bool
  | 0 => false
  | i + 1 => Z.rsm a gen i || (be ((Z.sc a i).take 2) == gen)
def Dk.rwh (Z : Dk) (a : Nat) : Nat → Bool
  | 0 => true
  | i + 1 => Z.rwh a i && ((Z.sc a i).take 8 == (Z.sc a 0).take 8)
def Dk.rpg (Z : Dk) (S : St) (id : Int) : List UInt8 × Int × Int :=
  if S.chk id = 0 then (if Z.up then (if Z.rsm (S.base + 4 * id.toNat) S.gen 4 then (if Z.rwh (S.base + 4 * id.toNat) 4 then (Z.rtx (S.base + 4 * id.toNat) 4, (be ((((Z.sc (S.base + 4 * id.toNat) 0).take 8).drop 2).take 6) : Int), 0) else ([], 0, 10)) else ([], 0, 8)) else ([], 0, 9)) else ([], 0, 6)
theorem ss_08 (s : List UInt8) : ss s 0 8 = s.take 8 := by unfold ss; simp
theorem ss_8n {s : List UInt8} : ss s 8 (s.length : Int) = s.drop 8 := by unfold ss; simp
theorem nbeq (m n : Nat) : ((m : Int) == (n : Int)) = (m == n) := by
  rw [Bool.eq_iff_iff, beq_iff_eq, beq_iff_eq]
  omega
set_option maxHeartbeats 1000000 in
theorem f49 (S : St) (Z : Dk) (h : Z.ok) (hS : S.ok Z.sure.length) (id : Int) : Fp (eT3 eS eI eI) Tryz.prog 65 #[S.p, .int .i64 id] [spt S Z.sb, dk Z] (Z.rpg S id) := by
  have C := f82 S Z.sb id
  unfold Dk.rpg
  rcases S.chk_or id with hc | hc
  · rw [hc] at C ⊢
    rw [if_neg (by decide : ¬ (6 : Int) = 0)]
    intro L
    refine c65_fn rfl rfl ?_
    repeat' (first | (with_reducible first | refine d_seq fun K hK => ?_ | (refine hK _ _ ?_; clear hK K) | (refine SG.p ?_; try intro b)) | refine i_c ?_ ?_ <;> intro hc <;> try simp only [push_cast, seval] at hc | refine i_x ?_ | clear hK K)
    refine i_clp C ?_
    repeat' (first | (with_reducible first | refine d_seq fun K hK => ?_ | (refine hK _ _ ?_; clear hK K) | (refine SG.p ?_; try intro b)) | refine i_c ?_ ?_ <;> intro hc <;> try simp only [push_cast, seval] at hc | refine i_x ?_ | clear hK K)
    all_goals try (first | contradiction | (simp only [ reduceCtorEq] at *; done) | (exfalso; omega))
    (with_reducible first | apply i_ret0 | apply i_ret2 | apply i_ret3 | apply i_ret); exact rfl
    rfl
  · obtain ⟨p, rfl, hp⟩ := St.chk_in hc
    rw [hc] at C ⊢
    rw [if_pos rfl, Int.toNat_natCast]
    obtain ⟨a, ha⟩ : ∃ a, a = S.base + 4 * p := ⟨_, rfl⟩
    rw [← ha]
    have hfit := hS.fit
    have hn1 := hS.n1
    have e3 : ∀ i : Nat, i < 4 → IntKind.wrap .i64 (IntKind.wrap .i64 ((S.base : Int) + IntKind.wrap .i64 (4 * (p : Int))) + (i : Int)) = ((a + i : Nat) : Int) := fun i hi => by
      rw [w64 (n := 4 * (p : Int)) (by omega) (by omega), w64 (n := (S.base : Int) + 4 * (p : Int)) (by omega) (by omega), w64 (by omega) (by omega)]; omega
    clear hc
    cases hu : Z.up
    · have F : Fp (eT2 eS eI) Tryz.prog 22 #[.pointer (some ⟨Z.sb, 0, none⟩), .int .i64 ((a + 0 : Nat) : Int)] [dk Z] ([], 9) := by
        have := F31 Z h ((a + 0 : Nat) : Int)
        have e : Z.chk ((a + 0 : Nat) : Int) = 9 := by unfold Dk.chk; rw [hu, if_pos rfl]
        rw [e, if_neg (by decide : ¬ (9 : Int) = 0)] at this
        exact this
      rw [← e3 0 (by decide)] at F
      rw [if_neg Bool.false_ne_true]
      intro L
      refine c65_fn rfl rfl ?_
      repeat' (first | (with_reducible first | refine d_seq fun K hK => ?_ | (refine hK _ _ ?_; clear hK K) | (refine SG.p ?_; try intro b)) | refine i_c ?_ ?_ <;> intro hc <;> try simp only [push_cast, seval] at hc | refine i_x ?_ | clear hK K)
      refine i_clp C ?_
      repeat' (first | (with_reducible first | refine d_seq fun K hK => ?_ | (refine hK _ _ ?_; clear hK K) | (refine SG.p ?_; try intro b)) | refine i_c ?_ ?_ <;> intro hc <;> try simp only [push_cast, seval] at hc | refine i_x ?_ | clear hK K)
      all_goals try (first | contradiction | (simp only [ reduceCtorEq] at *; done) | (exfalso; omega))
      refine d_lp [0, 1, 8, 9, 10, 11, 23] (fun _ : Unit => [(0, .pointer (some ⟨S.q, 0, none⟩)), (1, .int .i64 (p : Int)), (8, str []), (9, str []), (10, .bool false), (11, .bool true), (23, .int .i64 0)])
        (fun _ => spt S Z.sb :: dk Z :: L) (fun _ => True) (fun _ => 0) () rfl SX.p trivial ?_
      intro _ _
      repeat' (first | (with_reducible first | refine d_seq fun K hK => ?_ | (refine hK _ _ ?_; clear hK K) | (refine SG.p ?_; try intro b)) | refine i_c ?_ ?_ <;> intro hc <;> try simp only [push_cast, seval] at hc | refine i_x ?_ | clear hK K)
      all_goals try (first | contradiction | (simp only [ reduceCtorEq] at *; done) | (exfalso; omega))
      repeat' (first | (with_reducible first | refine d_seq fun K hK => ?_ | (refine hK _ _ ?_; clear hK K) | (refine SG.p ?_; try intro b) | refine SP.p ?_) | refine i_c ?_ ?_ <;> intro hc <;> try simp only [push_cast, seval] at hc | refine i_x ?_ | clear hK K)
      refine i_clp F ?_
      repeat' (first | (with_reducible first | refine d_seq fun K hK => ?_ | (refine hK _ _ ?_; clear hK K) | (refine SG.p ?_; try intro b) | refine SP.p ?_) | refine i_c ?_ ?_ <;> intro hc <;> try simp only [push_cast, seval] at hc | refine i_x ?_ | clear hK K)
      all_goals try (first | contradiction | (simp only [ reduceCtorEq] at *; done) | (exfalso; omega))
      (with_reducible first | apply i_ret0 | apply i_ret2 | apply i_ret3 | apply i_ret); exact rfl
      rfl
    · have F : ∀ i : Nat, i < 4 → Fp (eT2 eS eI) Tryz.prog 22 #[.pointer (some ⟨Z.sb, 0, none⟩), .int .i64 ((a + i : Nat) : Int)] [dk Z] (Z.sc a i, 0) := fun i hi => by
        have := F31 Z h ((a + i : Nat) : Int)
        have e : Z.chk ((a + i : Nat) : Int) = 0 := by unfold Dk.chk; rw [hu, if_neg (by simp), if_neg (by omega)]
        rw [e, if_pos rfl] at this
        exact this
      have Ln : ∀ i : Nat, i < 4 → (Z.sc a i).length = 64 := fun i hi => by
        refine Dk.get_len h ?_
        unfold Dk.chk; rw [hu, if_neg (by simp), if_neg (by omega)]
      rw [if_pos rfl]
      intro L
      refine c65_fn rfl rfl ?_
      repeat' (first | (with_reducible first | refine d_seq fun K hK => ?_ | (refine hK _ _ ?_; clear hK K) | (refine SG.p ?_; try intro b)) | refine i_c ?_ ?_ <;> intro hc <;> try simp only [push_cast, seval] at hc | refine i_x ?_ | clear hK K)
      refine i_clp C ?_
      repeat' (first | (with_reducible first | refine d_seq fun K hK => ?_ | (refine hK _ _ ?_; clear hK K) | (refine SG.p ?_; try intro b)) | refine i_c ?_ ?_ <;> intro hc <;> try simp only [push_cast, seval] at hc | refine i_x ?_ | clear hK K)
      all_goals try (first | contradiction | (simp only [ reduceCtorEq] at *; done) | (exfalso; omega))
      refine d_lp [0, 1, 8, 9, 10, 11, 23] (fun i : Nat => [(0, .pointer (some ⟨S.q, 0, none⟩)), (1, .int .i64 (p : Int)), (8, str (Z.rtx a i)), (9, str (if i = 0 then [] else (Z.sc a 0).take 8)), (10, .bool (Z.rsm a S.gen i)), (11, .bool (Z.rwh a i)), (23, .int .i64 (i : Int))])
        (fun i => spt S Z.sb :: dk Z :: L) (fun i => i ≤ 4 ∧ (Z.rtx a i).length = 56 * i) (fun i => 4 - i) 0 rfl SX.p ⟨by omega, rfl⟩ ?_
      rintro i ⟨hi, ht⟩
      have Fi := F i
      have Li := Ln i
      have T1 : Z.rtx a (i + 1) = Z.rtx a i ++ (Z.sc a i).drop 8 := rfl
      have T2 : Z.rsm a S.gen (i + 1) = (Z.rsm a S.gen i || (be ((Z.sc a i).take 2) == S.gen)) := rfl
      have T3 : Z.rwh a (i + 1) = (Z.rwh a i && ((Z.sc a i).take 8 == (Z.sc a 0).take 8)) := rfl
      repeat' (first | (with_reducible first | refine d_seq fun K hK => ?_ | (refine hK _ _ ?_; clear hK K) | (refine SG.p ?_; try intro b)) | refine i_c ?_ ?_ <;> intro hc <;> try simp only [push_cast, seval] at hc | refine i_x ?_ | clear hK K)
      · repeat' (first | (with_reducible first | refine d_seq fun K hK => ?_ | (refine hK _ _ ?_; clear hK K) | (refine SG.p ?_; try intro b) | refine SP.p ?_) | refine i_c ?_ ?_ <;> intro hc <;> try simp only [push_cast, seval] at hc | refine i_x ?_ | clear hK K)
        rw [e3 i (by omega)]
        refine i_clp (Fi (by omega)) ?_
        repeat' ((fail_if_success with_reducible refine (id : E _ (D _ (.seq (.seq _ _) _) _ _) → E _ (D _ (.seq (.seq _ _) _) _ _)) ?_); first | (with_reducible first | refine d_seq fun K hK => ?_ | (refine hK _ _ ?_; clear hK K) | (refine SG.p ?_; try intro b) | refine SP.p ?_) | refine i_c ?_ ?_ <;> intro hc <;> try simp only [push_cast, seval] at hc | refine i_x ?_ | clear hK K)
        first | (with_reducible first | refine d_seq fun K hK => ?_ | (refine hK _ _ ?_; clear hK K) | (refine SG.p ?_; try intro b) | refine SP.p ?_) | refine i_c ?_ ?_ <;> intro hc <;> try simp only [push_cast, seval] at hc | refine i_x ?_ | clear hK K
        repeat' ((fail_if_success with_reducible refine (id : E _ (D _ (.seq (.seq _ _) _) _ _) → E _ (D _ (.seq (.seq _ _) _) _ _)) ?_); first | (with_reducible first | refine d_seq fun K hK => ?_ | (refine hK _ _ ?_; clear hK K) | (refine SG.p ?_; try intro b) | refine SP.p ?_) | refine i_c ?_ ?_ <;> intro hc <;> try simp only [push_cast, seval] at hc | refine i_x ?_ | clear hK K)
        all_goals try (first | contradiction | (simp only [ reduceCtorEq] at *; done) | (exfalso; omega))
        first | (with_reducible first | refine d_seq fun K hK => ?_ | (refine hK _ _ ?_; clear hK K) | (refine SG.p ?_; try intro b) | refine SP.p ?_) | refine i_c ?_ ?_ <;> intro hc <;> try simp only [push_cast, seval] at hc | refine i_x ?_ | clear hK K
        have hL := Li (by omega)
        have fin : ∀ (tl : Env), E (spt S Z.sb :: dk Z :: L) (K ((0, .pointer (some ⟨S.q, 0, none⟩)) :: (1, .int .i64 (p : Int)) :: (8, str (Z.rtx a i)) :: (9, str ((Z.sc a 0).take 8)) :: (10, .bool (Z.rsm a S.gen i)) :: (11, .bool (Z.rwh a i)) :: (13, str (Z.sc a i)) :: (23, .int .i64 (i : Int)) :: tl)) := by
          intro tl
          generalize Z.sc a i = s at *
          generalize Z.sc a 0 = s0 at *
          generalize Z.rtx a i = tx at *
          generalize Z.rsm a S.gen i = sm at *
          generalize Z.rwh a i = wl at *
          refine hK _ _ ?_; clear hK K
          repeat' (first | (with_reducible first | refine d_seq fun K hK => ?_ | (refine hK _ _ ?_; clear hK K) | (refine SG.p ?_; try intro b)) | refine i_c ?_ ?_ <;> intro hc <;> try simp only [push_cast, seval] at hc | refine i_x ?_ | clear hK K)
          refine i_cal (f72 s) ?_
          rintro y X ⟨rb, rfl, rfl⟩
          have N := num_go rb s 0 2 (by omega) (by omega) (by omega) (by omega)
          rw [List.drop_zero] at N
          repeat' (first | (with_reducible first | refine d_seq fun K hK => ?_ | (refine hK _ _ ?_; clear hK K) | (refine SG.p ?_; try intro b)) | refine i_c ?_ ?_ <;> intro hc <;> try simp only [push_cast, seval] at hc | refine i_x ?_ | clear hK K)
          refine r_ph [spt S Z.sb] ?_ ?_
          · exact SX.p
          repeat' (first | (with_reducible first | refine d_seq fun K hK => ?_ | (refine hK _ _ ?_; clear hK K) | (refine SG.p ?_; try intro b) | refine SP.p ?_) | refine i_c ?_ ?_ <;> intro hc <;> try simp only [push_cast, seval] at hc | refine i_x ?_ | clear hK K)
          all_goals try (refine i_clq N ?_)
          repeat' (first | rw [ss_08] | rw [ss_8n] | first | (with_reducible first | refine d_seq fun K hK => ?_ | (refine hK _ _ ?_; clear hK K) | (refine SG.p ?_; try intro b) | refine SP.p ?_) | refine i_c ?_ ?_ <;> intro hc <;> try simp only [push_cast, seval] at hc | refine i_x ?_ | clear hK K)
          all_goals try (exfalso; omega)
          all_goals
            refine r_rq (by rw [List.length_drop]; omega) ?_
            repeat' (first | (with_reducible first | refine d_seq fun K hK => ?_ | (refine hK _ _ ?_; clear hK K) | (refine SG.p ?_; try intro b) | refine SP.p ?_) | refine i_c ?_ ?_ <;> intro hc <;> try simp only [push_cast, seval] at hc | refine i_x ?_ | clear hK K)
            rw [w64 (by omega) (by omega)]
            refine i_bk (i + 1) ?_ ⟨by omega, by rw [T1, List.length_append, List.length_drop]; omega⟩ (by omega)
            simp only [go_sem, Nat.reduceEqDiff]
            rw [T1, T2, T3]
            simp [*, nbeq]
        by_cases hi0 : i = 0
        · subst hi0
          rw [if_pos rfl]
          repeat' ((fail_if_success with_reducible refine (id : E _ (D _ (.seq (.seq _ _) _) _ _) → E _ (D _ (.seq (.seq _ _) _) _ _)) ?_); first | (with_reducible first | refine d_seq fun K hK => ?_ | (refine hK _ _ ?_; clear hK K) | (refine SG.p ?_; try intro b) | refine SP.p ?_) | refine i_c ?_ ?_ <;> intro hc <;> try simp only [push_cast, seval] at hc | refine i_x ?_ | clear hK K)
          all_goals try (exfalso; omega)
          all_goals try (first | contradiction | (simp only [ reduceCtorEq] at *; done) | (exfalso; omega))
          rw [ss_08]
          exact fin []
        · rw [if_neg hi0]
          repeat' ((fail_if_success with_reducible refine (id : E _ (D _ (.seq (.seq _ _) _) _ _) → E _ (D _ (.seq (.seq _ _) _) _ _)) ?_); first | (with_reducible first | refine d_seq fun K hK => ?_ | (refine hK _ _ ?_; clear hK K) | (refine SG.p ?_; try intro b) | refine SP.p ?_) | refine i_c ?_ ?_ <;> intro hc <;> try simp only [push_cast, seval] at hc | refine i_x ?_ | clear hK K)
          all_goals try (exfalso; omega)
          exact fin [_]
      all_goals
        obtain rfl : i = 4 := by omega
      · (with_reducible first | apply i_ret0 | apply i_ret2 | apply i_ret3 | apply i_ret); exact rfl
        rw [if_neg (by rw [show Z.rsm a S.gen 4 = false by assumption]; decide)]
      · have h1 : Z.rsm a S.gen 4 = true := by assumption
        (with_reducible first | apply i_ret0 | apply i_ret2 | apply i_ret3 | apply i_ret); exact rfl
        rw [if_pos h1, if_neg (by rw [show Z.rwh a 4 = false by assumption]; decide)]
      · have h1 : Z.rsm a S.gen 4 = true := by assumption
        have h2 : Z.rwh a 4 = true := by assumption
        have l0 := Ln 0 (by decide)
        rw [if_neg (by decide)]
        generalize Z.sc a 0 = s0 at *
        have hl8 : (s0.take 8).length = 8 := by simp; omega
        generalize s0.take 8 = m at *
        refine i_cal (f72 m) ?_
        rintro y X ⟨rb, rfl, rfl⟩
        repeat' (first | (with_reducible first | refine d_seq fun K hK => ?_ | (refine hK _ _ ?_; clear hK K) | (refine SG.p ?_; try intro b)) | refine i_c ?_ ?_ <;> intro hc <;> try simp only [push_cast, seval] at hc | refine i_x ?_ | clear hK K)
        refine i_clq (num_go rb m 0 2 (by omega) (by omega) (by omega) (by omega)) ?_
        repeat' (first | (with_reducible first | refine d_seq fun K hK => ?_ | (refine hK _ _ ?_; clear hK K) | (refine SG.p ?_; try intro b)) | refine i_c ?_ ?_ <;> intro hc <;> try simp only [push_cast, seval] at hc | refine i_x ?_ | clear hK K)
        refine i_clq (num_go rb m 2 6 (by omega) (by omega) (by omega) (by omega)) ?_
        repeat' (first | (with_reducible first | refine d_seq fun K hK => ?_ | (refine hK _ _ ?_; clear hK K) | (refine SG.p ?_; try intro b)) | refine i_c ?_ ?_ <;> intro hc <;> try simp only [push_cast, seval] at hc | refine i_x ?_ | clear hK K)
        (with_reducible first | apply i_ret0 | apply i_ret2 | apply i_ret3 | apply i_ret); exact rfl
        rw [if_pos h1, if_pos h2]
theorem f48 (S : St) (Z : Dk) (h : Z.ok) : Fq eI Tryz.prog 122 #[S.p] [spt S Z.sb, dk Z] [spt S Z.sb, dk Z.sync.2] Z.sync.1 := fun L => by
  have F := F28 Z h
  simp only [Dk.p] at F
  refine c122_fn rfl rfl ?_
  repeat' (first | (with_reducible first | refine d_seq fun K hK => ?_ | (refine hK _ _ ?_; clear hK K) | (refine SG.p ?_; try intro b)) | refine i_c ?_ ?_ <;> intro hc <;> try simp only [push_cast, seval] at hc | refine i_x ?_ | clear hK K)
  refine i_clq F ?_
  repeat' (first | (with_reducible first | refine d_seq fun K hK => ?_ | (refine hK _ _ ?_; clear hK K) | (refine SG.p ?_; try intro b)) | refine i_c ?_ ?_ <;> intro hc <;> try simp only [push_cast, seval] at hc | refine i_x ?_ | clear hK K)
  (with_reducible first | apply i_ret0 | apply i_ret2 | apply i_ret3 | apply i_ret); exact rfl
  rfl
theorem f53 (S : St) (Z : Dk) (h : Z.ok) (hS : S.ok Z.sure.length) (id lsn : Int) : Fp eB Tryz.prog 51 #[S.p, .int .i64 id, .int .i64 lsn] [spt S Z.sb, dk Z] (decide ((Z.rpg S id).2.2 = 0) && (Z.rpg S id).2.1 == lsn) := fun L => by
  have F := f49 S Z h hS id
  generalize Z.rpg S id = r at *
  obtain ⟨t, n, e⟩ := r
  refine c51_fn rfl rfl ?_
  repeat' (first | (with_reducible first | refine d_seq fun K hK => ?_ | (refine hK _ _ ?_; clear hK K) | (refine SG.p ?_; try intro b)) | refine i_c ?_ ?_ <;> intro hc <;> try simp only [push_cast, seval] at hc | refine i_x ?_ | clear hK K)
  refine i_clp F ?_
  repeat' (first | (with_reducible first | refine d_seq fun K hK => ?_ | (refine hK _ _ ?_; clear hK K) | (refine SG.p ?_; try intro b)) | refine i_c ?_ ?_ <;> intro hc <;> try simp only [push_cast, seval] at hc | refine i_x ?_ | clear hK K)
  all_goals ((with_reducible first | apply i_ret0 | apply i_ret2 | apply i_ret3 | apply i_ret); exact rfl; simp [*])
theorem f51 (Z : Dk) (h : Z.ok) (base pages gen : Int) (w1 : wf64 base) (w2 : wf64 pages) (w3 : wf64 gen) :
    Fn (eT2 eP eI) Tryz.prog 88 #[.pointer (some ⟨Z.sb, 0, none⟩), .int .i64 base, .int .i64 pages, .int .i64 gen] [dk Z] fun y X =>
      if gen < 1 ∨ 65535 < gen ∨ base < 0 ∨ pages < 1 ∨ 200 < pages then X = [dk Z] ∧ y = (none, 1)
      else if (Z.sure.length : Int) < base ∨ (Z.sure.length : Int) - base < 4 * pages then X = [dk Z] ∧ y = (none, 6)
      else ∃ S : St, base = (S.base : Int) ∧ pages = (S.pages : Int) ∧ gen = (S.gen : Int) ∧ S.ok Z.sure.length ∧ y = (some ⟨S.q, 0, none⟩, 0) ∧ X = [spt S Z.sb, dk Z] := fun L => by
  have F := F26 Z h
  have hn := h.n1
  simp only [Dk.p] at F
  unfold wf64 at w1 w2 w3
  refine c88_fn rfl rfl ?_
  by_cases hA : gen < 1 ∨ 65535 < gen ∨ base < 0 ∨ pages < 1 ∨ 200 < pages
  · simp only [hA, if_true]
    repeat' (first | (with_reducible first | refine d_seq fun K hK => ?_ | (refine hK _ _ ?_; clear hK K) | (refine SG.p ?_; try intro b)) | refine i_c ?_ ?_ <;> intro hc <;> try simp only [push_cast, seval] at hc | refine i_x ?_ | clear hK K)
    all_goals try (exfalso; omega)
    all_goals exact i_done (e := eT2 eP eI) (none, 1) [dk Z] rfl ⟨rfl, rfl⟩
  · simp only [hA, if_false]
    by_cases hB : (Z.sure.length : Int) < base ∨ (Z.sure.length : Int) - base < 4 * pages
    · simp only [hB, if_true]
      repeat' (first | (with_reducible first | refine d_seq fun K hK => ?_ | (refine hK _ _ ?_; clear hK K) | (refine SG.p ?_; try intro b)) | refine i_c ?_ ?_ <;> intro hc <;> try simp only [push_cast, seval] at hc | refine i_x ?_ | clear hK K)
      all_goals try (exfalso; omega)
      refine i_clp F ?_
      repeat' (first | (with_reducible first | refine d_seq fun K hK => ?_ | (refine hK _ _ ?_; clear hK K) | (refine SG.p ?_; try intro b)) | refine i_c ?_ ?_ <;> intro hc <;> try simp only [push_cast, seval] at hc | refine i_x ?_ | clear hK K)
      all_goals try (exfalso; omega)
      · exact i_done (e := eT2 eP eI) (none, 6) [dk Z] rfl ⟨rfl, rfl⟩
      · refine i_clp F ?_
        rw [w64 (by omega) (by omega), w64 (by omega) (by omega)]
        repeat' (first | (with_reducible first | refine d_seq fun K hK => ?_ | (refine hK _ _ ?_; clear hK K) | (refine SG.p ?_; try intro b)) | refine i_c ?_ ?_ <;> intro hc <;> try simp only [push_cast, seval] at hc | refine i_x ?_ | clear hK K)
        all_goals try (exfalso; omega)
        exact i_done (e := eT2 eP eI) (none, 6) [dk Z] rfl ⟨rfl, rfl⟩
    · simp only [hB, if_false]
      repeat' (first | (with_reducible first | refine d_seq fun K hK => ?_ | (refine hK _ _ ?_; clear hK K) | (refine SG.p ?_; try intro b)) | refine i_c ?_ ?_ <;> intro hc <;> try simp only [push_cast, seval] at hc | refine i_x ?_ | clear hK K)
      all_goals try (exfalso; omega)
      refine i_clp F ?_
      repeat' (first | (with_reducible first | refine d_seq fun K hK => ?_ | (refine hK _ _ ?_; clear hK K) | (refine SG.p ?_; try intro b)) | refine i_c ?_ ?_ <;> intro hc <;> try simp only [push_cast, seval] at hc | refine i_x ?_ | clear hK K)
      all_goals try (exfalso; omega)
      refine i_clp F ?_
      rw [w64 (by omega) (by omega), w64 (by omega) (by omega)]
      repeat' (first | (with_reducible first | refine d_seq fun K hK => ?_ | (refine hK _ _ ?_; clear hK K) | (refine SG.p ?_; try intro b)) | refine i_c ?_ ?_ <;> intro hc <;> try simp only [push_cast, seval] at hc | refine i_x ?_ | clear hK K)
      all_goals try (exfalso; omega)
      obtain ⟨m, rfl⟩ : ∃ m : Nat, base = (m : Int) := ⟨base.toNat, by omega⟩
      obtain ⟨n, rfl⟩ : ∃ m : Nat, pages = (m : Int) := ⟨pages.toNat, by omega⟩
      obtain ⟨g, rfl⟩ : ∃ m : Nat, gen = (m : Int) := ⟨gen.toNat, by omega⟩
      exact i_done (e := eT2 eP eI) (some ⟨b, 0, none⟩, 0) [spt ⟨b, m, n, g⟩ Z.sb, dk Z] rfl ⟨⟨b, m, n, g⟩, rfl, rfl, rfl, ⟨by dsimp only; omega, by dsimp only; omega, by dsimp only; omega, by dsimp only; omega, by dsimp only; omega, hn⟩, rfl, rfl⟩
def All (P : Nat → List UInt8 → Prop) (Z : Dk) : Prop := ∀ j, j < Z.sure.length → P j (wh (Z.sure.getD j [])) ∧ ∀ v, gk Z.es (j : Int) = some v → P j v
section
variable {P : Nat → List UInt8 → Prop} {Z : Dk}
theorem All.get (h : All P Z) {j : Nat} (hj : j < Z.sure.length) : P j (Z.get (j : Int)) := by
  obtain ⟨h1, h2⟩ := h j hj
  unfold Dk.get
  cases hg : gk Z.es (j : Int) with
  | none => simpa using h1
  | some v => simpa using h2 v hg
theorem All.of {Z' : Dk} (h : All P Z) (hs : Z'.sure = Z.sure) (he : Z'.es = Z.es) : All P Z' := by
  intro j hj
  rw [hs] at hj ⊢
  rw [he]
  exact h j hj
theorem All.off (hok : Z.ok) (h : All P Z) (keep : Int) : All P (Z.off keep) := by
  have hl := Dk.cutn_len Z keep Z.keys.length
  intro j hj
  have hj' : j < Z.sure.length := by rw [← hl]; exact hj
  refine ⟨?_, fun v hv => by cases hv⟩
  show P j (wh ((Z.cutn keep Z.keys.length).getD j []))
  rcases Dk.cut_or hok keep Z.keys.length (Nat.le_refl _) j with h1 | h1
  · rw [h1]; exact (h j hj').1
  · obtain ⟨x, hx, _, hv⟩ := gk_mem h1
    have h64 := hok.e64 x hx
    rw [hv] at h64
    rw [wh_full h64]
    exact (h j hj').2 _ h1
theorem All.act (hok : Z.ok) (h : All P Z) : All P Z.act.2 := by
  unfold Dk.act
  split
  · exact All.off hok h _
  · exact All.of h rfl rfl
theorem All.write (hok : Z.ok) (h : All P Z) {i : Nat} {s : List UInt8} (hp : s.length ≤ 64 → P i (wh s)) : All P (Z.write (i : Int) s).2 := by
  have ha := All.act hok h
  unfold Dk.write
  split
  · split
    · exact h
    · rename_i hs
      split
      · intro j hj
        refine ⟨(ha j hj).1, fun v hv => ?_⟩
        have e : gk (Z.act.2.put (i : Int) (wh s)).es (j : Int) = if (i : Int) = (j : Int) then some (wh s) else gk Z.act.2.es (j : Int) := gk_pk _ _ _ _ _
        rw [e] at hv
        by_cases hij : (i : Int) = (j : Int)
        · rw [if_pos hij] at hv
          have : i = j := by omega
          subst this
          simp only [Option.some.injEq] at hv
          rw [← hv]
          exact hp (by omega)
        · rw [if_neg hij] at hv
          exact (ha j hj).2 v hv
      · exact ha
  · exact h
theorem All.flush (hok : Z.ok) (h : All P Z) : All P Z.flush := by
  intro j hj
  have hj' : j < Z.sure.length := by rw [← sy_len Z.es Z.sure]; exact hj
  refine ⟨?_, fun v hv => by cases hv⟩
  have e := Dk.flush_get hok hj'
  have e2 : Z.flush.get (j : Int) = wh (Z.flush.sure.getD j []) := by
    unfold Dk.get
    simp [Dk.flush, gk]
  rw [← e2, e]
  exact h.get hj'
theorem All.sync (hok : Z.ok) (h : All P Z) : All P Z.sync.2 := by
  have ha := All.act hok h
  unfold Dk.sync
  split
  · split
    · exact All.flush (Dk.act_ok hok) ha
    · exact ha
  · exact h
theorem All.wp (hok : Z.ok) (h : All P Z) {a : Nat} {m text : List UInt8} (hm : m.length = 8) (ht : text.length = 224) (hp : ∀ i, i < 4 → P (a + i) (m ++ pt text i)) : ∀ k, k ≤ 4 → All P (Z.wp a m text k).2
  | 0, _ => h
  | k + 1, hk => by
    have ih := All.wp hok h hm ht hp k (by omega)
    have h1 := (Dk.wp_ok hok a m text k).1
    unfold Dk.wp
    split
    · refine All.write h1 ih fun _ => ?_
      rw [wh_full (by rw [List.length_append, pt_len ht (by omega)]; omega)]
      exact hp k (by omega)
    · exact ih
theorem All.wpg {S : St} (hok : Z.ok) (h : All P Z) {id : Int} {text : List UInt8} {lsn : Int} (hp : ∀ p : Nat, id = (p : Int) → p < S.pages → text.length = 224 → 0 ≤ lsn → lsn < 281474976710656 → ∀ i, i < 4 → P (S.base + 4 * p + i) (mk8 S.gen lsn ++ pt text i)) : All P (Z.wpg S id text lsn).2 := by
  unfold Dk.wpg
  split
  · rename_i hc
    obtain ⟨p, rfl, hlt⟩ := St.chk_in hc
    split
    · rename_i ht
      split
      · exact h
      · rw [Int.toNat_natCast]
        exact All.wp hok h (mk8_len _ _) ht (hp p rfl hlt ht (by omega) (by omega)) 4 (Nat.le_refl _)
    · exact h
  · exact h
end
theorem Dk.write_n (Z : Dk) (i : Int) (s : List UInt8) : (Z.write i s).2.sure.length = Z.sure.length := by
  have := Dk.act_len Z
  unfold Dk.write
  split
  · split
    · rfl
    · split
      · exact this
      · exact this
  · rfl
theorem Dk.sync_n (Z : Dk) : Z.sync.2.sure.length = Z.sure.length := by
  have := Dk.act_len Z
  unfold Dk.sync
  split
  · split
    · exact (sy_len _ _).trans this
    · exact this
  · rfl
theorem Dk.wp_n (Z : Dk) (a : Nat) (m text : List UInt8) : ∀ k, (Z.wp a m text k).2.sure.length = Z.sure.length
  | 0 => rfl
  | k + 1 => by
    have ih := Dk.wp_n Z a m text k
    unfold Dk.wp
    split
    · rw [Dk.write_n]; exact ih
    · exact ih
theorem Dk.wpg_same {Z : Dk} (h : Z.ok) (S : St) (id : Int) (text : List UInt8) (lsn : Int) : (Z.wpg S id text lsn).2.ok ∧ (Z.wpg S id text lsn).2.sb = Z.sb ∧ (Z.wpg S id text lsn).2.sure.length = Z.sure.length := by
  unfold Dk.wpg
  split
  · split
    · split
      · exact ⟨h, rfl, rfl⟩
      · obtain ⟨a, b⟩ := Dk.wp_ok h (S.base + 4 * id.toNat) (mk8 S.gen lsn) text 4
        exact ⟨a, b, Dk.wp_n _ _ _ _ _⟩
    · exact ⟨h, rfl, rfl⟩
  · exact ⟨h, rfl, rfl⟩
theorem Dk.calm.wp {Z : Dk} {sb n : Nat} (h : Z.calm sb n) {a : Nat} (ha : a + 4 ≤ n) {m text : List UInt8} (hm : m.length = 8) (ht : text.length = 224) : ∀ k, k ≤ 4 → (Z.wp a m text k).1 = 0 ∧ (Z.wp a m text k).2.calm sb n ∧ (Z.wp a m text k).2.sure = Z.sure ∧
    ∀ j : Nat, gk (Z.wp a m text k).2.es (j : Int) = if a ≤ j ∧ j < a + k then some (m ++ pt text (j - a)) else gk Z.es (j : Int)
  | 0, _ => ⟨rfl, h, rfl, fun j => by rw [if_neg (by omega)]; rfl⟩
  | k + 1, hk => by
    obtain ⟨h1, h2, h3, h4⟩ := Dk.calm.wp h ha hm ht k (by omega)
    have hpl := pt_len ht (i := k) (by omega)
    have hl : (m ++ pt text k).length = 64 := by rw [List.length_append]; omega
    obtain ⟨w1, w2, w3, w4, w5⟩ := h2.write (i := a + k) (by omega) (by omega : (m ++ pt text k).length ≤ 64)
    have e : Z.wp a m text (k + 1) = (Z.wp a m text k).2.write ((a + k : Nat) : Int) (m ++ pt text k) := by show ite _ _ _ = _; rw [if_pos h1]
    rw [e]
    refine ⟨w1, w2, w3.trans h3, fun j => ?_⟩
    rw [w5, h4, wh_full hl]
    by_cases hj : a + k = j
    · rw [if_pos (by omega), if_pos ⟨by omega, by omega⟩]
      have : j - a = k := by omega
      rw [this]
    · rw [if_neg (by omega)]
      by_cases hc : a ≤ j ∧ j < a + k
      · rw [if_pos hc, if_pos ⟨hc.1, by omega⟩]
      · rw [if_neg hc, if_neg (by omega)]
theorem pt_all {text : List UInt8} (ht : text.length = 224) : pt text 0 ++ pt text 1 ++ pt text 2 ++ pt text 3 = text := by
  have g : ∀ a w : Nat, text.take a ++ (text.drop a).take w = text.take (a + w) := fun a w => by rw [List.take_add]
  unfold pt
  rw [Nat.mul_zero, List.drop_zero, g, g, g, List.take_of_length_le (by omega)]
theorem mk8_gen {gen : Nat} (hg : gen < 65536) (lsn : Int) : be ((mk8 gen lsn).take 2) = gen := by
  have e : (mk8 gen lsn).take 2 = lowb (gen : Int) 2 := by
    unfold mk8
    rw [List.take_left' (lowb_len _ _)]
  rw [e]
  have := be_fits (n := (gen : Int)) (w := 2) (by omega) (by rw [p2562]; omega)
  omega
theorem mk8_lsn (gen : Nat) {lsn : Int} (h0 : 0 ≤ lsn) (h1 : lsn < 281474976710656) : (be (((mk8 gen lsn).drop 2).take 6) : Int) = lsn := by
  have e : ((mk8 gen lsn).drop 2).take 6 = lowb lsn 6 := by
    unfold mk8
    rw [List.drop_left' (lowb_len _ _), List.take_of_length_le (by rw [lowb_len]; omega)]
  rw [e]
  exact be_fits h0 (by rw [p2566]; exact h1)
theorem sc_parts {m u : List UInt8} (hm : m.length = 8) : (m ++ u).take 8 = m ∧ (m ++ u).drop 8 = u ∧ (m ++ u).take 2 = m.take 2 := by
  refine ⟨List.take_left' hm, List.drop_left' hm, ?_⟩
  rw [List.take_append_of_le_length (by omega)]
theorem rpg_of {Z : Dk} {S : St} {n p : Nat} (hS : S.ok n) (hp : p < S.pages) (hu : Z.up = true) {text : List UInt8} (ht : text.length = 224) {lsn : Int} (h0 : 0 ≤ lsn) (h1 : lsn < 281474976710656)
    (hs : ∀ i, i < 4 → Z.sc (S.base + 4 * p) i = mk8 S.gen lsn ++ pt text i) : Z.rpg S (p : Int) = (text, lsn, 0) := by
  have hc : S.chk (p : Int) = 0 := by unfold St.chk; rw [if_neg (by omega)]
  have hm := mk8_len S.gen lsn
  have hg := mk8_gen hS.g2 lsn
  have hq := mk8_lsn S.gen h0 h1
  unfold Dk.rpg
  rw [if_pos hc, hu, if_pos rfl, Int.toNat_natCast]
  generalize S.base + 4 * p = a at *
  have s0 := hs 0 (by decide)
  have s1 := hs 1 (by decide)
  have s2 := hs 2 (by decide)
  have s3 := hs 3 (by decide)
  have q0 := sc_parts (m := mk8 S.gen lsn) (u := pt text 0) hm
  have q1 := sc_parts (m := mk8 S.gen lsn) (u := pt text 1) hm
  have q2 := sc_parts (m := mk8 S.gen lsn) (u := pt text 2) hm
  have q3 := sc_parts (m := mk8 S.gen lsn) (u := pt text 3) hm
  have e1 : Z.rsm a S.gen 4 = true := by
    simp only [Dk.rsm]
    rw [s0, q0.2.2, hg]
    simp
  have e2 : Z.rwh a 4 = true := by
    simp only [Dk.rwh]
    rw [s0, s1, s2, s3, q0.1, q1.1, q2.1, q3.1]
    simp
  have e3 : Z.rtx a 4 = text := by
    simp only [Dk.rtx]
    rw [s0, s1, s2, s3, q0.2.1, q1.2.1, q2.2.1, q3.2.1]
    simpa using pt_all ht
  rw [e1, e2, e3, if_pos rfl, if_pos rfl, s0, q0.1, hq]
def part (s : List UInt8) (i : Nat) : List UInt8 := (s.drop (58 * i)).take 58
theorem part_le (s : List UInt8) (i : Nat) : (part s i).length ≤ 58 := by unfold part; rw [List.length_take]; omega
def Lg.sec (G : Lg) (i : Nat) : List UInt8 := lowb (G.run : Int) 4 ++ lowb ((part G.all i).length : Int) 2 ++ part G.all i
def Dk.lw (Z : Dk) (G : Lg) (i : Nat) : Int × Dk := if G.sectors ≤ i then (0, Z) else Z.write ((G.base + i : Nat) : Int) (G.sec i)
theorem min_part (s : List UInt8) (i : Nat) (hs : s.length ≤ 1000000) (hi : i ≤ 8192) :
    (if (s.length : Int) < (i : Int) * 58 then (s.length : Int) else (i : Int) * 58) = ((min (58 * i) s.length : Nat) : Int) := by
  split <;> omega
theorem ss_part (s : List UInt8) (i : Nat) : ss s ((min (58 * i) s.length : Nat) : Int) ((min (58 * (i + 1)) s.length : Nat) : Int) = part s i := by
  unfold ss part
  simp only [Int.toNat_natCast]
  rcases Nat.lt_or_ge (58 * i) s.length with h | h
  · rw [show min (58 * i) s.length = 58 * i by omega]
    rcases Nat.lt_or_ge (58 * (i + 1)) s.length with h2 | h2
    · rw [show min (58 * (i + 1)) s.length = 58 * i + 58 by omega, List.drop_take]
      congr 1
      omega
    · rw [show min (58 * (i + 1)) s.length = s.length by omega, List.take_length, List.take_of_length_le (by rw [List.length_drop]; omega)]
  · rw [show min (58 * i) s.length = s.length by omega, show min (58 * (i + 1)) s.length = s.length by omega, List.take_length, List.drop_length, List.drop_eq_nil_of_le h]
    rfl
theorem layN_go {s : List UInt8} {n : Int} {w : Nat} (h : fitN n w) : layN (s, 0) n w = (s ++ lowb n w, 0) := by
  have h' : ¬ (n < 0 ∨ ((256 ^ w : Nat) : Int) ≤ n) := by
    have h1 := h.1
    have h2 := h.2
    omega
  have e : putN s n w = (s ++ lowb n w, 0) := if_neg h'
  unfold layN lay1
  rw [if_neg (by simp), e, if_neg (by simp)]
theorem fit4 {n : Nat} (h : n < 4294967296) : fitN (n : Int) 4 := ⟨by omega, by rw [show ((256 ^ 4 : Nat) : Int) = 4294967296 by decide]; omega⟩
theorem sec_w (G : Lg) (i : Nat) (h1 : G.run < 4294967296) : layN (layN ([], 0) (G.run : Int) 4) ((part G.all i).length : Int) 2 = (lowb (G.run : Int) 4 ++ lowb ((part G.all i).length : Int) 2, 0) := by
  have hp := part_le G.all i
  rw [layN_go (fit4 h1), layN_go (fit2 (by omega))]
  rfl
theorem g77 (G : Lg) (Z : Dk) (h : Z.ok) (hG : G.ok Z.sure.length) (i : Nat) (hi : i ≤ 8192) : Fq eI Tryz.prog 77 #[G.p, .int .i64 (i : Int)] [lgp G Z.sb, dk Z] [lgp G Z.sb, dk (Z.lw G i).2] (Z.lw G i).1 := fun L => by
  have hfit := hG.fit
  have hn1 := hG.n1
  have hle := hG.le
  have F := F27 Z h ((G.base + i : Nat) : Int) (G.sec i)
  have hp := part_le G.all i
  simp only [Dk.p] at F
  unfold Dk.lw Lg.sec
  refine c77_fn rfl rfl ?_
  by_cases h1 : G.sectors ≤ i
  · rw [if_pos h1]
    repeat' (first | (with_reducible first | refine d_seq fun K hK => ?_ | (refine hK _ _ ?_; clear hK K) | (refine SG.p ?_; try intro b)) | refine i_c ?_ ?_ <;> intro hc <;> try simp only [push_cast, seval] at hc | refine i_x ?_ | clear hK K)
    all_goals try (exfalso; omega)
    (with_reducible first | apply i_ret0 | apply i_ret2 | apply i_ret3 | apply i_ret); exact rfl
    rfl
  · rw [if_neg h1]
    have W := sec_w G i hG.r2
    have m1 := min_part G.all i (by omega) hi
    have m2 := min_part G.all (i + 1) (by omega) (by omega)
    have e1 : IntKind.wrap .i64 ((i : Int) * 58) = (i : Int) * 58 := w64 (by omega) (by omega)
    have e2 : IntKind.wrap .i64 (IntKind.wrap .i64 ((i : Int) + 1) * 58) = ((i + 1 : Nat) : Int) * 58 := by rw [w64 (n := (i : Int) + 1) (by omega) (by omega), w64 (by omega) (by omega)]; omega
    have e3 : IntKind.wrap .i64 ((G.base : Int) + (i : Int)) = ((G.base + i : Nat) : Int) := by rw [w64 (by omega) (by omega)]; omega
    have l1 := layN_len ([], 0) (G.run : Int) 4
    unfold Lg.sec at F
    repeat' (first | (with_reducible first | refine d_seq fun K hK => ?_ | (refine hK _ _ ?_; clear hK K) | (refine SG.p ?_; try intro b)) | refine i_c ?_ ?_ <;> intro hc <;> try simp only [push_cast, seval] at hc | refine i_x ?_ | clear hK K)
    all_goals try (exfalso; omega)
    refine r_ph0 ?_
    repeat' (first | rw [e1] | rw [e2] | rw [m1] | rw [m2] | rw [ss_part] | first | (with_reducible first | refine d_seq fun K hK => ?_ | (refine hK _ _ ?_; clear hK K) | (refine SG.p ?_; try intro b)) | refine i_c ?_ ?_ <;> intro hc <;> try simp only [push_cast, seval] at hc | refine i_x ?_ | clear hK K)
    refine i_clq (gN b ([], 0) (G.run : Int) 4 (by decide) (by decide) (by decide)) ?_
    repeat' (first | (with_reducible first | refine d_seq fun K hK => ?_ | (refine hK _ _ ?_; clear hK K) | (refine SG.p ?_; try intro b)) | refine i_c ?_ ?_ <;> intro hc <;> try simp only [push_cast, seval] at hc | refine i_x ?_ | clear hK K)
    refine i_clq (gN b (layN ([], 0) (G.run : Int) 4) ((part G.all i).length : Int) 2 (by decide) (by decide) (by dsimp only [List.length_nil] at l1; omega)) ?_
    rw [W]
    repeat' (first | (with_reducible first | refine d_seq fun K hK => ?_ | (refine hK _ _ ?_; clear hK K) | (refine SG.p ?_; try intro b)) | refine i_c ?_ ?_ <;> intro hc <;> try simp only [push_cast, seval] at hc | refine i_x ?_ | clear hK K)
    refine i_clp (f96 b (lowb (G.run : Int) 4 ++ lowb ((part G.all i).length : Int) 2, 0)) ?_
    have q4 := lowb_len (G.run : Int) 4
    have q2 := lowb_len ((part G.all i).length : Int) 2
    repeat' (first | (with_reducible first | refine d_seq fun K hK => ?_ | (refine hK _ _ ?_; clear hK K) | (refine SG.p ?_; try intro b)) | refine i_c ?_ ?_ <;> intro hc <;> try simp only [push_cast, seval] at hc | refine i_x ?_ | clear hK K)
    refine r_ph [lgp G Z.sb] SX.p ?_
    repeat' (first | (with_reducible first | refine d_seq fun K hK => ?_ | (refine hK _ _ ?_; clear hK K) | (refine SG.p ?_; try intro b)) | refine i_c ?_ ?_ <;> intro hc <;> try simp only [push_cast, seval] at hc | refine i_x ?_ | clear hK K)
    refine r_rq (by rw [List.length_append]; omega) ?_
    rw [e3]
    refine i_clq F ?_
    repeat' (first | (with_reducible first | refine d_seq fun K hK => ?_ | (refine hK _ _ ?_; clear hK K) | (refine SG.p ?_; try intro b)) | refine i_c ?_ ?_ <;> intro hc <;> try simp only [push_cast, seval] at hc | refine i_x ?_ | clear hK K)
    (with_reducible first | apply i_ret0 | apply i_ret2 | apply i_ret3 | apply i_ret); exact rfl
    rfl
theorem Dk.lw_ok {Z : Dk} (h : Z.ok) (G : Lg) (i : Nat) : (Z.lw G i).2.ok ∧ (Z.lw G i).2.sb = Z.sb ∧ (Z.lw G i).2.sure.length = Z.sure.length := by
  unfold Dk.lw Lg.sec
  split
  · exact ⟨h, rfl, rfl⟩
  · exact ⟨Dk.write_ok h _ _, Dk.write_sb _ _ _, Dk.write_n _ _ _⟩
section
variable {L : List HP} {b : Nat} {p : Option Addr} {s : SlV} {l t : List UInt8}
theorem bld_size {w : World} {T e : TypeId} {bs : List Value} (h : Holds w (bld b T e p s bs ++ L)) : b ≤ w.heap.size := by
  have h1 : Holds w (ar b T [.pointer p, .slice s.1 s.2.1 s.2.2] :: (ow e 1 s bs :: L)) := h
  have hg := Holds.get h1
  rcases Nat.lt_or_ge b w.heap.size with h | h
  · omega
  · rw [Array.getElem?_eq_none h] at hg; cases hg
theorem r_ws {k : Int × Value → W} (hL : ∀ A ∈ L, Low b A) (hp : p = none ∨ p = some ⟨b, 0, none⟩) (hs : ∀ g, s.1 = some g → b < g.block) (hlen : l.length + t.length ≤ 140737488355328)
    (hk : ∀ s' : SlV, (∀ g, s'.1 = some g → b < g.block) → E (bld b 144 5 (some ⟨b, 0, none⟩) s' (cb (l ++ t)) ++ L) (k ((t.length : Int), .nilIface))) :
    E (bld b 144 5 p s (cb l) ++ L) (cal (eT2 eI eV) Tryz.prog 100 #[.pointer (some ⟨b, 0, none⟩), str t] k) := fun w hw => by
  have hi := bld_is hp hs hw
  have hc := Any.Builder_WriteString Tryz.lays166 Tryz.builderW b b (cb l) ⟨t.toArray⟩ w hi (by rw [cb_len]; exact hlen) (bld_size hw)
  refine hc.mono ?_
  rintro _ w' ⟨rfl, hb, hbe⟩
  obtain ⟨s', h1, h2⟩ := bld_of hL hw hb hbe
  refine ⟨((t.length : Int), .nilIface), rfl, hk s' h1 w' ?_⟩
  have e : cb (l ++ t) = cb l ++ Lib.strCells ⟨t.toArray⟩ := by simp [cb, Lib.strCells]
  rw [e]
  exact h2
theorem low_keeps {w w' : World} (hL : ∀ A ∈ L, Low b A) (h : Holds w L) (hbe : RowKit.Below b w w') : Holds w' L := by
  refine HS.mono (Low.HS hL _ h) fun n o hn => ?_
  unfold lo at hn
  split at hn
  · rename_i hnb
    cases n with
    | zero => simpa [Sp.hp, hbe.os, hbe.output, hbe.tape] using hn
    | succ n =>
      rw [hp_s] at hn ⊢
      rw [hbe.block n (by omega)]
      exact hn
  · cases hn
theorem r_bs' {k : List UInt8 → W} (hL : ∀ A ∈ L, Low b A) (hp : p = none ∨ p = some ⟨b, 0, none⟩) (hs : ∀ g, s.1 = some g → b < g.block) (hk : E L (k l)) :
    E (bld b 144 5 p s (cb l) ++ L) (cal eS Tryz.prog 102 #[.pointer (some ⟨b, 0, none⟩)] k) := fun w hw => by
  have hi := bld_is hp hs hw
  have hi' : Lib.IsBuilder 144 5 b b (Lib.byteCells l) w := by simpa [cb, Lib.byteCells] using hi
  have hc := Any.Builder_String_any Tryz.lays169 Tryz.builderS b b l w hi' (bld_size hw)
  refine hc.mono ?_
  rintro _ w' ⟨rfl, hbe⟩
  refine ⟨l, rfl, hk w' (low_keeps hL ?_ hbe)⟩
  have h1 : Holds w (ar b 144 [.pointer p, .slice s.1 s.2.1 s.2.2] :: (ow 5 1 s (cb l) :: L)) := hw
  exact HS.tl (HS.tl h1)
end
theorem low_dk {Z : Dk} {b : Nat} (h : ∃ a, dk Z a ∧ dm b a) : Low b (dk Z) := by
  obtain ⟨a, ha, hd⟩ := h
  have := HS.dom (L := dkl Z) ha hd
  refine Low.fold fun A hA => ?_
  obtain ⟨x, hx, hdx⟩ := this A hA
  simp only [dkl, List.mem_cons, List.not_mem_nil, or_false] at hA
  rcases hA with rfl | rfl | rfl
  · exact Low.blk (dm_blk hx hdx)
  · exact Low.blk (dm_blk hx hdx)
  · exact Low.blk (dm_blk hx hdx)
def Dk.scn (Z : Dk) (base top : Nat) : Nat → Nat → Nat → List UInt8
  | 0, _, _ => []
  | k + 1, i, r =>
    if be ((Z.get ((base + i : Nat) : Int)).take 4) < r ∨ top < be ((Z.get ((base + i : Nat) : Int)).take 4) ∨ 58 < be (((Z.get ((base + i : Nat) : Int)).drop 4).take 2) then []
    else ((Z.get ((base + i : Nat) : Int)).drop 6).take (be (((Z.get ((base + i : Nat) : Int)).drop 4).take 2)) ++ (if be (((Z.get ((base + i : Nat) : Int)).drop 4).take 2) < 58 then [] else Z.scn base top k (i + 1) (be ((Z.get ((base + i : Nat) : Int)).take 4)))
set_option maxHeartbeats 2000000 in
theorem g68 (G : Lg) (Z : Dk) (h : Z.ok) (hG : G.ok Z.sure.length) : Fn (eT2 eS eI) Tryz.prog 68 #[G.p] [lgp G Z.sb, dk Z] fun y X => X = [lgp G Z.sb, dk Z] ∧ y = if Z.up then (Z.scn G.base G.run G.sectors 0 1, 0) else ([], 9) := by
  refine Fn.ex fun h0 => ?_
  have hfit := hG.fit
  have hn1 := hG.n1
  have hs1 := hG.s1
  have hr2 := hG.r2
  refine c68_fn rfl rfl ?_
  refine d_seq ?_
  intro K0 hK0
  refine d_reg ?_
  simp only [go_sem]
  refine hK0 _ _ ?_
  clear hK0 K0
  refine d_seq ?_
  intro K0 hK0
  refine d_reg ?_
  simp only [go_sem]
  refine r_nwcD fun b hd => ?_
  refine hK0 _ _ ?_
  clear hK0 K0
  have hL : ∀ A ∈ [lgp G Z.sb, dk Z, ex h0], Low b A := by
    intro A hA
    simp only [List.mem_cons, List.not_mem_nil, or_false] at hA
    rcases hA with rfl | rfl | rfl
    · obtain ⟨x, hx, hdx⟩ := hd (lgp G Z.sb) (by simp)
      exact Low.blk (dm_blk hx hdx)
    · exact low_dk (hd (dk Z) (by simp))
    · obtain ⟨x, hx, hdx⟩ := hd (ex h0) (by simp)
      have e : x = h0 := hx
      subst e
      exact Low.ex hdx
  clear hd
  refine r_nilow 5 1 ?_
  repeat' (first | (with_reducible first | refine d_seq fun K hK => ?_ | (refine hK _ _ ?_; clear hK K) | (refine SG.p ?_; try intro b)) | refine i_c ?_ ?_ <;> intro hc <;> try simp only [push_cast, seval] at hc | refine i_x ?_ | clear hK K)
  cases hu : Z.up
  · have F : Fp (eT2 eS eI) Tryz.prog 22 #[.pointer (some ⟨Z.sb, 0, none⟩), .int .i64 (G.base : Int)] [dk Z] ([], 9) := by
      have := F31 Z h (G.base : Int)
      have e : Z.chk (G.base : Int) = 9 := by unfold Dk.chk; rw [hu, if_pos rfl]
      rw [e, if_neg (by decide : ¬ (9 : Int) = 0)] at this
      exact this
    refine d_lp [0, 4, 5, 15, 16] (fun _ : Unit => [(0, .pointer (some ⟨G.q, 0, none⟩)), (4, .pointer (some ⟨b, 0, none⟩)), (5, .int .i64 1), (15, .int .i64 (G.sectors : Int)), (16, .int .i64 0)])
      (fun _ => [ow 5 1 (none, 0, 0) [], ar b 144 [.pointer none, .slice none 0 0], lgp G Z.sb, dk Z, ex h0]) (fun _ => True) (fun _ => 0) () rfl SX.p trivial ?_
    intro _ _
    repeat' (first | (with_reducible first | refine d_seq fun K hK => ?_ | (refine hK _ _ ?_; clear hK K) | (refine SG.p ?_; try intro b)) | refine i_c ?_ ?_ <;> intro hc <;> try simp only [push_cast, seval] at hc | refine i_x ?_ | clear hK K)
    all_goals try (exfalso; omega)
    refine r_ph [lgp G Z.sb] SX.p ?_
    have e3 : IntKind.wrap .i64 ((G.base : Int) + 0) = (G.base : Int) := by rw [w64 (by omega) (by omega)]; omega
    repeat' (first | (with_reducible first | refine d_seq fun K hK => ?_ | (refine hK _ _ ?_; clear hK K) | (refine SG.p ?_; try intro b)) | refine i_c ?_ ?_ <;> intro hc <;> try simp only [push_cast, seval] at hc | refine i_x ?_ | clear hK K)
    rw [e3]
    refine i_clp F ?_
    repeat' (first | (with_reducible first | refine d_seq fun K hK => ?_ | (refine hK _ _ ?_; clear hK K) | (refine SG.p ?_; try intro b)) | refine i_c ?_ ?_ <;> intro hc <;> try simp only [push_cast, seval] at hc | refine i_x ?_ | clear hK K)
    all_goals try (first | contradiction | (simp only [ reduceCtorEq] at *; done) | (exfalso; omega))
    (with_reducible first | apply i_ret0 | apply i_ret2 | apply i_ret3 | apply i_ret); exact rfl
    simp [hu]
  · generalize hB : Z.scn G.base G.run G.sectors 0 1 = B
    refine d_lp [0, 4, 5, 15, 16] (fun t : Nat × Nat × List UInt8 × Option Addr × SlV => [(0, .pointer (some ⟨G.q, 0, none⟩)), (4, .pointer (some ⟨b, 0, none⟩)), (5, .int .i64 (t.2.1 : Int)), (15, .int .i64 (G.sectors : Int)), (16, .int .i64 (t.1 : Int))])
      (fun t => bld b 144 5 t.2.2.2.1 t.2.2.2.2 (cb t.2.2.1) ++ [lgp G Z.sb, dk Z, ex h0])
      (fun t => t.1 ≤ G.sectors ∧ t.2.2.1 ++ Z.scn G.base G.run (G.sectors - t.1) t.1 t.2.1 = B ∧ (t.2.2.2.1 = none ∨ t.2.2.2.1 = some ⟨b, 0, none⟩) ∧ (∀ g, t.2.2.2.2.1 = some g → b < g.block) ∧ t.2.2.1.length ≤ 58 * t.1) (fun t => G.sectors - t.1)
      (0, 1, [], none, (none, 0, 0)) rfl ?_ ⟨by dsimp only; omega, by dsimp only; rw [List.nil_append]; exact hB, .inl rfl, ⟨fun g hg => (by cases hg), (by simp)⟩⟩ ?_
    · show Sub ([ar b 144 [.pointer none, .slice none 0 0], ow 5 1 (none, 0, 0) []] ++ [lgp G Z.sb, dk Z, ex h0]) _
      exact SX.p
    rintro ⟨i, r, t, p, ⟨sp, sn, sc⟩⟩ ⟨hi, hb, hp, hs, ht⟩
    dsimp only at hi hb hp hs ht ⊢
    repeat' (first | (with_reducible first | refine d_seq fun K hK => ?_ | (refine hK _ _ ?_; clear hK K) | (refine SG.p ?_; try intro b)) | refine i_c ?_ ?_ <;> intro hc <;> try simp only [push_cast, seval] at hc | refine i_x ?_ | clear hK K)
    · have hch : Z.chk ((G.base + i : Nat) : Int) = 0 := by unfold Dk.chk; rw [hu, if_neg (by simp), if_neg (by omega)]
      have F := F31 Z h ((G.base + i : Nat) : Int)
      rw [hch, if_pos rfl] at F
      simp only [Dk.p] at F
      have hl := Dk.get_len h hch
      have e3 : IntKind.wrap .i64 ((G.base : Int) + (i : Int)) = ((G.base + i : Nat) : Int) := by rw [w64 (by omega) (by omega)]; omega
      obtain ⟨k, hk⟩ : ∃ k, G.sectors - i = k + 1 := ⟨G.sectors - i - 1, by omega⟩
      rw [hk] at hb
      unfold Dk.scn at hb
      generalize Z.get ((G.base + i : Nat) : Int) = v at *
      refine r_ph [lgp G Z.sb] SX.p ?_
      repeat' (first | (with_reducible first | refine d_seq fun K hK => ?_ | (refine hK _ _ ?_; clear hK K) | (refine SG.p ?_; try intro b)) | refine i_c ?_ ?_ <;> intro hc <;> try simp only [push_cast, seval] at hc | refine i_x ?_ | clear hK K)
      rw [e3]
      refine i_clp F ?_
      repeat' (first | (with_reducible first | refine d_seq fun K hK => ?_ | (refine hK _ _ ?_; clear hK K) | (refine SG.p ?_; try intro b)) | refine i_c ?_ ?_ <;> intro hc <;> try simp only [push_cast, seval] at hc | refine i_x ?_ | clear hK K)
      all_goals try (first | contradiction | (simp only [ reduceCtorEq] at *; done) | (exfalso; omega))
      refine i_cal (f72 v) ?_
      rintro y X ⟨rb, rfl, rfl⟩
      repeat' (first | (with_reducible first | refine d_seq fun K hK => ?_ | (refine hK _ _ ?_; clear hK K) | (refine SG.p ?_; try intro b)) | refine i_c ?_ ?_ <;> intro hc <;> try simp only [push_cast, seval] at hc | refine i_x ?_ | clear hK K)
      refine i_clq (num_go rb v 0 4 (by omega) (by decide) (by decide) (by omega)) ?_
      rw [List.drop_zero]
      refine i_clq (num_go rb v 4 2 (by omega) (by decide) (by decide) (by omega)) ?_
      generalize be (v.take 4) = at' at *
      generalize be ((v.drop 4).take 2) = n at *
      by_cases hbad : at' < r ∨ G.run < at' ∨ 58 < n
      · rw [if_pos hbad, List.append_nil] at hb
        subst hb
        repeat' (first | (with_reducible first | refine d_seq fun K hK => ?_ | (refine hK _ _ ?_; clear hK K) | (refine SG.p ?_; try intro b)) | refine i_c ?_ ?_ <;> intro hc <;> try simp only [push_cast, seval] at hc | refine i_x ?_ | clear hK K)
        all_goals try (exfalso; omega)
        all_goals
          refine E.sub (L' := bld b 144 5 p (sp, sn, sc) (cb t) ++ [lgp G Z.sb, dk Z, ex h0]) SX.p ?_
          refine r_bs' hL hp hs ?_
          repeat' (first | (with_reducible first | refine d_seq fun K hK => ?_ | (refine hK _ _ ?_; clear hK K) | (refine SG.p ?_; try intro b)) | refine i_c ?_ ?_ <;> intro hc <;> try simp only [push_cast, seval] at hc | refine i_x ?_ | clear hK K)
          (with_reducible first | apply i_ret0 | apply i_ret2 | apply i_ret3 | apply i_ret); exact rfl
          rw [if_pos hu, hB]
      · rw [if_neg hbad] at hb
        have R := f90 ⟨rb, v, 6, 0⟩ (n : Int) (by dsimp only; omega) (by dsimp only; omega)
        rw [raw_go rb v 6 n (by omega)] at R
        have hul : ((v.drop 6).take n).length = n := by rw [List.length_take, List.length_drop]; omega
        generalize (v.drop 6).take n = u at *
        repeat' (first | (with_reducible first | refine d_seq fun K hK => ?_ | (refine hK _ _ ?_; clear hK K) | (refine SG.p ?_; try intro b)) | refine i_c ?_ ?_ <;> intro hc <;> try simp only [push_cast, seval] at hc | refine i_x ?_ | clear hK K)
        all_goals try (exfalso; omega)
        refine i_clq R ?_
        refine E.sub (L' := bld b 144 5 p (sp, sn, sc) (cb t) ++ [lgp G Z.sb, dk Z, ex h0]) SX.p ?_
        refine r_ws (t := u) hL hp hs (by omega) fun s' hs' => ?_
        by_cases h58 : n < 58
        · rw [if_pos h58, List.append_nil] at hb
          subst hb
          repeat' (first | (with_reducible first | refine d_seq fun K hK => ?_ | (refine hK _ _ ?_; clear hK K) | (refine SG.p ?_; try intro b)) | refine i_c ?_ ?_ <;> intro hc <;> try simp only [push_cast, seval] at hc | refine i_x ?_ | clear hK K)
          all_goals try (exfalso; omega)
          refine E.sub (L' := bld b 144 5 (some ⟨b, 0, none⟩) s' (cb (t ++ u)) ++ [lgp G Z.sb, dk Z, ex h0]) SX.p ?_
          refine r_bs' hL (.inr rfl) hs' ?_
          repeat' (first | (with_reducible first | refine d_seq fun K hK => ?_ | (refine hK _ _ ?_; clear hK K) | (refine SG.p ?_; try intro b)) | refine i_c ?_ ?_ <;> intro hc <;> try simp only [push_cast, seval] at hc | refine i_x ?_ | clear hK K)
          (with_reducible first | apply i_ret0 | apply i_ret2 | apply i_ret3 | apply i_ret); exact rfl
          rw [if_pos hu, hB]
        · rw [if_neg h58] at hb
          repeat' (first | (with_reducible first | refine d_seq fun K hK => ?_ | (refine hK _ _ ?_; clear hK K) | (refine SG.p ?_; try intro b)) | refine i_c ?_ ?_ <;> intro hc <;> try simp only [push_cast, seval] at hc | refine i_x ?_ | clear hK K)
          all_goals try (exfalso; omega)
          rw [w64 (by omega) (by omega)]
          exact i_bk (i + 1, at', t ++ u, some ⟨b, 0, none⟩, s') rfl ⟨by dsimp only; omega, by dsimp only; rw [show G.sectors - (i + 1) = k by omega, List.append_assoc]; exact hb, .inr rfl, hs', by dsimp only; rw [List.length_append]; omega⟩ (by dsimp only; omega)
    · obtain rfl : i = G.sectors := by omega
      rw [Nat.sub_self, show Z.scn G.base G.run 0 G.sectors r = [] from rfl, List.append_nil] at hb
      subst hb
      refine E.sub (L' := bld b 144 5 p (sp, sn, sc) (cb t) ++ [lgp G Z.sb, dk Z, ex h0]) SX.p ?_
      refine r_bs' hL hp hs ?_
      repeat' (first | (with_reducible first | refine d_seq fun K hK => ?_ | (refine hK _ _ ?_; clear hK K) | (refine SG.p ?_; try intro b)) | refine i_c ?_ ?_ <;> intro hc <;> try simp only [push_cast, seval] at hc | refine i_x ?_ | clear hK K)
      (with_reducible first | apply i_ret0 | apply i_ret2 | apply i_ret3 | apply i_ret); exact rfl
      rw [if_pos hu, hB]
end Go.Sp
