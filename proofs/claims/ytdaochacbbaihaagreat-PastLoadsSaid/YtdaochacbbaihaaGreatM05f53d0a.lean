/- Texts of a proof, one behind the other: D6 D7 D10 D11 D12 Gw0 Gwo0 U1 K25 S1 S2 S3 S4 S5 U2 U3 U4 U5 U6 U7 U8 U9 V1 V2 V3 V4 V5 V6 V7 V8 V9 V10 K28 K32 Y0 Gpa0. No condition. -/
import Derived.Test.YtdaochacbbaihaaGreatM13e44783
import Derived.Test.YtdaochacbbaihaaGreatM6b8bf837
import Derived.Test.YtdaochacbbaihaaGreatM0fe3bdfc
import Derived.Lib.Builder
import Derived.Lib.AppendStr
import Derived.Lib.UnsafeStr
namespace Go.Sp
open Go Go.Proofs
set_option linter.unusedSimpArgs false
set_option linter.unusedVariables false
set_option maxRecDepth 10000
theorem toN1 {a : Int} {j : Nat} (h : a = (j : Int)) : a.toNat = j := by omega
theorem toN2 {a : Int} {j : Nat} (h0 : 0 ≤ a) (h : ¬ a = (j : Int)) : a.toNat ≠ j := by omega
theorem toN3 {a : Int} {n : Nat} (h0 : 0 ≤ a ∧ a < (n : Int)) : a.toNat < n := by omega
theorem pk_keys (es : Ents eI eS) (k : Int) (v : List UInt8) (c : Nat) : (pk es k v c).map (·.1) = if gk es k = none then es.map (·.1) ++ [k] else es.map (·.1) := by
  induction es with
  | nil => simp [pk, gk]
  | cons x r ih =>
    by_cases h : x.1 = k
    · simp [pk, gk, h]
    · simp only [pk, gk, h, if_false, List.map_cons, ih]
      split <;> simp
theorem pk_born (es : Ents eI eS) (k : Int) (v : List UInt8) (c : Nat) : (pk es k v c).map (·.2.2) = if gk es k = none then es.map (·.2.2) ++ [c] else es.map (·.2.2) := by
  induction es with
  | nil => simp [pk, gk]
  | cons x r ih =>
    by_cases h : x.1 = k
    · simp [pk, gk, h]
    · simp only [pk, gk, h, if_false, List.map_cons, ih]
      split <;> simp
theorem pk_mem {es : Ents eI eS} {k : Int} {v : List UInt8} {c : Nat} {x : Int × List UInt8 × Nat} (h : x ∈ pk es k v c) : x ∈ es ∨ (x.1 = k ∧ x.2.1 = v) := by
  induction es with
  | nil => simp [pk] at h; right; simp [h]
  | cons y r ih =>
    unfold pk at h
    split at h
    · rcases List.mem_cons.1 h with rfl | h
      · right; simp
      · left; simp [h]
    · rcases List.mem_cons.1 h with rfl | h
      · left; simp
      · rcases ih h with h | h
        · left; simp [h]
        · right; exact h
theorem gk_some {es : Ents eI eS} {k : Int} (h : ¬ gk es k = none) : k ∈ es.map (·.1) := by
  cases hg : gk es k with
  | none => exact absurd hg h
  | some v => obtain ⟨x, hx, e, _⟩ := gk_mem hg; exact List.mem_map.2 ⟨x, hx, e⟩
theorem Dk.put_ok {D : Dk} (h : D.ok) {i : Int} (h0 : 0 ≤ i) (h1 : i < D.sure.length) {s : List UInt8} (hs : s.length = 64) : (D.put i s).ok := by
  obtain ⟨g1, g2, g3, g4, g5, g6, g7, g8, g9, g10⟩ := h
  have hb : ∀ b ∈ (pk D.es i s D.c).map (·.2.2), b < ck D.es i D.c := by
    intro b hb
    rw [pk_born] at hb
    unfold ck
    split at hb
    · rename_i hn
      rw [if_pos hn]
      rcases List.mem_append.1 hb with hb | hb
      · obtain ⟨x, hx, rfl⟩ := List.mem_map.1 hb
        have := g6 x hx; omega
      · simp at hb; omega
    · rename_i hn
      rw [if_neg hn]
      obtain ⟨x, hx, rfl⟩ := List.mem_map.1 hb
      exact g6 x hx
  refine ⟨g1, g2, g3, ?_, ?_, fun x hx => hb _ (List.mem_map.2 ⟨x, hx, rfl⟩), ?_, ?_, g9, g10⟩
  · intro x hx
    rcases pk_mem hx with hx | ⟨_, rfl⟩
    · exact g4 x hx
    · exact hs
  · intro x hx
    rcases pk_mem hx with hx | ⟨rfl, _⟩
    · exact g5 x hx
    · exact ⟨h0, h1⟩
  · refine (congrArg List.Nodup (pk_keys D.es i s D.c)).mpr ?_
    split
    · rename_i hn
      rw [List.nodup_append]
      refine ⟨g7, by simp, ?_⟩
      intro a ha b hb' e
      simp at hb'
      obtain ⟨x, hx, rfl⟩ := List.mem_map.1 ha
      exact gk_none hn x hx (e.trans hb')
    · exact g7
  · refine (congrArg List.Nodup (pk_born D.es i s D.c)).mpr ?_
    split
    · rw [List.nodup_append]
      refine ⟨g8, by simp, ?_⟩
      intro a ha b hb' e
      simp at hb'
      obtain ⟨x, hx, rfl⟩ := List.mem_map.1 ha
      have := g6 x hx
      omega
    · exact g8
theorem Dk.act_len (D : Dk) : D.act.2.sure.length = D.sure.length := by
  unfold Dk.act
  split
  · exact Dk.cutn_len D _ _
  · rfl
theorem Dk.write_ok {D : Dk} (h : D.ok) (i : Int) (s : List UInt8) : (D.write i s).2.ok := by
  unfold Dk.write
  split
  · rename_i h0
    have := Dk.chk_ok h0
    split
    · exact h
    · split
      · exact Dk.put_ok (Dk.act_ok h) this.2.1 (by rw [Dk.act_len]; exact this.2.2) (wh_len (by omega))
      · exact Dk.act_ok h
  · exact h
def sy (S : Ents eI eS) (l : List (List UInt8)) : List (List UInt8) := S.foldl (fun s x => s.set x.1.toNat x.2.1) l
theorem sy_snoc (S : Ents eI eS) (x : Int × List UInt8 × Nat) (l : List (List UInt8)) : sy (S ++ [x]) l = (sy S l).set x.1.toNat x.2.1 := by simp [sy]
theorem sy_len (S : Ents eI eS) (l : List (List UInt8)) : (sy S l).length = l.length := by
  induction S generalizing l with
  | nil => rfl
  | cons x r ih => show (sy r (l.set x.1.toNat x.2.1)).length = _; rw [ih]; simp
theorem sy_get (S : Ents eI eS) : ∀ (l : List (List UInt8)) (_ : (S.map (·.1)).Nodup) (_ : ∀ x ∈ S, 0 ≤ x.1 ∧ x.1 < (l.length : Int)) (j : Nat) (_ : j < l.length), (sy S l)[j]? = some ((gk S (j : Int)).getD (l.getD j [])) := by
  induction S with
  | nil => intro l _ _ j hj; simp [sy, gk, hj]
  | cons x r ih =>
    intro l hn hr j hj
    rw [List.map_cons, List.nodup_cons] at hn
    show (sy r (l.set x.1.toNat x.2.1))[j]? = _
    rw [ih _ hn.2 (fun y hy => by simpa using hr y (by simp [hy])) j (by simpa using hj)]
    have hx : (0 : Int) ≤ x.1 ∧ (x.1 : Int) < (l.length : Int) := hr x (by simp)
    by_cases h : x.1 = (j : Int)
    · have hg : gk r (j : Int) = none := by
        cases hg : gk r (j : Int) with
        | none => rfl
        | some v => exact absurd (h ▸ gk_some (by rw [hg]; simp)) hn.1
      have : x.1.toNat = j := toN1 h
      simp [gk, h, hg, hj]
    · have : x.1.toNat ≠ j := toN2 hx.1 h
      simp [gk, h, this]
theorem gk_perm {S es : Ents eI eS} (h : S.Perm es) (hn : (es.map (·.1)).Nodup) (k : Int) : gk S k = gk es k := by
  have hn' : (S.map (·.1)).Nodup := (h.map _).nodup_iff.2 hn
  have key : ∀ {A : Ents eI eS} {x : Int × List UInt8 × Nat}, (A.map (·.1)).Nodup → x ∈ A → gk A x.1 = some x.2.1 := by
    intro A x hA hx
    induction A with
    | nil => cases hx
    | cons y r ih =>
      rw [List.map_cons, List.nodup_cons] at hA
      by_cases e : y.1 = x.1
      · cases hx with
        | head => simp [gk]
        | tail _ hx => exact absurd (List.mem_map.2 ⟨x, hx, e.symm⟩) hA.1
      · cases hx with
        | head => exact absurd rfl e
        | tail _ hx => simp only [gk, e, if_false]; exact ih hA.2 hx
  cases hg : gk es k with
  | none =>
    cases hs : gk S k with
    | none => rfl
    | some v =>
      obtain ⟨x, hx, e, _⟩ := gk_mem hs
      exact absurd e (gk_none hg x (h.mem_iff.1 hx))
  | some v =>
    obtain ⟨x, hx, rfl, rfl⟩ := gk_mem hg
    exact key hn' (h.mem_iff.2 hx)
def Dk.flush (D : Dk) : Dk := { D with sure := sy D.es D.sure, es := [] }
theorem sy_perm {S es : Ents eI eS} {l : List (List UInt8)} (h : S.Perm es) (hn : (es.map (·.1)).Nodup) (hr : ∀ x ∈ es, 0 ≤ x.1 ∧ x.1 < (l.length : Int)) : sy S l = sy es l := by
  apply List.ext_getElem?
  intro j
  by_cases hj : j < l.length
  · rw [sy_get S l ((h.map _).nodup_iff.2 hn) (fun x hx => hr x (h.mem_iff.1 hx)) j hj, sy_get es l hn hr j hj, gk_perm h hn]
  · rw [List.getElem?_eq_none (by rw [sy_len]; omega), List.getElem?_eq_none (by rw [sy_len]; omega)]
def Dk.sync (D : Dk) : Int × Dk := if D.chk 0 = 0 then (if D.act.1 = 0 then (0, D.act.2.flush) else (D.act.1, D.act.2)) else (D.chk 0, D)
theorem f28 (D : Dk) (h : D.ok) : Fq eI Tryz.prog 44 #[D.p] (dkl D) (dkl D.sync.2) D.sync.1 := by
  unfold Dk.sync
  by_cases h0 : D.chk 0 = 0
  · simp only [h0, if_true]
    by_cases h2 : D.act.1 = 0 <;> simp only [h2, if_true, if_false]
    all_goals
      intro L
      refine c44_fn rfl rfl ?_
      simp only [Dk.p]
      repeat' (first | (with_reducible first | refine d_seq fun K hK => ?_ | (refine hK _ _ ?_; clear hK K) | (refine SG.p ?_; try intro b)) | refine i_c ?_ ?_ <;> intro hc <;> try simp only [push_cast, seval] at hc | refine i_x ?_ | clear hK K)
      refine i_clp (f67 D h 0) ?_
      simp only [h0]
      repeat' (first | (with_reducible first | refine d_seq fun K hK => ?_ | (refine hK _ _ ?_; clear hK K) | (refine SG.p ?_; try intro b)) | refine i_c ?_ ?_ <;> intro hc <;> try simp only [push_cast, seval] at hc | refine i_x ?_ | clear hK K)
      all_goals try (first | contradiction | (exfalso; omega))
      refine i_clq (f68 D h) ?_
      try simp only [h2]
      repeat' (first | (with_reducible first | refine d_seq fun K hK => ?_ | (refine hK _ _ ?_; clear hK K) | (refine SG.p ?_; try intro b)) | refine i_c ?_ ?_ <;> intro hc <;> try simp only [push_cast, seval] at hc | refine i_x ?_ | clear hK K)
      all_goals try (first | contradiction | (exfalso; omega))
    · have hsb := Dk.act_sb D
      have hA := Dk.act_ok h
      generalize D.act.2 = A at *
      simp only [← hsb]
      repeat' (first | (with_reducible first | refine d_seq fun K hK => ?_ | (refine hK _ _ ?_; clear hK K) | (refine SG.p ?_; try intro b) | refine SP.p ?_) | refine i_c ?_ ?_ <;> intro hc <;> try simp only [push_cast, seval] at hc | refine i_x ?_ | clear hK K)
      refine i_mrng (κ := eI) (ε := eS) (a := 3) (b := 9) (by kernel_rfl) fun it => ?_
      repeat' (first | (with_reducible first | refine d_seq fun K hK => ?_ | (refine hK _ _ ?_; clear hK K) | (refine SG.p ?_; try intro b) | refine SP.p ?_) | refine i_c ?_ ?_ <;> intro hc <;> try simp only [push_cast, seval] at hc | refine i_x ?_ | clear hK K)
      refine d_lp [0, 21] (fun s : Ents eI eS × Ents eI eS => [(0, .pointer (some ⟨A.sb, 0, none⟩)), (21, .pointer (some ⟨it, 0, none⟩))])
        (fun s => blk it (.mapIter (some A.mb) A.c (sn s.1) A.c) :: ar A.sb 71 A.hd :: ar A.bb 9 ((sy s.1 A.sure).map fun s => str s) :: mp eI eS A.mb A.es A.c :: L) (fun s => Rg A.es s.1 s.2) (fun s => s.2.length) ([], A.es) rfl ?_ (Rg.start _) ?_
      · show Sub (blk it (.mapIter (some A.mb) A.c #[] A.c) :: (dkl A ++ L)) _
        exact SX.p
      rintro ⟨S, R⟩ hR
      dsimp only at hR ⊢
      repeat' (first | (with_reducible first | refine d_seq fun K hK => ?_ | (refine hK _ _ ?_; clear hK K) | (refine SG.p ?_; try intro b) | refine SP.p ?_) | refine i_c ?_ ?_ <;> intro hc <;> try simp only [push_cast, seval] at hc | refine i_x ?_ | clear hK K)
      refine i_mnx (κ := eI) (ε := eS) hA.ec (Nat.le_refl _) (fun ha => ?_) fun x hx hn => ?_
      · repeat' (first | (with_reducible first | refine d_seq fun K hK => ?_ | (refine hK _ _ ?_; clear hK K) | (refine SG.p ?_; try intro b) | refine SP.p ?_) | refine i_c ?_ ?_ <;> intro hc <;> try simp only [push_cast, seval] at hc | refine i_x ?_ | clear hK K)
        obtain rfl := hR.done hA.bn ha
        have hS : S.Perm A.es := by have := hR; unfold Rg at this; simpa using this
        have e := sy_perm hS hA.kn hA.ei
        refine i_mclr (κ := eI) (ε := eS) (a := 3) (b := 9) (by kernel_rfl) ?_
        repeat' (first | (with_reducible first | refine d_seq fun K hK => ?_ | (refine hK _ _ ?_; clear hK K) | (refine SG.p ?_; try intro b) | refine SP.p ?_) | refine i_c ?_ ?_ <;> intro hc <;> try simp only [push_cast, seval] at hc | refine i_x ?_ | clear hK K)
        simp only [Dk.flush, dkl, Dk.hd, sy_len]
        rw [e]
        (with_reducible first | apply i_ret0 | apply i_ret2 | apply i_ret3 | apply i_ret); exact rfl
        rfl
      · repeat' (first | (with_reducible first | refine d_seq fun K hK => ?_ | (refine hK _ _ ?_; clear hK K) | (refine SG.p ?_; try intro b) | refine SP.p ?_) | refine i_c ?_ ?_ <;> intro hc <;> try simp only [push_cast, seval] at hc | refine i_x ?_ | clear hK K)
        rw [sn_push]
        refine i_ment hx hA.bn ?_
        have hi : (0 : Int) ≤ x.1 ∧ (x.1 : Int) < (A.sure.length : Int) := hA.ei x hx
        have hl := sy_len S A.sure
        obtain ⟨R', hlt, hst⟩ := hR.step hx hn
        repeat' (first | (with_reducible first | refine d_seq fun K hK => ?_ | (refine hK _ _ ?_; clear hK K) | (refine SG.p ?_; try intro b) | refine SP.p ?_) | refine i_c ?_ ?_ <;> intro hc <;> try simp only [push_cast, seval] at hc | refine i_x ?_ | clear hK K)
        refine i_st (by rw [List.length_map, hl]; exact toN3 hi) rfl ?_
        rw [← List.map_set, ← sy_snoc]
        repeat' (first | (with_reducible first | refine d_seq fun K hK => ?_ | (refine hK _ _ ?_; clear hK K) | (refine SG.p ?_; try intro b) | refine SP.p ?_) | refine i_c ?_ ?_ <;> intro hc <;> try simp only [push_cast, seval] at hc | refine i_x ?_ | clear hK K)
        exact i_bk (S ++ [x], R') rfl hst hlt
    · (with_reducible first | apply i_ret0 | apply i_ret2 | apply i_ret3 | apply i_ret); exact rfl
      rfl
  · simp only [h0, if_false]
    intro L
    refine c44_fn rfl rfl ?_
    simp only [Dk.p]
    repeat' (first | (with_reducible first | refine d_seq fun K hK => ?_ | (refine hK _ _ ?_; clear hK K) | (refine SG.p ?_; try intro b)) | refine i_c ?_ ?_ <;> intro hc <;> try simp only [push_cast, seval] at hc | refine i_x ?_ | clear hK K)
    refine i_clp (f67 D h 0) ?_
    repeat' (first | (with_reducible first | refine d_seq fun K hK => ?_ | (refine hK _ _ ?_; clear hK K) | (refine SG.p ?_; try intro b)) | refine i_c ?_ ?_ <;> intro hc <;> try simp only [push_cast, seval] at hc | refine i_x ?_ | clear hK K)
    all_goals first | contradiction | omega | ((with_reducible first | apply i_ret0 | apply i_ret2 | apply i_ret3 | apply i_ret); exact rfl; rfl)
theorem Dk.flush_ok {D : Dk} (h : D.ok) : D.flush.ok := by
  obtain ⟨g1, g2, g3, g4, g5, g6, g7, g8, g9, g10⟩ := h
  have hl := sy_len D.es D.sure
  constructor <;> simp only [Dk.flush, hl] <;> first | assumption | skip
  · intro s hs
    obtain ⟨j, hj⟩ := List.getElem?_of_mem hs
    have hj' : j < D.sure.length := by
      rw [← hl]
      rcases Nat.lt_or_ge j (sy D.es D.sure).length with h | h
      · exact h
      · rw [List.getElem?_eq_none h] at hj; cases hj
    rw [sy_get _ _ g7 g5 j hj'] at hj
    cases hg : gk D.es (j : Int) with
    | none => rw [hg] at hj; simp only [Option.getD_none, Option.some.injEq] at hj; subst hj; exact g3 _ (by simp [hj'])
    | some v =>
      obtain ⟨x, hx, _, rfl⟩ := gk_mem hg
      rw [hg] at hj
      simp only [Option.getD_some, Option.some.injEq] at hj
      subst hj
      have := g4 x hx
      omega
  all_goals simp
theorem Dk.get_len {D : Dk} (h : D.ok) {i : Int} (hi : D.chk i = 0) : (D.get i).length = 64 := by
  have hk := Dk.chk_ok hi
  unfold Dk.get
  cases hg : gk D.es i with
  | some v => obtain ⟨x, hx, _, rfl⟩ := gk_mem hg; exact h.e64 x hx
  | none =>
    have : i.toNat < D.sure.length := by omega
    exact wh_len (h.l64 _ (by simp [this]))
theorem Dk.sync_ok {D : Dk} (h : D.ok) : D.sync.2.ok := by
  unfold Dk.sync
  split
  · split
    · exact Dk.flush_ok (Dk.act_ok h)
    · exact Dk.act_ok h
  · exact h
def dk (D : Dk) : HP := HS (dkl D)
theorem fo {e : Enc} {P : Program} {f : FuncId} {args : Array Value} {x : e.α} {D D' : Dk} (h : Fq e P f args (dkl D) (dkl D') x) : Fq e P f args [dk D] [dk D'] x :=
  Fq.fold (A := dkl D) (B := dkl D') (C := []) (by simpa using h)
theorem F26 (D : Dk) (h : D.ok) : Fp eI Tryz.prog 54 #[D.p] [dk D] (D.sure.length : Int) := fo (f26 D h)
theorem F31 (D : Dk) (h : D.ok) (i : Int) : Fp (eT2 eS eI) Tryz.prog 55 #[D.p, .int .i64 i] [dk D] (if D.chk i = 0 then D.get i else [], D.chk i) := fo (f31 D h i)
def Dk.on (D : Dk) : Dk := { D with up := true }
theorem Dk.on_ok {D : Dk} (h : D.ok) : D.on.ok := by
  obtain ⟨g1, g2, g3, g4, g5, g6, g7, g8, g9, g10⟩ := h
  exact ⟨g1, g2, g3, g4, g5, g6, g7, g8, g9, g10⟩
theorem F27 (D : Dk) (h : D.ok) (i : Int) (s : List UInt8) : Fq eI Tryz.prog 70 #[D.p, .int .i64 i, str s] [dk D] [dk (D.write i s).2] (D.write i s).1 := fo (f27 D h i s)
theorem F28 (D : Dk) (h : D.ok) : Fq eI Tryz.prog 44 #[D.p] [dk D] [dk D.sync.2] D.sync.1 := fo (f28 D h)
theorem F25 (n : Nat) (h0 : 0 < n) (h1 : n ≤ 8192) : Fn (eT2 eP eI) Tryz.prog 6 #[.int .i64 (n : Int)] [] fun y X => ∃ sb bb mb, y = (some ⟨sb, 0, none⟩, 0) ∧ X = [dk (Dk.new sb bb mb n)] := fun L w hw => by
  refine (f25 n h0 h1 L w hw).mono ?_
  rintro _ w' ⟨x, he, X, ⟨sb, bb, mb, rfl, rfl⟩, hX⟩
  exact ⟨_, he, _, ⟨sb, bb, mb, rfl, rfl⟩, Holds.close hX⟩
theorem Dk.write_go {D : Dk} {i : Int} {s : List UInt8} (h0 : D.chk i = 0) (hs : s.length ≤ 64) (hf : D.fuse < 0) : D.write i s = (0, Dk.put { D with acts := IntKind.wrap .i64 (D.acts + 1) } i (wh s)) := by
  have e : D.act = (0, { D with acts := IntKind.wrap .i64 (D.acts + 1) }) := by
    unfold Dk.act
    rw [if_neg (by omega), if_neg (by omega)]
  unfold Dk.write
  rw [if_pos h0, if_neg (by omega), e, if_pos rfl]
end Go.Sp
namespace Go.Sp
open Go Go.Proofs
set_option linter.unusedSimpArgs false
set_option linter.unusedVariables false
theorem gk_pk (es : Ents eI eS) (i j : Int) (v : List UInt8) (c : Nat) : gk (pk es i v c) j = if i = j then some v else gk es j := by
  induction es with
  | nil => simp [pk, gk]
  | cons x r ih =>
    by_cases h : x.1 = i
    · simp only [pk, h, if_true, gk]
      by_cases hj : i = j
      · simp [hj]
      · simp [hj]
    · simp only [pk, h, if_false, gk, ih]
      by_cases hx : x.1 = j
      · have : ¬ i = j := fun e => h (hx.trans e.symm)
        simp [hx, this]
      · simp [hx]
theorem Dk.sync_go {D : Dk} (h0 : D.chk 0 = 0) (hf : D.fuse < 0) : D.sync = (0, Dk.flush { D with acts := IntKind.wrap .i64 (D.acts + 1) }) := by
  have e : D.act = (0, { D with acts := IntKind.wrap .i64 (D.acts + 1) }) := by
    unfold Dk.act
    rw [if_neg (by omega), if_neg (by omega)]
  unfold Dk.sync
  rw [if_pos h0, e, if_pos rfl]
theorem Dk.flush_get {D : Dk} (h : D.ok) {j : Nat} (hj : j < D.sure.length) : D.flush.get (j : Int) = D.get (j : Int) := by
  have e : (sy D.es D.sure).getD j [] = (gk D.es (j : Int)).getD (D.sure.getD j []) := by
    rw [List.getD_eq_getElem?_getD, sy_get D.es D.sure h.kn h.ei j hj]
    rfl
  simp only [Dk.get, Dk.flush, gk, Option.getD_none, Int.toNat_natCast]
  rw [e]
  cases hg : gk D.es (j : Int) with
  | none => rfl
  | some v =>
    obtain ⟨x, hx, _, rfl⟩ := gk_mem hg
    exact wh_full (h.e64 x hx)
theorem Dk.cut_or {D : Dk} (h : D.ok) (keep : Int) : ∀ (n : Nat) (_ : n ≤ D.keys.length) (j : Nat), (D.cutn keep n).getD j [] = D.sure.getD j [] ∨ gk D.es (j : Int) = some ((D.cutn keep n).getD j [])
  | 0, _, _ => .inl rfl
  | n + 1, hn, j => by
    have ih := Dk.cut_or h keep n (by omega) j
    unfold Dk.cutn
    split
    · have hk := Dk.keys_in h (n := n) (by omega)
      have hm : D.keys.getD n 0 ∈ D.es.map (·.1) := by
        rw [List.getD_eq_getElem?_getD, List.getElem?_eq_getElem (by omega)]
        exact (List.mergeSort_perm _ _).mem_iff.1 (List.getElem_mem _)
      generalize D.keys.getD n 0 = k at *
      by_cases hkj : k.toNat = j
      · right
        have hkj' : k = (j : Int) := by omega
        have hlt : j < (D.cutn keep n).length := by rw [Dk.cutn_len]; omega
        cases hg : gk D.es k with
        | none =>
          obtain ⟨x, hx, e⟩ := List.mem_map.1 hm
          exact absurd e (gk_none hg x hx)
        | some v =>
          subst hkj
          rw [← hkj', hg]
          simp [hlt]
      · have e : ((D.cutn keep n).set k.toNat ((gk D.es k).getD [])).getD j [] = (D.cutn keep n).getD j [] := by
          simp [List.getD_eq_getElem?_getD, List.getElem?_set, hkj]
        rw [e]
        exact ih
    · exact ih
end Go.Sp
namespace Go.Sp
open Go Go.Proofs
set_option linter.unusedSimpArgs false
set_option linter.unusedVariables false
def Dk.wr (D : Dk) (l : List (List UInt8)) : Nat → Dk
  | 0 => D
  | i + 1 => if (l.getD i []).length ≤ 64 then ((D.wr l i).write (i : Int) (l.getD i [])).2 else D.wr l i
structure Dk.calm (D : Dk) (sb : Nat) (n : Nat) : Prop where
  ok : D.ok
  sb : D.sb = sb
  up : D.up = true
  fu : D.fuse < 0
  n : D.sure.length = n
theorem Dk.calm.chk {D : Dk} {sb n : Nat} (h : D.calm sb n) {i : Nat} (hi : i < n) : D.chk (i : Int) = 0 := by
  unfold Dk.chk
  rw [h.up, h.n, if_neg (by simp), if_neg (by omega)]
theorem Dk.calm.write {D : Dk} {sb n : Nat} (h : D.calm sb n) {i : Nat} (hi : i < n) {s : List UInt8} (hs : s.length ≤ 64) :
    (D.write (i : Int) s).1 = 0 ∧ (D.write (i : Int) s).2.calm sb n ∧ (D.write (i : Int) s).2.sure = D.sure ∧ (D.write (i : Int) s).2.downs = D.downs ∧ ∀ j : Int, gk (D.write (i : Int) s).2.es j = if (i : Int) = j then some (wh s) else gk D.es j := by
  have hok := Dk.write_ok h.ok (i : Int) s
  rw [Dk.write_go (h.chk hi) hs h.fu] at hok ⊢
  exact ⟨rfl, ⟨hok, h.sb, h.up, h.fu, h.n⟩, rfl, rfl, fun j => gk_pk _ _ _ _ _⟩
theorem Dk.calm.wr {D : Dk} {sb n : Nat} (h : D.calm sb n) (l : List (List UInt8)) : ∀ i, i ≤ n → (D.wr l i).calm sb n ∧ (D.wr l i).sure = D.sure ∧ ∀ j : Nat, gk (D.wr l i).es (j : Int) = if j < i ∧ (l.getD j []).length ≤ 64 then some (wh (l.getD j [])) else gk D.es (j : Int)
  | 0, _ => ⟨h, rfl, fun j => by simp [Dk.wr]⟩
  | i + 1, hi => by
    obtain ⟨h1, h2, h3⟩ := Dk.calm.wr h l i (by omega)
    unfold Dk.wr
    split
    · rename_i hs
      obtain ⟨_, w2, w3, _, w5⟩ := h1.write (by omega : i < n) hs
      refine ⟨w2, w3.trans h2, fun j => ?_⟩
      rw [w5, h3]
      by_cases hj : i = j
      · subst hj
        rw [if_pos rfl, if_pos ⟨by omega, hs⟩]
      · rw [if_neg (by omega)]
        by_cases hc : j < i ∧ (l.getD j []).length ≤ 64
        · rw [if_pos hc, if_pos ⟨by omega, hc.2⟩]
        · rw [if_neg hc, if_neg (fun hc' => hc ⟨by omega, hc'.2⟩)]
    · rename_i hs
      refine ⟨h1, h2, fun j => ?_⟩
      rw [h3]
      by_cases hj : i = j
      · subst hj
        rw [if_neg (by omega), if_neg (fun hc => hs hc.2)]
      · by_cases hc : j < i ∧ (l.getD j []).length ≤ 64
        · rw [if_pos hc, if_pos ⟨by omega, hc.2⟩]
        · rw [if_neg hc, if_neg (fun hc' => hc ⟨by omega, hc'.2⟩)]
theorem Dk.calm.sync {D : Dk} {sb n : Nat} (h : D.calm sb n) (hn : 0 < n) : D.sync.1 = 0 ∧ D.sync.2.calm sb n ∧ D.sync.2.es = [] ∧ D.sync.2.downs = D.downs ∧ ∀ j : Nat, j < n → D.sync.2.get (j : Int) = D.get (j : Int) := by
  have hok := Dk.sync_ok h.ok
  have hc := h.chk hn
  rw [Dk.sync_go hc h.fu] at hok ⊢
  have hA : ({ D with acts := IntKind.wrap .i64 (D.acts + 1) } : Dk).ok := by
    obtain ⟨g1, g2, g3, g4, g5, g6, g7, g8, g9, g10⟩ := h.ok
    exact ⟨g1, g2, g3, g4, g5, g6, g7, g8, g9, g10⟩
  refine ⟨rfl, ⟨hok, h.sb, h.up, h.fu, ?_⟩, rfl, rfl, fun j hj => ?_⟩
  · show (sy D.es D.sure).length = n
    rw [sy_len]; exact h.n
  · exact Dk.flush_get hA (by rw [← h.n] at hj; exact hj)
theorem Dk.calm.new {sb bb mb n : Nat} (h0 : 0 < n) (h1 : n ≤ 8192) : (Dk.new sb bb mb n).calm sb n := ⟨Dk.new_ok h0 h1, rfl, rfl, (by decide : (-1 : Int) < 0), by simp [Dk.new]⟩
theorem Dk.calm.off {D : Dk} {sb n : Nat} (h : D.calm sb n) (keep : Int) : (D.off keep).on.calm sb n ∧ (D.off keep).up = false ∧ (D.off keep).ok ∧ (D.off keep).sb = sb ∧
    ∀ j : Nat, (D.off keep).on.get (j : Int) = wh (D.sure.getD j []) ∨ ∃ v, gk D.es (j : Int) = some v ∧ v.length = 64 ∧ (D.off keep).on.get (j : Int) = v := by
  have hok := Dk.off_ok h.ok keep
  refine ⟨⟨Dk.on_ok hok, h.sb, rfl, (by decide : (-1 : Int) < 0), ?_⟩, rfl, hok, h.sb, fun j => ?_⟩
  · show (D.cutn keep D.keys.length).length = n
    rw [Dk.cutn_len]; exact h.n
  · have e : (D.off keep).on.get (j : Int) = wh ((D.cutn keep D.keys.length).getD j []) := rfl
    rw [e]
    rcases Dk.cut_or h.ok keep D.keys.length (Nat.le_refl _) j with h1 | h1
    · left; rw [h1]
    · right
      obtain ⟨x, hx, _, hv⟩ := gk_mem h1
      have h64 := h.ok.e64 x hx
      rw [hv] at h64
      exact ⟨_, h1, h64, wh_full h64⟩
def was (l : List (List UInt8)) (j : Nat) : List UInt8 := if j < l.length ∧ (l.getD j []).length ≤ 64 then wh (l.getD j []) else wh []
theorem lasts {D : Dk} {sb n : Nat} (h : D.calm sb n) (he : D.es = []) (hn : 0 < n) (m : List (List UInt8)) {k : Nat} (hk : k ≤ n) (hm : k ≤ m.length) (keep : Int) {j : Nat} (hj : j < n) :
    ((D.wr m k).off keep).on.get (j : Int) = D.get (j : Int) ∨ (j < m.length ∧ (m.getD j []).length ≤ 64 ∧ ((D.wr m k).off keep).on.get (j : Int) = wh (m.getD j [])) := by
  obtain ⟨h1, h2, h3⟩ := h.wr m k hk
  obtain ⟨_, _, _, _, h4⟩ := h1.off keep
  rcases h4 j with h5 | ⟨v, h5, h6, h7⟩
  · left
    rw [h5, h2]
    unfold Dk.get
    rw [he]
    simp [gk]
  · right
    rw [h3] at h5
    by_cases hc : j < k ∧ (m.getD j []).length ≤ 64
    · rw [if_pos hc] at h5
      exact ⟨by omega, hc.2, by rw [h7]; simpa using h5.symm⟩
    · rw [if_neg hc, he] at h5
      cases h5
theorem Dk.write_sb (D : Dk) (i : Int) (s : List UInt8) : (D.write i s).2.sb = D.sb := by
  have := Dk.act_sb D
  unfold Dk.write
  split
  · split
    · rfl
    · split
      · exact this
      · exact this
  · rfl
end Go.Sp
namespace Go.Sp
open Go Go.Proofs
set_option linter.unusedSimpArgs false
set_option linter.unusedVariables false
set_option maxRecDepth 10000
theorem Dk.calm.p {D : Dk} {sb n : Nat} (h : D.calm sb n) : D.p = .pointer (some ⟨sb, 0, none⟩) := by simp only [Dk.p, h.sb]
end Go.Sp
namespace Go.Sp
open Go
set_option maxRecDepth 100000
set_option linter.unusedVariables false
open Go.Proofs
variable (K : Env → W) (k : Value → W) {e : Enc} {args : Array Value} {G : e.α → W} {L : List HP} {ρ : Env}
attribute [local instance] cI cB cP cA
noncomputable def c28 := cf Tryz.f28 41 [(0, [0, 1, 2, 3]), (1, [0, 1, 2, 3]), (2, []), (3, [0, 1, 2]), (4, []), (5, [])] [(0, [0, 1, 2, 3]), (1, [0, 1, 2, 9]), (2, [8]), (3, [28]), (4, [8]), (5, [8]), (1000000, [8])] [] []
@[go_sem] theorem c28_i : c28.li 0 = [0, 1, 2, 3] ∧ c28.li 1 = [0, 1, 2, 3] ∧ c28.li 2 = [] ∧ c28.li 3 = [0, 1, 2] ∧ c28.li 4 = [] ∧ c28.li 5 = [] := ⟨rfl, rfl, rfl, rfl, rfl, rfl⟩
@[go_sem] theorem c28_r0 (v0 : Option Addr) (v1 v2 v3 : Int) : RP c28 0 [(0, v0), (1, v1), (2, v2), (3, v3)] K =
 (K [(0, v0), (1, v1), (2, v2), (3, v3)]) := by kernel_rfl
@[go_sem] theorem c28_r1 (v0 : Option Addr) (v1 v2 v3 : Int) : RP c28 1 [(0, v0), (1, v1), (2, v2), (3, v3)] K =
 (cnd (v0.isNone) (K [(0, v0), (1, v1), (2, v2), (9, true)]) (cnd (decide (v1 < 0)) (K [(0, v0), (1, v1), (2, v2), (9, true)]) (cnd (decide (v2 < 1)) (K [(0, v0), (1, v1), (2, v2), (9, true)]) (cnd (decide (v3 < 1)) (K [(0, v0), (1, v1), (2, v2), (9, true)]) (K [(0, v0), (1, v1), (2, v2), (9, decide (4294967296 ≤ v3))]))))) := by kernel_rfl
@[go_sem] theorem c28_r2 : RP c28 2 [] K =
 (K [(8, .int .i64 1)]) := by kernel_rfl
@[go_sem] theorem c28_r3 (v0 : Option Addr) (v1 v2 : Int) : RP c28 3 [(0, v0), (1, v1), (2, v2)] K =
 (cal eI Tryz.prog 54 #[v0] fun (y1_ : Int) => (cnd (decide (y1_ < v1)) (K [(28, true)]) (cal eI Tryz.prog 54 #[v0] fun (y2_ : Int) => (K [(28, decide ((IntKind.wrap .i64 (y2_ - v1)) < v2))])))) := by kernel_rfl
@[go_sem] theorem c28_r4 : RP c28 4 [] K =
 (K [(8, .int .i64 6)]) := by kernel_rfl
@[go_sem] theorem c28_r5 : RP c28 5 [] K =
 (K [(8, .int .i64 0)]) := by kernel_rfl
@[go_sem] theorem c28_o : c28.lo 1000000 = [8] := rfl
@[go_sem] theorem c28_e (v8 : Int) : RTp c28 [(8, v8)] k = (k (v8)) := by kernel_rfl
theorem c28_ok : (c28.P.follows .mixedOrders && okc c28 c28.body) = true := by kernel_rfl
theorem c28_fn (hρ : envA 0 args.toList = ρ) (hs : Nat.ble args.size 41 = true) (h : E L (D c28 (.seq (.reg 0) (.seq (.block 0 (.seq (.reg 1) (.cond (.tmp 9) (.seq (.reg 2) (.ret)) (.seq (.reg 3) (.cond (.tmp 28) (.seq (.reg 4) (.ret)) (.skip)))))) (.seq (.reg 5) (.ret)))) (fnQ c28 e G) ρ)) : E L (cal e Tryz.prog 28 args G) :=
  d_fn (c := c28) Tryz.func28 (by kernel_rfl) (by kernel_rfl) (by kernel_rfl) c28_ok (by kernel_rfl) (by kernel_rfl) hρ hs h
noncomputable def c29 := cf Tryz.f29 66 [(0, [0]), (1, [0]), (2, [0, 4]), (3, [0, 4, 5]), (4, [0, 4, 5, 15, 16]), (5, [0, 4, 5, 15, 16]), (6, [0, 4, 5, 6, 15, 16]), (7, [0, 4, 5, 7, 8, 15, 16]), (8, [8]), (9, [0, 4, 5, 7, 15, 16]), (10, [0, 4, 5, 9, 15, 16]), (11, [0, 4, 5, 9, 10, 11, 15, 16]), (12, [0, 4, 9, 10, 11, 15, 16]), (13, [0, 4, 5, 9, 11, 15, 16]), (14, [0, 4, 5, 11, 15, 16]), (15, [0, 4, 5, 15, 16]), (16, [4])] [(0, [0]), (1, [0, 4]), (2, [0, 4, 5]), (3, [0, 4, 5, 15, 16]), (4, [0, 4, 5, 15, 16, 17]), (5, [0, 4, 5, 6, 15, 16]), (6, [0, 4, 5, 7, 8, 15, 16]), (7, [0, 4, 5, 7, 8, 15, 16, 34]), (8, [2, 3]), (9, [0, 4, 5, 9, 15, 16]), (10, [0, 4, 5, 9, 10, 11, 15, 16]), (11, [0, 4, 9, 10, 11, 15, 16, 56]), (12, [0, 4, 5, 9, 11, 15, 16]), (13, [0, 4, 5, 11, 15, 16]), (14, [0, 4, 5, 15, 16, 63]), (15, [0, 4, 5, 15, 16]), (16, [2, 3]), (1000000, [2, 3])] [(6, (true, [(0, 1), (1, 1), (2, 1), (3, 0), (4, 1), (5, 1), (6, 1), (7, 0), (8, 1), (9, 1), (10, 4), (11, 1), (12, 1), (13, 1), (14, 1), (15, 1)]))] []
@[go_sem] theorem c29_i : c29.li 0 = [0] ∧ c29.li 1 = [0] ∧ c29.li 2 = [0, 4] ∧ c29.li 3 = [0, 4, 5] ∧ c29.li 4 = [0, 4, 5, 15, 16] ∧ c29.li 5 = [0, 4, 5, 15, 16] ∧ c29.li 6 = [0, 4, 5, 6, 15, 16] ∧ c29.li 7 = [0, 4, 5, 7, 8, 15, 16] ∧ c29.li 8 = [8] ∧ c29.li 9 = [0, 4, 5, 7, 15, 16] ∧ c29.li 10 = [0, 4, 5, 9, 15, 16] ∧ c29.li 11 = [0, 4, 5, 9, 10, 11, 15, 16] ∧ c29.li 12 = [0, 4, 9, 10, 11, 15, 16] ∧ c29.li 13 = [0, 4, 5, 9, 11, 15, 16] ∧ c29.li 14 = [0, 4, 5, 11, 15, 16] ∧ c29.li 15 = [0, 4, 5, 15, 16] ∧ c29.li 16 = [4] := ⟨rfl, rfl, rfl, rfl, rfl, rfl, rfl, rfl, rfl, rfl, rfl, rfl, rfl, rfl, rfl, rfl, rfl⟩
@[go_sem] theorem c29_r0 (v0 : Option Addr) : RP c29 0 [(0, v0)] K =
 (K [(0, v0)]) := by kernel_rfl
@[go_sem] theorem c29_r1 (v0 : Option Addr) : RP c29 1 [(0, v0)] K =
 (nwc #[.pointer none, .slice none 0 0] 110 fun y1_ => (K [(0, v0), (4, y1_)])) := by kernel_rfl
@[go_sem] theorem c29_r2 (v0 : Option Addr) (v4 : Addr) : RP c29 2 [(0, v0), (4, v4)] K =
 (K [(0, v0), (4, v4), (5, .int .i64 1)]) := by kernel_rfl
@[go_sem] theorem c29_r3 (v0 : Option Addr) (v4 : Addr) (v5 : Int) : RP c29 3 [(0, v0), (4, v4), (5, v5)] K =
 (nn v0 fun y1_ => (ld eI (y1_.add 2) fun (y2_ : Int) => (K [(0, v0), (4, v4), (5, v5), (15, y2_), (16, .int .i64 0)]))) := by kernel_rfl
@[go_sem] theorem c29_r4 (v0 : Option Addr) (v4 : Addr) (v5 v15 v16 : Int) : RP c29 4 [(0, v0), (4, v4), (5, v5), (15, v15), (16, v16)] K =
 (K [(0, v0), (4, v4), (5, v5), (15, v15), (16, v16), (17, decide (v16 < v15))]) := by kernel_rfl
@[go_sem] theorem c29_r5 (v0 : Option Addr) (v4 : Addr) (v5 v15 v16 : Int) : RP c29 5 [(0, v0), (4, v4), (5, v5), (15, v15), (16, v16)] K =
 (K [(0, v0), (4, v4), (5, v5), (6, v16), (15, v15), (16, v16)]) := by kernel_rfl
@[go_sem] theorem c29_r6 (v0 : Option Addr) (v4 : Addr) (v5 v6 v15 v16 : Int) : RP c29 6 [(0, v0), (4, v4), (5, v5), (6, v6), (15, v15), (16, v16)] K =
 (ph fun S0 => (nn v0 fun y1_ => (ldq S0 eP y1_ fun (y2_ : Option Addr) => (nn v0 fun y3_ => (ldq S0 eI (y3_.add 1) fun (y4_ : Int) => (cal (eT2 eS eI) Tryz.prog 55 #[y2_, IntKind.wrap .i64 (y4_ + v6)] fun (y5_ : ((List UInt8) × Int)) => (K [(0, v0), (4, v4), (5, v5), (7, str y5_.1), (8, y5_.2), (15, v15), (16, v16)]))))))) := by kernel_rfl
@[go_sem] theorem c29_r7 (v0 : Option Addr) (v4 : Addr) (v5 : Int) (v7 : List UInt8) (v8 v15 v16 : Int) : RP c29 7 [(0, v0), (4, v4), (5, v5), (7, str v7), (8, v8), (15, v15), (16, v16)] K =
 (K [(0, v0), (4, v4), (5, v5), (7, str v7), (8, v8), (15, v15), (16, v16), (34, .bool (v8 != 0))]) := by kernel_rfl
@[go_sem] theorem c29_r8 (v8 : Int) : RP c29 8 [(8, v8)] K =
 (K [(2, str ([] : List UInt8)), (3, v8)]) := by kernel_rfl
@[go_sem] theorem c29_r9 (v0 : Option Addr) (v4 : Addr) (v5 : Int) (v7 : List UInt8) (v15 v16 : Int) : RP c29 9 [(0, v0), (4, v4), (5, v5), (7, str v7), (15, v15), (16, v16)] K =
 (cal eP Tryz.prog 56 #[str v7] fun (y1_ : Option Addr) => (K [(0, v0), (4, v4), (5, v5), (9, y1_), (15, v15), (16, v16)])) := by kernel_rfl
@[go_sem] theorem c29_r10 (v0 : Option Addr) (v4 : Addr) (v5 : Int) (v9 : Option Addr) (v15 v16 : Int) : RP c29 10 [(0, v0), (4, v4), (5, v5), (9, v9), (15, v15), (16, v16)] K =
 (cal eI Tryz.prog 57 #[v9, .int .i64 4] fun (y1_ : Int) => (cal eI Tryz.prog 57 #[v9, .int .i64 2] fun (y2_ : Int) => (K [(0, v0), (4, v4), (5, v5), (9, v9), (10, y1_), (11, y2_), (15, v15), (16, v16)]))) := by kernel_rfl
@[go_sem] theorem c29_r11 (v0 : Option Addr) (v4 : Addr) (v5 : Int) (v9 : Option Addr) (v10 v11 v15 v16 : Int) : RP c29 11 [(0, v0), (4, v4), (5, v5), (9, v9), (10, v10), (11, v11), (15, v15), (16, v16)] K =
 (cnd (decide (v10 < v5)) (K [(0, v0), (4, v4), (9, v9), (10, v10), (11, v11), (15, v15), (16, v16), (56, true)]) (nn v0 fun y1_ => (ld eI (y1_.add 3) fun (y2_ : Int) => (cnd (decide (y2_ < v10)) (K [(0, v0), (4, v4), (9, v9), (10, v10), (11, v11), (15, v15), (16, v16), (56, true)]) (K [(0, v0), (4, v4), (9, v9), (10, v10), (11, v11), (15, v15), (16, v16), (56, decide (58 < v11))]))))) := by kernel_rfl
@[go_sem] theorem c29_r12 (v0 : Option Addr) (v4 : Addr) (v9 : Option Addr) (v10 v11 v15 v16 : Int) : RP c29 12 [(0, v0), (4, v4), (9, v9), (10, v10), (11, v11), (15, v15), (16, v16)] K =
 (K [(0, v0), (4, v4), (5, v10), (9, v9), (11, v11), (15, v15), (16, v16)]) := by kernel_rfl
@[go_sem] theorem c29_r13 (v0 : Option Addr) (v4 : Addr) (v5 : Int) (v9 : Option Addr) (v11 v15 v16 : Int) : RP c29 13 [(0, v0), (4, v4), (5, v5), (9, v9), (11, v11), (15, v15), (16, v16)] K =
 (cal eS Tryz.prog 59 #[v9, v11] fun (y1_ : List UInt8) => (cal (eT2 eI eV) Tryz.prog 58 #[v4, str y1_] fun (y2_ : (Int × Value)) => (K [(0, v0), (4, v4), (5, v5), (11, v11), (15, v15), (16, v16)]))) := by kernel_rfl
@[go_sem] theorem c29_r14 (v0 : Option Addr) (v4 : Addr) (v5 v11 v15 v16 : Int) : RP c29 14 [(0, v0), (4, v4), (5, v5), (11, v11), (15, v15), (16, v16)] K =
 (K [(0, v0), (4, v4), (5, v5), (15, v15), (16, v16), (63, decide (v11 < 58))]) := by kernel_rfl
@[go_sem] theorem c29_r15 (v0 : Option Addr) (v4 : Addr) (v5 v15 v16 : Int) : RP c29 15 [(0, v0), (4, v4), (5, v5), (15, v15), (16, v16)] K =
 (K [(0, v0), (4, v4), (5, v5), (15, v15), (16, IntKind.wrap .i64 (v16 + 1))]) := by kernel_rfl
@[go_sem] theorem c29_r16 (v4 : Addr) : RP c29 16 [(4, v4)] K =
 (cal eS Tryz.prog 60 #[v4] fun (y1_ : List UInt8) => (K [(2, str y1_), (3, .int .i64 0)])) := by kernel_rfl
@[go_sem] theorem c29_o : c29.lo 1000000 = [2, 3] := rfl
@[go_sem] theorem c29_e (v2 : List UInt8) (v3 : Int) : RTp c29 [(2, str v2), (3, v3)] k = (k (.tuple #[str v2, v3])) := by kernel_rfl
theorem c29_ok : (c29.P.follows .mixedOrders && okc c29 c29.body) = true := by kernel_rfl
theorem c29_fn (hρ : envA 0 args.toList = ρ) (hs : Nat.ble args.size 66 = true) (h : E L (D c29 (.seq (.reg 0) (.seq (.reg 1) (.seq (.reg 2) (.seq (.seq (.reg 3) (.block 0 (.loop (.seq (.reg 4) (.seq (.cond (.tmp 17) (.skip) (.exit 0)) (.seq (.block 1 (.seq (.reg 5) (.seq (.reg 6) (.seq (.seq (.reg 7) (.cond (.tmp 34) (.seq (.reg 8) (.ret)) (.skip))) (.seq (.reg 9) (.seq (.reg 10) (.seq (.seq (.reg 11) (.cond (.tmp 56) (.exit 0) (.skip))) (.seq (.reg 12) (.seq (.reg 13) (.seq (.reg 14) (.cond (.tmp 63) (.exit 0) (.skip)))))))))))) (.reg 15))))))) (.seq (.reg 16) (.ret)))))) (fnQ c29 e G) ρ)) : E L (cal e Tryz.prog 29 args G) :=
  d_fn (c := c29) Tryz.func29 (by kernel_rfl) (by kernel_rfl) (by kernel_rfl) c29_ok (by kernel_rfl) (by kernel_rfl) hρ hs h
noncomputable def c30 := cf Tryz.f30 20 [(0, [0]), (1, [0]), (2, [0, 3]), (3, [0, 3, 5, 6]), (4, [3]), (5, [0, 3, 5])] [(0, [0]), (1, [0, 3]), (2, [0, 3, 5, 6]), (3, [0, 3, 5, 15]), (4, [2]), (5, [0, 3]), (1000000, [2])] [] []
@[go_sem] theorem c30_i : c30.li 0 = [0] ∧ c30.li 1 = [0] ∧ c30.li 2 = [0, 3] ∧ c30.li 3 = [0, 3, 5, 6] ∧ c30.li 4 = [3] ∧ c30.li 5 = [0, 3, 5] := ⟨rfl, rfl, rfl, rfl, rfl, rfl⟩
@[go_sem] theorem c30_r0 (v0 : List UInt8) : RP c30 0 [(0, str v0)] K =
 (K [(0, str v0)]) := by kernel_rfl
@[go_sem] theorem c30_r1 (v0 : List UInt8) : RP c30 1 [(0, str v0)] K =
 (K [(0, str v0), (3, .int .i64 0)]) := by kernel_rfl
@[go_sem] theorem c30_r2 (v0 : List UInt8) (v3 : Int) : RP c30 2 [(0, str v0), (3, v3)] K =
 (cal (eT3 e_api_Rec eI eI) Tryz.prog 50 #[str v0, v3] fun (y1_ : (api_Rec × Int × Int)) => (nwc #[.int .i64 0, .int .i64 0, .int .i64 0, .int .i64 0, .int .i64 0, str ([] : List UInt8), str ([] : List UInt8), str ([] : List UInt8), .int .i64 0, .slice none 0 0, .slice none 0 0, .int .i64 0, .int .i64 0] 47 fun y2_ => (stl [.int .i64 y1_.1.Kind, .int .i64 y1_.1.Txn, .int .i64 y1_.1.Prev, .int .i64 y1_.1.Page, .int .i64 y1_.1.Act, str y1_.1.Key, str y1_.1.Old, str y1_.1.New, .int .i64 y1_.1.Next, .slice y1_.1.Images.1 y1_.1.Images.2.1 y1_.1.Images.2.2, .slice y1_.1.Table.1 y1_.1.Table.2.1 y1_.1.Table.2.2, .int .i64 y1_.1.Epoch, .int .i64 y1_.1.Node] y2_ 0 (K [(0, str v0), (3, v3), (5, .int .i64 y1_.2.1), (6, .int .i64 y1_.2.2)])))) := by kernel_rfl
@[go_sem] theorem c30_r3 (v0 : List UInt8) (v3 v5 v6 : Int) : RP c30 3 [(0, str v0), (3, v3), (5, v5), (6, v6)] K =
 (K [(0, str v0), (3, v3), (5, v5), (15, .bool (v6 != 0))]) := by kernel_rfl
@[go_sem] theorem c30_r4 (v3 : Int) : RP c30 4 [(3, v3)] K =
 (K [(2, v3)]) := by kernel_rfl
@[go_sem] theorem c30_r5 (v0 : List UInt8) (v3 v5 : Int) : RP c30 5 [(0, str v0), (3, v3), (5, v5)] K =
 (K [(0, str v0), (3, IntKind.wrap .i64 (v3 + v5))]) := by kernel_rfl
@[go_sem] theorem c30_o : c30.lo 1000000 = [2] := rfl
@[go_sem] theorem c30_e (v2 : Int) : RTp c30 [(2, v2)] k = (k (v2)) := by kernel_rfl
theorem c30_ok : (c30.P.follows .mixedOrders && okc c30 c30.body) = true := by kernel_rfl
theorem c30_fn (hρ : envA 0 args.toList = ρ) (hs : Nat.ble args.size 20 = true) (h : E L (D c30 (.seq (.reg 0) (.seq (.reg 1) (.block 0 (.loop (.block 1 (.seq (.reg 2) (.seq (.seq (.reg 3) (.cond (.tmp 15) (.seq (.reg 4) (.ret)) (.skip))) (.reg 5)))))))) (fnQ c30 e G) ρ)) : E L (cal e Tryz.prog 30 args G) :=
  d_fn (c := c30) Tryz.func30 (by kernel_rfl) (by kernel_rfl) (by kernel_rfl) c30_ok (by kernel_rfl) (by kernel_rfl) hρ hs h
noncomputable def c31 := cf Tryz.f31 23 [(0, [0]), (1, [0]), (2, [0, 3]), (3, [0, 3]), (4, [0])] [(0, [0]), (1, [0, 3]), (2, [0, 3, 12]), (3, [2]), (4, [2]), (1000000, [2])] [] []
@[go_sem] theorem c31_i : c31.li 0 = [0] ∧ c31.li 1 = [0] ∧ c31.li 2 = [0, 3] ∧ c31.li 3 = [0, 3] ∧ c31.li 4 = [0] := ⟨rfl, rfl, rfl, rfl, rfl⟩
@[go_sem] theorem c31_r0 (v0 : Option Addr) : RP c31 0 [(0, v0)] K =
 (K [(0, v0)]) := by kernel_rfl
@[go_sem] theorem c31_r1 (v0 : Option Addr) : RP c31 1 [(0, v0)] K =
 (nn v0 fun y1_ => (ld eI (y1_.add 5) fun (y2_ : Int) => (rq ((58 : Int) ≠ 0) (cal eI Tryz.prog 42 #[v0, IntKind.wrap .i64 (y2_.tdiv (58 : Int))] fun (y3_ : Int) => (K [(0, v0), (3, y3_)]))))) := by kernel_rfl
@[go_sem] theorem c31_r2 (v0 : Option Addr) (v3 : Int) : RP c31 2 [(0, v0), (3, v3)] K =
 (K [(0, v0), (3, v3), (12, .bool (v3 != 0))]) := by kernel_rfl
@[go_sem] theorem c31_r3 (v0 : Option Addr) (v3 : Int) : RP c31 3 [(0, v0), (3, v3)] K =
 (cal eI Tryz.prog 43 #[v0, v3] fun (y1_ : Int) => (K [(2, y1_)])) := by kernel_rfl
@[go_sem] theorem c31_r4 (v0 : Option Addr) : RP c31 4 [(0, v0)] K =
 (nn v0 fun y1_ => (ld eP y1_ fun (y2_ : Option Addr) => (cal eI Tryz.prog 44 #[y2_] fun (y3_ : Int) => (cal eI Tryz.prog 43 #[v0, y3_] fun (y4_ : Int) => (K [(2, y4_)]))))) := by kernel_rfl
@[go_sem] theorem c31_o : c31.lo 1000000 = [2] := rfl
@[go_sem] theorem c31_e (v2 : Int) : RTp c31 [(2, v2)] k = (k (v2)) := by kernel_rfl
theorem c31_ok : (c31.P.follows .mixedOrders && okc c31 c31.body) = true := by kernel_rfl
theorem c31_fn (hρ : envA 0 args.toList = ρ) (hs : Nat.ble args.size 23 = true) (h : E L (D c31 (.seq (.reg 0) (.seq (.seq (.reg 1) (.seq (.reg 2) (.cond (.tmp 12) (.seq (.reg 3) (.ret)) (.skip)))) (.seq (.reg 4) (.ret)))) (fnQ c31 e G) ρ)) : E L (cal e Tryz.prog 31 args G) :=
  d_fn (c := c31) Tryz.func31 (by kernel_rfl) (by kernel_rfl) (by kernel_rfl) c31_ok (by kernel_rfl) (by kernel_rfl) hρ hs h
noncomputable def c41 := cf Tryz.f41 11 [(0, [0]), (1, [0]), (2, []), (3, [0]), (4, []), (5, [])] [(0, [0]), (1, [0, 3]), (2, [2]), (3, [6]), (4, [2]), (5, [2]), (1000000, [2])] [] []
@[go_sem] theorem c41_i : c41.li 0 = [0] ∧ c41.li 1 = [0] ∧ c41.li 2 = [] ∧ c41.li 3 = [0] ∧ c41.li 4 = [] ∧ c41.li 5 = [] := ⟨rfl, rfl, rfl, rfl, rfl, rfl⟩
@[go_sem] theorem c41_r0 (v0 : Option Addr) : RP c41 0 [(0, v0)] K =
 (K [(0, v0)]) := by kernel_rfl
@[go_sem] theorem c41_r1 (v0 : Option Addr) : RP c41 1 [(0, v0)] K =
 (cal eB Tryz.prog 45 #[v0] fun (y1_ : Bool) => (K [(0, v0), (3, y1_)])) := by kernel_rfl
@[go_sem] theorem c41_r2 : RP c41 2 [] K =
 (K [(2, .int .i64 11)]) := by kernel_rfl
@[go_sem] theorem c41_r3 (v0 : Option Addr) : RP c41 3 [(0, v0)] K =
 (nn v0 fun y1_ => (ld eB (y1_.add 6) fun (y2_ : Bool) => (K [(6, y2_)]))) := by kernel_rfl
@[go_sem] theorem c41_r4 : RP c41 4 [] K =
 (K [(2, .int .i64 9)]) := by kernel_rfl
@[go_sem] theorem c41_r5 : RP c41 5 [] K =
 (K [(2, .int .i64 0)]) := by kernel_rfl
@[go_sem] theorem c41_o : c41.lo 1000000 = [2] := rfl
@[go_sem] theorem c41_e (v2 : Int) : RTp c41 [(2, v2)] k = (k (v2)) := by kernel_rfl
theorem c41_ok : (c41.P.follows .mixedOrders && okc c41 c41.body) = true := by kernel_rfl
theorem c41_fn (hρ : envA 0 args.toList = ρ) (hs : Nat.ble args.size 11 = true) (h : E L (D c41 (.seq (.reg 0) (.seq (.block 0 (.seq (.reg 1) (.cond (.tmp 3) (.seq (.reg 2) (.ret)) (.seq (.reg 3) (.cond (.tmp 6) (.seq (.reg 4) (.ret)) (.skip)))))) (.seq (.reg 5) (.ret)))) (fnQ c41 e G) ρ)) : E L (cal e Tryz.prog 41 args G) :=
  d_fn (c := c41) Tryz.func41 (by kernel_rfl) (by kernel_rfl) (by kernel_rfl) c41_ok (by kernel_rfl) (by kernel_rfl) hρ hs h
noncomputable def c42 := cf Tryz.f42 68 [(0, [0, 1]), (1, [0, 1]), (2, []), (3, [0, 1]), (4, [0, 1, 5]), (5, [0, 1, 5, 6]), (6, [0, 1, 5, 6]), (7, [0, 1, 5, 6]), (8, [0, 1, 5, 7])] [(0, [0, 1]), (1, [0, 1, 14]), (2, [4]), (3, [0, 1, 5]), (4, [0, 1, 5, 6]), (5, [0, 1, 5, 6]), (6, [0, 1, 5, 6]), (7, [0, 1, 5, 7]), (8, [4]), (1000000, [4])] [(3, (true, [(0, 1), (1, 1), (2, 1), (3, 0), (4, 1), (5, 1), (6, 1), (7, 1), (8, 1), (9, 0), (10, 1), (11, 1), (12, 1), (13, 1), (14, 1), (15, 1), (16, 1), (17, 1), (18, 0), (19, 1), (20, 1), (21, 1), (22, 1)])), (8, (true, [(0, 1), (1, 1), (2, 1), (3, 0), (4, 1), (5, 1), (6, 1), (7, 0), (8, 1), (9, 1), (10, 1), (11, 1), (12, 1), (13, 4), (14, 1)]))] []
@[go_sem] theorem c42_i : c42.li 0 = [0, 1] ∧ c42.li 1 = [0, 1] ∧ c42.li 2 = [] ∧ c42.li 3 = [0, 1] ∧ c42.li 4 = [0, 1, 5] ∧ c42.li 5 = [0, 1, 5, 6] ∧ c42.li 6 = [0, 1, 5, 6] ∧ c42.li 7 = [0, 1, 5, 6] ∧ c42.li 8 = [0, 1, 5, 7] := ⟨rfl, rfl, rfl, rfl, rfl, rfl, rfl, rfl, rfl⟩
@[go_sem] theorem c42_r0 (v0 : Option Addr) (v1 : Int) : RP c42 0 [(0, v0), (1, v1)] K =
 (K [(0, v0), (1, v1)]) := by kernel_rfl
@[go_sem] theorem c42_r1 (v0 : Option Addr) (v1 : Int) : RP c42 1 [(0, v0), (1, v1)] K =
 (nn v0 fun y1_ => (ld eI (y1_.add 2) fun (y2_ : Int) => (K [(0, v0), (1, v1), (14, decide (y2_ ≤ v1))]))) := by kernel_rfl
@[go_sem] theorem c42_r2 : RP c42 2 [] K =
 (K [(4, .int .i64 0)]) := by kernel_rfl
@[go_sem] theorem c42_r3 (v0 : Option Addr) (v1 : Int) : RP c42 3 [(0, v0), (1, v1)] K =
 (ph fun S0 => (nn v0 fun y1_ => (ldq S0 eS (y1_.add 4) fun (y2_ : List UInt8) => (nn v0 fun y3_ => (ldq S0 eS (y3_.add 4) fun (y4_ : List UInt8) => (nn v0 fun y5_ => (ldq S0 eS (y5_.add 4) fun (y6_ : List UInt8) => (rq (0 ≤ ((if (y4_.length : Int) < (IntKind.wrap .i64 (v1 * 58)) then (y4_.length : Int) else (IntKind.wrap .i64 (v1 * 58))) : Int) ∧ (if (y4_.length : Int) < (IntKind.wrap .i64 (v1 * 58)) then (y4_.length : Int) else (IntKind.wrap .i64 (v1 * 58))) ≤ (if (y6_.length : Int) < (IntKind.wrap .i64 ((IntKind.wrap .i64 (v1 + 1)) * 58)) then (y6_.length : Int) else (IntKind.wrap .i64 ((IntKind.wrap .i64 (v1 + 1)) * 58))) ∧ (if (y6_.length : Int) < (IntKind.wrap .i64 ((IntKind.wrap .i64 (v1 + 1)) * 58)) then (y6_.length : Int) else (IntKind.wrap .i64 ((IntKind.wrap .i64 (v1 + 1)) * 58))) ≤ (y2_.length : Int)) (K [(0, v0), (1, v1), (5, str (ss y2_ (if (y4_.length : Int) < (IntKind.wrap .i64 (v1 * 58)) then (y4_.length : Int) else (IntKind.wrap .i64 (v1 * 58))) (if (y6_.length : Int) < (IntKind.wrap .i64 ((IntKind.wrap .i64 (v1 + 1)) * 58)) then (y6_.length : Int) else (IntKind.wrap .i64 ((IntKind.wrap .i64 (v1 + 1)) * 58)))))]))))))))) := by kernel_rfl
@[go_sem] theorem c42_r4 (v0 : Option Addr) (v1 : Int) (v5 : List UInt8) : RP c42 4 [(0, v0), (1, v1), (5, str v5)] K =
 (nwc #[str ((⟨([] : List UInt8), (0 : Int)⟩ : pack_Writer).s), .int .i64 ((⟨([] : List UInt8), (0 : Int)⟩ : pack_Writer).e)] 132 fun y1_ => (K [(0, v0), (1, v1), (5, str v5), (6, y1_)])) := by kernel_rfl
@[go_sem] theorem c42_r5 (v0 : Option Addr) (v1 : Int) (v5 : List UInt8) (v6 : Addr) : RP c42 5 [(0, v0), (1, v1), (5, str v5), (6, v6)] K =
 (nn v0 fun y1_ => (ld eI (y1_.add 3) fun (y2_ : Int) => (cal eN Tryz.prog 68 #[v6, y2_, .int .i64 4] fun (y3_ : Unit) => (K [(0, v0), (1, v1), (5, str v5), (6, v6)])))) := by kernel_rfl
@[go_sem] theorem c42_r6 (v0 : Option Addr) (v1 : Int) (v5 : List UInt8) (v6 : Addr) : RP c42 6 [(0, v0), (1, v1), (5, str v5), (6, v6)] K =
 (cal eN Tryz.prog 68 #[v6, .int .i64 (v5.length : Int), .int .i64 2] fun (y1_ : Unit) => (K [(0, v0), (1, v1), (5, str v5), (6, v6)])) := by kernel_rfl
@[go_sem] theorem c42_r7 (v0 : Option Addr) (v1 : Int) (v5 : List UInt8) (v6 : Addr) : RP c42 7 [(0, v0), (1, v1), (5, str v5), (6, v6)] K =
 (cal (eT2 eS eI) Tryz.prog 69 #[v6] fun (y1_ : ((List UInt8) × Int)) => (K [(0, v0), (1, v1), (5, str v5), (7, str y1_.1)])) := by kernel_rfl
@[go_sem] theorem c42_r8 (v0 : Option Addr) (v1 : Int) (v5 v7 : List UInt8) : RP c42 8 [(0, v0), (1, v1), (5, str v5), (7, str v7)] K =
 (ph fun S0 => (nn v0 fun y1_ => (ldq S0 eP y1_ fun (y2_ : Option Addr) => (nn v0 fun y3_ => (ldq S0 eI (y3_.add 1) fun (y4_ : Int) => (rq ((v7.length : Int) + (v5.length : Int) ≤ 9223372036854775807) (cal eI Tryz.prog 70 #[y2_, IntKind.wrap .i64 (y4_ + v1), str (v7 ++ v5)] fun (y5_ : Int) => (K [(4, y5_)])))))))) := by kernel_rfl
@[go_sem] theorem c42_o : c42.lo 1000000 = [4] := rfl
@[go_sem] theorem c42_e (v4 : Int) : RTp c42 [(4, v4)] k = (k (v4)) := by kernel_rfl
theorem c42_ok : (c42.P.follows .mixedOrders && okc c42 c42.body) = true := by kernel_rfl
theorem c42_fn (hρ : envA 0 args.toList = ρ) (hs : Nat.ble args.size 68 = true) (h : E L (D c42 (.seq (.reg 0) (.seq (.seq (.reg 1) (.cond (.tmp 14) (.seq (.reg 2) (.ret)) (.skip))) (.seq (.reg 3) (.seq (.reg 4) (.seq (.reg 5) (.seq (.reg 6) (.seq (.reg 7) (.seq (.reg 8) (.ret))))))))) (fnQ c42 e G) ρ)) : E L (cal e Tryz.prog 42 args G) :=
  d_fn (c := c42) Tryz.func42 (by kernel_rfl) (by kernel_rfl) (by kernel_rfl) c42_ok (by kernel_rfl) (by kernel_rfl) hρ hs h
noncomputable def c43 := cf Tryz.f43 11 [(0, [0, 1]), (1, [0, 1]), (2, [0, 1]), (3, [1])] [(0, [0, 1]), (1, [0, 1, 6]), (2, [1]), (3, [4]), (1000000, [4])] [] []
@[go_sem] theorem c43_i : c43.li 0 = [0, 1] ∧ c43.li 1 = [0, 1] ∧ c43.li 2 = [0, 1] ∧ c43.li 3 = [1] := ⟨rfl, rfl, rfl, rfl⟩
@[go_sem] theorem c43_r0 (v0 : Option Addr) (v1 : Int) : RP c43 0 [(0, v0), (1, v1)] K =
 (K [(0, v0), (1, v1)]) := by kernel_rfl
@[go_sem] theorem c43_r1 (v0 : Option Addr) (v1 : Int) : RP c43 1 [(0, v0), (1, v1)] K =
 (K [(0, v0), (1, v1), (6, .bool (v1 != 0))]) := by kernel_rfl
@[go_sem] theorem c43_r2 (v0 : Option Addr) (v1 : Int) : RP c43 2 [(0, v0), (1, v1)] K =
 (nn v0 fun y1_ => (st (y1_.add 6) (true) (K [(1, v1)]))) := by kernel_rfl
@[go_sem] theorem c43_r3 (v1 : Int) : RP c43 3 [(1, v1)] K =
 (K [(4, v1)]) := by kernel_rfl
@[go_sem] theorem c43_o : c43.lo 1000000 = [4] := rfl
@[go_sem] theorem c43_e (v4 : Int) : RTp c43 [(4, v4)] k = (k (v4)) := by kernel_rfl
theorem c43_ok : (c43.P.follows .mixedOrders && okc c43 c43.body) = true := by kernel_rfl
theorem c43_fn (hρ : envA 0 args.toList = ρ) (hs : Nat.ble args.size 11 = true) (h : E L (D c43 (.seq (.reg 0) (.seq (.seq (.reg 1) (.cond (.tmp 6) (.reg 2) (.skip))) (.seq (.reg 3) (.ret)))) (fnQ c43 e G) ρ)) : E L (cal e Tryz.prog 43 args G) :=
  d_fn (c := c43) Tryz.func43 (by kernel_rfl) (by kernel_rfl) (by kernel_rfl) c43_ok (by kernel_rfl) (by kernel_rfl) hρ hs h
noncomputable def c45 := cf Tryz.f45 12 [(0, [0]), (1, [0])] [(0, [0]), (1, [2]), (1000000, [2])] [] []
@[go_sem] theorem c45_i : c45.li 0 = [0] ∧ c45.li 1 = [0] := ⟨rfl, rfl⟩
@[go_sem] theorem c45_r0 (v0 : Option Addr) : RP c45 0 [(0, v0)] K =
 (K [(0, v0)]) := by kernel_rfl
@[go_sem] theorem c45_r1 (v0 : Option Addr) : RP c45 1 [(0, v0)] K =
 (cnd (v0.isNone) (K [(2, true)]) (nn v0 fun y1_ => (ld eP y1_ fun (y2_ : Option Addr) => (K [(2, .bool (y2_.isNone))])))) := by kernel_rfl
@[go_sem] theorem c45_o : c45.lo 1000000 = [2] := rfl
@[go_sem] theorem c45_e (v2 : Bool) : RTp c45 [(2, v2)] k = (k (v2)) := by kernel_rfl
theorem c45_ok : (c45.P.follows .mixedOrders && okc c45 c45.body) = true := by kernel_rfl
theorem c45_fn (hρ : envA 0 args.toList = ρ) (hs : Nat.ble args.size 12 = true) (h : E L (D c45 (.seq (.reg 0) (.seq (.reg 1) (.ret))) (fnQ c45 e G) ρ)) : E L (cal e Tryz.prog 45 args G) :=
  d_fn (c := c45) Tryz.func45 (by kernel_rfl) (by kernel_rfl) (by kernel_rfl) c45_ok (by kernel_rfl) (by kernel_rfl) hρ hs h
noncomputable def c49 := cf Tryz.f49 23 [(0, [0, 1]), (1, [0, 1]), (2, []), (3, [0, 1]), (4, [0, 1, 6]), (5, [6])] [(0, [0, 1]), (1, [0, 1, 11]), (2, [4, 5]), (3, [0, 1, 6]), (4, [6]), (5, [4, 5]), (1000000, [4, 5])] [] []
@[go_sem] theorem c49_i : c49.li 0 = [0, 1] ∧ c49.li 1 = [0, 1] ∧ c49.li 2 = [] ∧ c49.li 3 = [0, 1] ∧ c49.li 4 = [0, 1, 6] ∧ c49.li 5 = [6] := ⟨rfl, rfl, rfl, rfl, rfl, rfl⟩
@[go_sem] theorem c49_r0 (v0 : Option Addr) (v1 : List UInt8) : RP c49 0 [(0, v0), (1, str v1)] K =
 (K [(0, v0), (1, str v1)]) := by kernel_rfl
@[go_sem] theorem c49_r1 (v0 : Option Addr) (v1 : List UInt8) : RP c49 1 [(0, v0), (1, str v1)] K =
 (cal eI Tryz.prog 76 #[v0] fun (y1_ : Int) => (K [(0, v0), (1, str v1), (11, decide (y1_ < (v1.length : Int)))])) := by kernel_rfl
@[go_sem] theorem c49_r2 : RP c49 2 [] K =
 (K [(4, .int .i64 0), (5, .int .i64 7)]) := by kernel_rfl
@[go_sem] theorem c49_r3 (v0 : Option Addr) (v1 : List UInt8) : RP c49 3 [(0, v0), (1, str v1)] K =
 (cal eI Tryz.prog 18 #[v0] fun (y1_ : Int) => (K [(0, v0), (1, str v1), (6, y1_)])) := by kernel_rfl
@[go_sem] theorem c49_r4 (v0 : Option Addr) (v1 : List UInt8) (v6 : Int) : RP c49 4 [(0, v0), (1, str v1), (6, v6)] K =
 (nn v0 fun y1_ => (ld eS (y1_.add 4) fun (y2_ : List UInt8) => (rq ((y2_.length : Int) + (v1.length : Int) ≤ 9223372036854775807) (nn v0 fun y3_ => (st (y3_.add 4) (str (y2_ ++ v1)) (K [(6, v6)])))))) := by kernel_rfl
@[go_sem] theorem c49_r5 (v6 : Int) : RP c49 5 [(6, v6)] K =
 (K [(4, v6), (5, .int .i64 0)]) := by kernel_rfl
@[go_sem] theorem c49_o : c49.lo 1000000 = [4, 5] := rfl
@[go_sem] theorem c49_e (v4 v5 : Int) : RTp c49 [(4, v4), (5, v5)] k = (k (.tuple #[v4, v5])) := by kernel_rfl
theorem c49_ok : (c49.P.follows .mixedOrders && okc c49 c49.body) = true := by kernel_rfl
theorem c49_fn (hρ : envA 0 args.toList = ρ) (hs : Nat.ble args.size 23 = true) (h : E L (D c49 (.seq (.reg 0) (.seq (.seq (.reg 1) (.cond (.tmp 11) (.seq (.reg 2) (.ret)) (.skip))) (.seq (.reg 3) (.seq (.reg 4) (.seq (.reg 5) (.ret)))))) (fnQ c49 e G) ρ)) : E L (cal e Tryz.prog 49 args G) :=
  d_fn (c := c49) Tryz.func49 (by kernel_rfl) (by kernel_rfl) (by kernel_rfl) c49_ok (by kernel_rfl) (by kernel_rfl) hρ hs h
end Go.Sp
namespace Go.Sp
open Go
set_option maxRecDepth 100000
set_option linter.unusedVariables false
open Go.Proofs
variable (K : Env → W) (k : Value → W) {e : Enc} {args : Array Value} {G : e.α → W} {L : List HP} {ρ : Env}
attribute [local instance] cI cB cP cA
noncomputable def c7 := cf Tryz.f7 58 [(0, [0, 1, 2, 3]), (1, [0, 1, 2, 3]), (2, [0, 1, 2, 3, 10]), (3, [10]), (4, [0, 1, 2, 3]), (5, [11]), (6, [11, 12, 13]), (7, [13]), (8, [11, 12]), (9, [11]), (10, [11]), (11, [11, 14]), (12, [14]), (13, [11])] [(0, [0, 1, 2, 3]), (1, [0, 1, 2, 3, 10]), (2, [0, 1, 2, 3, 10, 21]), (3, [8, 9]), (4, [11]), (5, [11, 12, 13]), (6, [11, 12, 13, 35]), (7, [8, 9]), (8, [11]), (9, [11]), (10, [11, 14]), (11, [11, 14, 55]), (12, [8, 9]), (13, [8, 9]), (1000000, [8, 9])] [] []
@[go_sem] theorem c7_i : c7.li 0 = [0, 1, 2, 3] ∧ c7.li 1 = [0, 1, 2, 3] ∧ c7.li 2 = [0, 1, 2, 3, 10] ∧ c7.li 3 = [10] ∧ c7.li 4 = [0, 1, 2, 3] ∧ c7.li 5 = [11] ∧ c7.li 6 = [11, 12, 13] ∧ c7.li 7 = [13] ∧ c7.li 8 = [11, 12] ∧ c7.li 9 = [11] ∧ c7.li 10 = [11] ∧ c7.li 11 = [11, 14] ∧ c7.li 12 = [14] ∧ c7.li 13 = [11] := ⟨rfl, rfl, rfl, rfl, rfl, rfl, rfl, rfl, rfl, rfl, rfl, rfl, rfl, rfl⟩
@[go_sem] theorem c7_r0 (v0 : Option Addr) (v1 v2 v3 : Int) : RP c7 0 [(0, v0), (1, v1), (2, v2), (3, v3)] K =
 (K [(0, v0), (1, v1), (2, v2), (3, v3)]) := by kernel_rfl
@[go_sem] theorem c7_r1 (v0 : Option Addr) (v1 v2 v3 : Int) : RP c7 1 [(0, v0), (1, v1), (2, v2), (3, v3)] K =
 (cal eI Tryz.prog 28 #[v0, v1, v2, v3] fun (y1_ : Int) => (K [(0, v0), (1, v1), (2, v2), (3, v3), (10, y1_)])) := by kernel_rfl
@[go_sem] theorem c7_r2 (v0 : Option Addr) (v1 v2 v3 v10 : Int) : RP c7 2 [(0, v0), (1, v1), (2, v2), (3, v3), (10, v10)] K =
 (K [(0, v0), (1, v1), (2, v2), (3, v3), (10, v10), (21, .bool (v10 != 0))]) := by kernel_rfl
@[go_sem] theorem c7_r3 (v10 : Int) : RP c7 3 [(10, v10)] K =
 (K [(8, .pointer none), (9, v10)]) := by kernel_rfl
@[go_sem] theorem c7_r4 (v0 : Option Addr) (v1 v2 v3 : Int) : RP c7 4 [(0, v0), (1, v1), (2, v2), (3, v3)] K =
 (nwc #[.pointer ((⟨v0, v1, v2, v3, ([] : List UInt8), (0 : Int), false⟩ : wal_Log).disk), .int .i64 ((⟨v0, v1, v2, v3, ([] : List UInt8), (0 : Int), false⟩ : wal_Log).base), .int .i64 ((⟨v0, v1, v2, v3, ([] : List UInt8), (0 : Int), false⟩ : wal_Log).sectors), .int .i64 ((⟨v0, v1, v2, v3, ([] : List UInt8), (0 : Int), false⟩ : wal_Log).run), str ((⟨v0, v1, v2, v3, ([] : List UInt8), (0 : Int), false⟩ : wal_Log).all), .int .i64 ((⟨v0, v1, v2, v3, ([] : List UInt8), (0 : Int), false⟩ : wal_Log).durable), .bool ((⟨v0, v1, v2, v3, ([] : List UInt8), (0 : Int), false⟩ : wal_Log).dead)] 74 fun y1_ => (K [(11, y1_)])) := by kernel_rfl
@[go_sem] theorem c7_r5 (v11 : Addr) : RP c7 5 [(11, v11)] K =
 (cal (eT2 eS eI) Tryz.prog 29 #[v11] fun (y1_ : ((List UInt8) × Int)) => (K [(11, v11), (12, str y1_.1), (13, y1_.2)])) := by kernel_rfl
@[go_sem] theorem c7_r6 (v11 : Addr) (v12 : List UInt8) (v13 : Int) : RP c7 6 [(11, v11), (12, str v12), (13, v13)] K =
 (K [(11, v11), (12, str v12), (13, v13), (35, .bool (v13 != 0))]) := by kernel_rfl
@[go_sem] theorem c7_r7 (v13 : Int) : RP c7 7 [(13, v13)] K =
 (K [(8, .pointer none), (9, v13)]) := by kernel_rfl
@[go_sem] theorem c7_r8 (v11 : Addr) (v12 : List UInt8) : RP c7 8 [(11, v11), (12, str v12)] K =
 (cal eI Tryz.prog 30 #[str v12] fun (y1_ : Int) => (rq (0 ≤ (0 : Int) ∧ 0 ≤ y1_ ∧ y1_ ≤ (v12.length : Int)) (st (v11.add 4) (str (ss v12 0 y1_)) (K [(11, v11)])))) := by kernel_rfl
@[go_sem] theorem c7_r9 (v11 : Addr) : RP c7 9 [(11, v11)] K =
 (ld eS (v11.add 4) fun (y1_ : List UInt8) => (st (v11.add 5) (.int .i64 (y1_.length : Int)) (K [(11, v11)]))) := by kernel_rfl
@[go_sem] theorem c7_r10 (v11 : Addr) : RP c7 10 [(11, v11)] K =
 (cal eI Tryz.prog 31 #[v11] fun (y1_ : Int) => (K [(11, v11), (14, y1_)])) := by kernel_rfl
@[go_sem] theorem c7_r11 (v11 : Addr) (v14 : Int) : RP c7 11 [(11, v11), (14, v14)] K =
 (K [(11, v11), (14, v14), (55, .bool (v14 != 0))]) := by kernel_rfl
@[go_sem] theorem c7_r12 (v14 : Int) : RP c7 12 [(14, v14)] K =
 (K [(8, .pointer none), (9, v14)]) := by kernel_rfl
@[go_sem] theorem c7_r13 (v11 : Addr) : RP c7 13 [(11, v11)] K =
 (K [(8, v11), (9, .int .i64 0)]) := by kernel_rfl
@[go_sem] theorem c7_o : c7.lo 1000000 = [8, 9] := rfl
@[go_sem] theorem c7_e (v8 : Option Addr) (v9 : Int) : RTp c7 [(8, v8), (9, v9)] k = (k (.tuple #[v8, v9])) := by kernel_rfl
theorem c7_ok : (c7.P.follows .mixedOrders && okc c7 c7.body) = true := by kernel_rfl
theorem c7_fn (hρ : envA 0 args.toList = ρ) (hs : Nat.ble args.size 58 = true) (h : E L (D c7 (.seq (.reg 0) (.seq (.seq (.reg 1) (.seq (.reg 2) (.cond (.tmp 21) (.seq (.reg 3) (.ret)) (.skip)))) (.seq (.reg 4) (.seq (.reg 5) (.seq (.seq (.reg 6) (.cond (.tmp 35) (.seq (.reg 7) (.ret)) (.skip))) (.seq (.reg 8) (.seq (.reg 9) (.seq (.seq (.reg 10) (.seq (.reg 11) (.cond (.tmp 55) (.seq (.reg 12) (.ret)) (.skip)))) (.seq (.reg 13) (.ret)))))))))) (fnQ c7 e G) ρ)) : E L (cal e Tryz.prog 7 args G) :=
  d_fn (c := c7) Tryz.func7 (by kernel_rfl) (by kernel_rfl) (by kernel_rfl) c7_ok (by kernel_rfl) (by kernel_rfl) hρ hs h
noncomputable def c18 := cf Tryz.f18 11 [(0, [0]), (1, [0]), (2, []), (3, [0])] [(0, [0]), (1, [0, 4]), (2, [2]), (3, [2]), (1000000, [2])] [] []
@[go_sem] theorem c18_i : c18.li 0 = [0] ∧ c18.li 1 = [0] ∧ c18.li 2 = [] ∧ c18.li 3 = [0] := ⟨rfl, rfl, rfl, rfl⟩
@[go_sem] theorem c18_r0 (v0 : Option Addr) : RP c18 0 [(0, v0)] K =
 (K [(0, v0)]) := by kernel_rfl
@[go_sem] theorem c18_r1 (v0 : Option Addr) : RP c18 1 [(0, v0)] K =
 (cal eB Tryz.prog 45 #[v0] fun (y1_ : Bool) => (K [(0, v0), (4, y1_)])) := by kernel_rfl
@[go_sem] theorem c18_r2 : RP c18 2 [] K =
 (K [(2, .int .i64 0)]) := by kernel_rfl
@[go_sem] theorem c18_r3 (v0 : Option Addr) : RP c18 3 [(0, v0)] K =
 (nn v0 fun y1_ => (ld eS (y1_.add 4) fun (y2_ : List UInt8) => (K [(2, IntKind.wrap .i64 ((y2_.length : Int) + 1))]))) := by kernel_rfl
@[go_sem] theorem c18_o : c18.lo 1000000 = [2] := rfl
@[go_sem] theorem c18_e (v2 : Int) : RTp c18 [(2, v2)] k = (k (v2)) := by kernel_rfl
theorem c18_ok : (c18.P.follows .mixedOrders && okc c18 c18.body) = true := by kernel_rfl
theorem c18_fn (hρ : envA 0 args.toList = ρ) (hs : Nat.ble args.size 11 = true) (h : E L (D c18 (.seq (.reg 0) (.seq (.seq (.reg 1) (.cond (.tmp 4) (.seq (.reg 2) (.ret)) (.skip))) (.seq (.reg 3) (.ret)))) (fnQ c18 e G) ρ)) : E L (cal e Tryz.prog 18 args G) :=
  d_fn (c := c18) Tryz.func18 (by kernel_rfl) (by kernel_rfl) (by kernel_rfl) c18_ok (by kernel_rfl) (by kernel_rfl) hρ hs h
noncomputable def c32 := cf Tryz.f32 27 [(0, [0, 1]), (1, [0, 3]), (2, [0, 3, 6]), (3, [6]), (4, [0, 3]), (5, [0, 7, 8]), (6, [8]), (7, [0, 7])] [(0, [0, 3]), (1, [0, 3, 6]), (2, [0, 3, 6, 12]), (3, [4, 5]), (4, [0, 7, 8]), (5, [0, 7, 8, 20]), (6, [4, 5]), (7, [4, 5]), (1000000, [4, 5])] [] []
@[go_sem] theorem c32_i : c32.li 0 = [0, 1] ∧ c32.li 1 = [0, 3] ∧ c32.li 2 = [0, 3, 6] ∧ c32.li 3 = [6] ∧ c32.li 4 = [0, 3] ∧ c32.li 5 = [0, 7, 8] ∧ c32.li 6 = [8] ∧ c32.li 7 = [0, 7] := ⟨rfl, rfl, rfl, rfl, rfl, rfl, rfl, rfl⟩
@[go_sem] theorem c32_r0 (v0 : Option Addr) (v1 : api_Rec) : RP c32 0 [(0, v0), (1, v_api_Rec v1)] K =
 (nwc #[v1.Kind, v1.Txn, v1.Prev, v1.Page, v1.Act, str v1.Key, str v1.Old, str v1.New, v1.Next, .slice v1.Images.1 v1.Images.2.1 v1.Images.2.2, .slice v1.Table.1 v1.Table.2.1 v1.Table.2.2, v1.Epoch, v1.Node] 47 fun y1_ => (K [(0, v0), (3, y1_)])) := by kernel_rfl
@[go_sem] theorem c32_r1 (v0 : Option Addr) (v3 : Addr) : RP c32 1 [(0, v0), (3, v3)] K =
 (cal eI Tryz.prog 41 #[v0] fun (y1_ : Int) => (K [(0, v0), (3, v3), (6, y1_)])) := by kernel_rfl
@[go_sem] theorem c32_r2 (v0 : Option Addr) (v3 : Addr) (v6 : Int) : RP c32 2 [(0, v0), (3, v3), (6, v6)] K =
 (K [(0, v0), (3, v3), (6, v6), (12, .bool (v6 != 0))]) := by kernel_rfl
@[go_sem] theorem c32_r3 (v6 : Int) : RP c32 3 [(6, v6)] K =
 (K [(4, .int .i64 0), (5, v6)]) := by kernel_rfl
@[go_sem] theorem c32_r4 (v0 : Option Addr) (v3 : Addr) : RP c32 4 [(0, v0), (3, v3)] K =
 (ldn e_api_Rec 13 v3 fun (y1_ : api_Rec) => (cal (eT2 eS eI) Tryz.prog 61 #[v_api_Rec y1_] fun (y2_ : ((List UInt8) × Int)) => (K [(0, v0), (7, str y2_.1), (8, y2_.2)]))) := by kernel_rfl
@[go_sem] theorem c32_r5 (v0 : Option Addr) (v7 : List UInt8) (v8 : Int) : RP c32 5 [(0, v0), (7, str v7), (8, v8)] K =
 (K [(0, v0), (7, str v7), (8, v8), (20, .bool (v8 != 0))]) := by kernel_rfl
@[go_sem] theorem c32_r6 (v8 : Int) : RP c32 6 [(8, v8)] K =
 (K [(4, .int .i64 0), (5, v8)]) := by kernel_rfl
@[go_sem] theorem c32_r7 (v0 : Option Addr) (v7 : List UInt8) : RP c32 7 [(0, v0), (7, str v7)] K =
 (cal (eT2 eI eI) Tryz.prog 49 #[v0, str v7] fun (y1_ : (Int × Int)) => (K [(4, y1_.1), (5, y1_.2)])) := by kernel_rfl
@[go_sem] theorem c32_o : c32.lo 1000000 = [4, 5] := rfl
@[go_sem] theorem c32_e (v4 v5 : Int) : RTp c32 [(4, v4), (5, v5)] k = (k (.tuple #[v4, v5])) := by kernel_rfl
theorem c32_ok : (c32.P.follows .mixedOrders && okc c32 c32.body) = true := by kernel_rfl
theorem c32_fn (hρ : envA 0 args.toList = ρ) (hs : Nat.ble args.size 27 = true) (h : E L (D c32 (.seq (.reg 0) (.seq (.seq (.reg 1) (.seq (.reg 2) (.cond (.tmp 12) (.seq (.reg 3) (.ret)) (.skip)))) (.seq (.reg 4) (.seq (.seq (.reg 5) (.cond (.tmp 20) (.seq (.reg 6) (.ret)) (.skip))) (.seq (.reg 7) (.ret)))))) (fnQ c32 e G) ρ)) : E L (cal e Tryz.prog 32 args G) :=
  d_fn (c := c32) Tryz.func32 (by kernel_rfl) (by kernel_rfl) (by kernel_rfl) c32_ok (by kernel_rfl) (by kernel_rfl) hρ hs h
noncomputable def c33 := cf Tryz.f33 46 [(0, [0, 1]), (1, [0, 1, 4]), (2, [4]), (3, [0, 1, 4]), (4, [4]), (5, [0, 1, 4]), (6, [1, 4, 7, 8, 9]), (7, [4, 9]), (8, [1, 4, 7, 8])] [(0, [0, 1, 4]), (1, [0, 1, 4, 10]), (2, [4, 5, 6]), (3, [0, 1, 4, 14]), (4, [4, 5, 6]), (5, [1, 4, 7, 8, 9]), (6, [1, 4, 7, 8, 9, 39]), (7, [4, 5, 6]), (8, [4, 5, 6]), (1000000, [4, 5, 6])] [] []
@[go_sem] theorem c33_i : c33.li 0 = [0, 1] ∧ c33.li 1 = [0, 1, 4] ∧ c33.li 2 = [4] ∧ c33.li 3 = [0, 1, 4] ∧ c33.li 4 = [4] ∧ c33.li 5 = [0, 1, 4] ∧ c33.li 6 = [1, 4, 7, 8, 9] ∧ c33.li 7 = [4, 9] ∧ c33.li 8 = [1, 4, 7, 8] := ⟨rfl, rfl, rfl, rfl, rfl, rfl, rfl, rfl, rfl⟩
@[go_sem] theorem c33_r0 (v0 : Option Addr) (v1 : Int) : RP c33 0 [(0, v0), (1, v1)] K =
 (nwc #[.int .i64 0, .int .i64 0, .int .i64 0, .int .i64 0, .int .i64 0, str ([] : List UInt8), str ([] : List UInt8), str ([] : List UInt8), .int .i64 0, .slice none 0 0, .slice none 0 0, .int .i64 0, .int .i64 0] 47 fun y1_ => (K [(0, v0), (1, v1), (4, y1_)])) := by kernel_rfl
@[go_sem] theorem c33_r1 (v0 : Option Addr) (v1 : Int) (v4 : Addr) : RP c33 1 [(0, v0), (1, v1), (4, v4)] K =
 (cal eB Tryz.prog 45 #[v0] fun (y1_ : Bool) => (K [(0, v0), (1, v1), (4, v4), (10, y1_)])) := by kernel_rfl
@[go_sem] theorem c33_r2 (v4 : Addr) : RP c33 2 [(4, v4)] K =
 (stl [.int .i64 ((⟨(0 : Int), (0 : Int), (0 : Int), (0 : Int), (0 : Int), ([] : List UInt8), ([] : List UInt8), ([] : List UInt8), (0 : Int), (none, 0, 0), (none, 0, 0), (0 : Int), (0 : Int)⟩ : api_Rec).Kind), .int .i64 ((⟨(0 : Int), (0 : Int), (0 : Int), (0 : Int), (0 : Int), ([] : List UInt8), ([] : List UInt8), ([] : List UInt8), (0 : Int), (none, 0, 0), (none, 0, 0), (0 : Int), (0 : Int)⟩ : api_Rec).Txn), .int .i64 ((⟨(0 : Int), (0 : Int), (0 : Int), (0 : Int), (0 : Int), ([] : List UInt8), ([] : List UInt8), ([] : List UInt8), (0 : Int), (none, 0, 0), (none, 0, 0), (0 : Int), (0 : Int)⟩ : api_Rec).Prev), .int .i64 ((⟨(0 : Int), (0 : Int), (0 : Int), (0 : Int), (0 : Int), ([] : List UInt8), ([] : List UInt8), ([] : List UInt8), (0 : Int), (none, 0, 0), (none, 0, 0), (0 : Int), (0 : Int)⟩ : api_Rec).Page), .int .i64 ((⟨(0 : Int), (0 : Int), (0 : Int), (0 : Int), (0 : Int), ([] : List UInt8), ([] : List UInt8), ([] : List UInt8), (0 : Int), (none, 0, 0), (none, 0, 0), (0 : Int), (0 : Int)⟩ : api_Rec).Act), str ((⟨(0 : Int), (0 : Int), (0 : Int), (0 : Int), (0 : Int), ([] : List UInt8), ([] : List UInt8), ([] : List UInt8), (0 : Int), (none, 0, 0), (none, 0, 0), (0 : Int), (0 : Int)⟩ : api_Rec).Key), str ((⟨(0 : Int), (0 : Int), (0 : Int), (0 : Int), (0 : Int), ([] : List UInt8), ([] : List UInt8), ([] : List UInt8), (0 : Int), (none, 0, 0), (none, 0, 0), (0 : Int), (0 : Int)⟩ : api_Rec).Old), str ((⟨(0 : Int), (0 : Int), (0 : Int), (0 : Int), (0 : Int), ([] : List UInt8), ([] : List UInt8), ([] : List UInt8), (0 : Int), (none, 0, 0), (none, 0, 0), (0 : Int), (0 : Int)⟩ : api_Rec).New), .int .i64 ((⟨(0 : Int), (0 : Int), (0 : Int), (0 : Int), (0 : Int), ([] : List UInt8), ([] : List UInt8), ([] : List UInt8), (0 : Int), (none, 0, 0), (none, 0, 0), (0 : Int), (0 : Int)⟩ : api_Rec).Next), .slice (((⟨(0 : Int), (0 : Int), (0 : Int), (0 : Int), (0 : Int), ([] : List UInt8), ([] : List UInt8), ([] : List UInt8), (0 : Int), (none, 0, 0), (none, 0, 0), (0 : Int), (0 : Int)⟩ : api_Rec).Images).1) (((⟨(0 : Int), (0 : Int), (0 : Int), (0 : Int), (0 : Int), ([] : List UInt8), ([] : List UInt8), ([] : List UInt8), (0 : Int), (none, 0, 0), (none, 0, 0), (0 : Int), (0 : Int)⟩ : api_Rec).Images).2.1) (((⟨(0 : Int), (0 : Int), (0 : Int), (0 : Int), (0 : Int), ([] : List UInt8), ([] : List UInt8), ([] : List UInt8), (0 : Int), (none, 0, 0), (none, 0, 0), (0 : Int), (0 : Int)⟩ : api_Rec).Images).2.2), .slice (((⟨(0 : Int), (0 : Int), (0 : Int), (0 : Int), (0 : Int), ([] : List UInt8), ([] : List UInt8), ([] : List UInt8), (0 : Int), (none, 0, 0), (none, 0, 0), (0 : Int), (0 : Int)⟩ : api_Rec).Table).1) (((⟨(0 : Int), (0 : Int), (0 : Int), (0 : Int), (0 : Int), ([] : List UInt8), ([] : List UInt8), ([] : List UInt8), (0 : Int), (none, 0, 0), (none, 0, 0), (0 : Int), (0 : Int)⟩ : api_Rec).Table).2.1) (((⟨(0 : Int), (0 : Int), (0 : Int), (0 : Int), (0 : Int), ([] : List UInt8), ([] : List UInt8), ([] : List UInt8), (0 : Int), (none, 0, 0), (none, 0, 0), (0 : Int), (0 : Int)⟩ : api_Rec).Table).2.2), .int .i64 ((⟨(0 : Int), (0 : Int), (0 : Int), (0 : Int), (0 : Int), ([] : List UInt8), ([] : List UInt8), ([] : List UInt8), (0 : Int), (none, 0, 0), (none, 0, 0), (0 : Int), (0 : Int)⟩ : api_Rec).Epoch), .int .i64 ((⟨(0 : Int), (0 : Int), (0 : Int), (0 : Int), (0 : Int), ([] : List UInt8), ([] : List UInt8), ([] : List UInt8), (0 : Int), (none, 0, 0), (none, 0, 0), (0 : Int), (0 : Int)⟩ : api_Rec).Node)] v4 0 (K [(4, v4), (5, .int .i64 0), (6, .int .i64 11)])) := by kernel_rfl
@[go_sem] theorem c33_r3 (v0 : Option Addr) (v1 : Int) (v4 : Addr) : RP c33 3 [(0, v0), (1, v1), (4, v4)] K =
 (cnd (decide (v1 < 1)) (K [(0, v0), (1, v1), (4, v4), (14, true)]) (nn v0 fun y1_ => (ld eS (y1_.add 4) fun (y2_ : List UInt8) => (K [(0, v0), (1, v1), (4, v4), (14, decide ((y2_.length : Int) < v1))])))) := by kernel_rfl
@[go_sem] theorem c33_r4 (v4 : Addr) : RP c33 4 [(4, v4)] K =
 (stl [.int .i64 ((⟨(0 : Int), (0 : Int), (0 : Int), (0 : Int), (0 : Int), ([] : List UInt8), ([] : List UInt8), ([] : List UInt8), (0 : Int), (none, 0, 0), (none, 0, 0), (0 : Int), (0 : Int)⟩ : api_Rec).Kind), .int .i64 ((⟨(0 : Int), (0 : Int), (0 : Int), (0 : Int), (0 : Int), ([] : List UInt8), ([] : List UInt8), ([] : List UInt8), (0 : Int), (none, 0, 0), (none, 0, 0), (0 : Int), (0 : Int)⟩ : api_Rec).Txn), .int .i64 ((⟨(0 : Int), (0 : Int), (0 : Int), (0 : Int), (0 : Int), ([] : List UInt8), ([] : List UInt8), ([] : List UInt8), (0 : Int), (none, 0, 0), (none, 0, 0), (0 : Int), (0 : Int)⟩ : api_Rec).Prev), .int .i64 ((⟨(0 : Int), (0 : Int), (0 : Int), (0 : Int), (0 : Int), ([] : List UInt8), ([] : List UInt8), ([] : List UInt8), (0 : Int), (none, 0, 0), (none, 0, 0), (0 : Int), (0 : Int)⟩ : api_Rec).Page), .int .i64 ((⟨(0 : Int), (0 : Int), (0 : Int), (0 : Int), (0 : Int), ([] : List UInt8), ([] : List UInt8), ([] : List UInt8), (0 : Int), (none, 0, 0), (none, 0, 0), (0 : Int), (0 : Int)⟩ : api_Rec).Act), str ((⟨(0 : Int), (0 : Int), (0 : Int), (0 : Int), (0 : Int), ([] : List UInt8), ([] : List UInt8), ([] : List UInt8), (0 : Int), (none, 0, 0), (none, 0, 0), (0 : Int), (0 : Int)⟩ : api_Rec).Key), str ((⟨(0 : Int), (0 : Int), (0 : Int), (0 : Int), (0 : Int), ([] : List UInt8), ([] : List UInt8), ([] : List UInt8), (0 : Int), (none, 0, 0), (none, 0, 0), (0 : Int), (0 : Int)⟩ : api_Rec).Old), str ((⟨(0 : Int), (0 : Int), (0 : Int), (0 : Int), (0 : Int), ([] : List UInt8), ([] : List UInt8), ([] : List UInt8), (0 : Int), (none, 0, 0), (none, 0, 0), (0 : Int), (0 : Int)⟩ : api_Rec).New), .int .i64 ((⟨(0 : Int), (0 : Int), (0 : Int), (0 : Int), (0 : Int), ([] : List UInt8), ([] : List UInt8), ([] : List UInt8), (0 : Int), (none, 0, 0), (none, 0, 0), (0 : Int), (0 : Int)⟩ : api_Rec).Next), .slice (((⟨(0 : Int), (0 : Int), (0 : Int), (0 : Int), (0 : Int), ([] : List UInt8), ([] : List UInt8), ([] : List UInt8), (0 : Int), (none, 0, 0), (none, 0, 0), (0 : Int), (0 : Int)⟩ : api_Rec).Images).1) (((⟨(0 : Int), (0 : Int), (0 : Int), (0 : Int), (0 : Int), ([] : List UInt8), ([] : List UInt8), ([] : List UInt8), (0 : Int), (none, 0, 0), (none, 0, 0), (0 : Int), (0 : Int)⟩ : api_Rec).Images).2.1) (((⟨(0 : Int), (0 : Int), (0 : Int), (0 : Int), (0 : Int), ([] : List UInt8), ([] : List UInt8), ([] : List UInt8), (0 : Int), (none, 0, 0), (none, 0, 0), (0 : Int), (0 : Int)⟩ : api_Rec).Images).2.2), .slice (((⟨(0 : Int), (0 : Int), (0 : Int), (0 : Int), (0 : Int), ([] : List UInt8), ([] : List UInt8), ([] : List UInt8), (0 : Int), (none, 0, 0), (none, 0, 0), (0 : Int), (0 : Int)⟩ : api_Rec).Table).1) (((⟨(0 : Int), (0 : Int), (0 : Int), (0 : Int), (0 : Int), ([] : List UInt8), ([] : List UInt8), ([] : List UInt8), (0 : Int), (none, 0, 0), (none, 0, 0), (0 : Int), (0 : Int)⟩ : api_Rec).Table).2.1) (((⟨(0 : Int), (0 : Int), (0 : Int), (0 : Int), (0 : Int), ([] : List UInt8), ([] : List UInt8), ([] : List UInt8), (0 : Int), (none, 0, 0), (none, 0, 0), (0 : Int), (0 : Int)⟩ : api_Rec).Table).2.2), .int .i64 ((⟨(0 : Int), (0 : Int), (0 : Int), (0 : Int), (0 : Int), ([] : List UInt8), ([] : List UInt8), ([] : List UInt8), (0 : Int), (none, 0, 0), (none, 0, 0), (0 : Int), (0 : Int)⟩ : api_Rec).Epoch), .int .i64 ((⟨(0 : Int), (0 : Int), (0 : Int), (0 : Int), (0 : Int), ([] : List UInt8), ([] : List UInt8), ([] : List UInt8), (0 : Int), (none, 0, 0), (none, 0, 0), (0 : Int), (0 : Int)⟩ : api_Rec).Node)] v4 0 (K [(4, v4), (5, .int .i64 0), (6, .int .i64 8)])) := by kernel_rfl
@[go_sem] theorem c33_r5 (v0 : Option Addr) (v1 : Int) (v4 : Addr) : RP c33 5 [(0, v0), (1, v1), (4, v4)] K =
 (nn v0 fun y1_ => (ld eS (y1_.add 4) fun (y2_ : List UInt8) => (cal (eT3 e_api_Rec eI eI) Tryz.prog 50 #[str y2_, IntKind.wrap .i64 (v1 - 1)] fun (y3_ : (api_Rec × Int × Int)) => (nwc #[.int .i64 0, .int .i64 0, .int .i64 0, .int .i64 0, .int .i64 0, str ([] : List UInt8), str ([] : List UInt8), str ([] : List UInt8), .int .i64 0, .slice none 0 0, .slice none 0 0, .int .i64 0, .int .i64 0] 47 fun y4_ => (stl [.int .i64 y3_.1.Kind, .int .i64 y3_.1.Txn, .int .i64 y3_.1.Prev, .int .i64 y3_.1.Page, .int .i64 y3_.1.Act, str y3_.1.Key, str y3_.1.Old, str y3_.1.New, .int .i64 y3_.1.Next, .slice y3_.1.Images.1 y3_.1.Images.2.1 y3_.1.Images.2.2, .slice y3_.1.Table.1 y3_.1.Table.2.1 y3_.1.Table.2.2, .int .i64 y3_.1.Epoch, .int .i64 y3_.1.Node] y4_ 0 (K [(1, v1), (4, v4), (7, y4_), (8, .int .i64 y3_.2.1), (9, .int .i64 y3_.2.2)])))))) := by kernel_rfl
@[go_sem] theorem c33_r6 (v1 : Int) (v4 v7 : Addr) (v8 v9 : Int) : RP c33 6 [(1, v1), (4, v4), (7, v7), (8, v8), (9, v9)] K =
 (K [(1, v1), (4, v4), (7, v7), (8, v8), (9, v9), (39, .bool (v9 != 0))]) := by kernel_rfl
@[go_sem] theorem c33_r7 (v4 : Addr) (v9 : Int) : RP c33 7 [(4, v4), (9, v9)] K =
 (stl [.int .i64 ((⟨(0 : Int), (0 : Int), (0 : Int), (0 : Int), (0 : Int), ([] : List UInt8), ([] : List UInt8), ([] : List UInt8), (0 : Int), (none, 0, 0), (none, 0, 0), (0 : Int), (0 : Int)⟩ : api_Rec).Kind), .int .i64 ((⟨(0 : Int), (0 : Int), (0 : Int), (0 : Int), (0 : Int), ([] : List UInt8), ([] : List UInt8), ([] : List UInt8), (0 : Int), (none, 0, 0), (none, 0, 0), (0 : Int), (0 : Int)⟩ : api_Rec).Txn), .int .i64 ((⟨(0 : Int), (0 : Int), (0 : Int), (0 : Int), (0 : Int), ([] : List UInt8), ([] : List UInt8), ([] : List UInt8), (0 : Int), (none, 0, 0), (none, 0, 0), (0 : Int), (0 : Int)⟩ : api_Rec).Prev), .int .i64 ((⟨(0 : Int), (0 : Int), (0 : Int), (0 : Int), (0 : Int), ([] : List UInt8), ([] : List UInt8), ([] : List UInt8), (0 : Int), (none, 0, 0), (none, 0, 0), (0 : Int), (0 : Int)⟩ : api_Rec).Page), .int .i64 ((⟨(0 : Int), (0 : Int), (0 : Int), (0 : Int), (0 : Int), ([] : List UInt8), ([] : List UInt8), ([] : List UInt8), (0 : Int), (none, 0, 0), (none, 0, 0), (0 : Int), (0 : Int)⟩ : api_Rec).Act), str ((⟨(0 : Int), (0 : Int), (0 : Int), (0 : Int), (0 : Int), ([] : List UInt8), ([] : List UInt8), ([] : List UInt8), (0 : Int), (none, 0, 0), (none, 0, 0), (0 : Int), (0 : Int)⟩ : api_Rec).Key), str ((⟨(0 : Int), (0 : Int), (0 : Int), (0 : Int), (0 : Int), ([] : List UInt8), ([] : List UInt8), ([] : List UInt8), (0 : Int), (none, 0, 0), (none, 0, 0), (0 : Int), (0 : Int)⟩ : api_Rec).Old), str ((⟨(0 : Int), (0 : Int), (0 : Int), (0 : Int), (0 : Int), ([] : List UInt8), ([] : List UInt8), ([] : List UInt8), (0 : Int), (none, 0, 0), (none, 0, 0), (0 : Int), (0 : Int)⟩ : api_Rec).New), .int .i64 ((⟨(0 : Int), (0 : Int), (0 : Int), (0 : Int), (0 : Int), ([] : List UInt8), ([] : List UInt8), ([] : List UInt8), (0 : Int), (none, 0, 0), (none, 0, 0), (0 : Int), (0 : Int)⟩ : api_Rec).Next), .slice (((⟨(0 : Int), (0 : Int), (0 : Int), (0 : Int), (0 : Int), ([] : List UInt8), ([] : List UInt8), ([] : List UInt8), (0 : Int), (none, 0, 0), (none, 0, 0), (0 : Int), (0 : Int)⟩ : api_Rec).Images).1) (((⟨(0 : Int), (0 : Int), (0 : Int), (0 : Int), (0 : Int), ([] : List UInt8), ([] : List UInt8), ([] : List UInt8), (0 : Int), (none, 0, 0), (none, 0, 0), (0 : Int), (0 : Int)⟩ : api_Rec).Images).2.1) (((⟨(0 : Int), (0 : Int), (0 : Int), (0 : Int), (0 : Int), ([] : List UInt8), ([] : List UInt8), ([] : List UInt8), (0 : Int), (none, 0, 0), (none, 0, 0), (0 : Int), (0 : Int)⟩ : api_Rec).Images).2.2), .slice (((⟨(0 : Int), (0 : Int), (0 : Int), (0 : Int), (0 : Int), ([] : List UInt8), ([] : List UInt8), ([] : List UInt8), (0 : Int), (none, 0, 0), (none, 0, 0), (0 : Int), (0 : Int)⟩ : api_Rec).Table).1) (((⟨(0 : Int), (0 : Int), (0 : Int), (0 : Int), (0 : Int), ([] : List UInt8), ([] : List UInt8), ([] : List UInt8), (0 : Int), (none, 0, 0), (none, 0, 0), (0 : Int), (0 : Int)⟩ : api_Rec).Table).2.1) (((⟨(0 : Int), (0 : Int), (0 : Int), (0 : Int), (0 : Int), ([] : List UInt8), ([] : List UInt8), ([] : List UInt8), (0 : Int), (none, 0, 0), (none, 0, 0), (0 : Int), (0 : Int)⟩ : api_Rec).Table).2.2), .int .i64 ((⟨(0 : Int), (0 : Int), (0 : Int), (0 : Int), (0 : Int), ([] : List UInt8), ([] : List UInt8), ([] : List UInt8), (0 : Int), (none, 0, 0), (none, 0, 0), (0 : Int), (0 : Int)⟩ : api_Rec).Epoch), .int .i64 ((⟨(0 : Int), (0 : Int), (0 : Int), (0 : Int), (0 : Int), ([] : List UInt8), ([] : List UInt8), ([] : List UInt8), (0 : Int), (none, 0, 0), (none, 0, 0), (0 : Int), (0 : Int)⟩ : api_Rec).Node)] v4 0 (K [(4, v4), (5, .int .i64 0), (6, v9)])) := by kernel_rfl
@[go_sem] theorem c33_r8 (v1 : Int) (v4 v7 : Addr) (v8 : Int) : RP c33 8 [(1, v1), (4, v4), (7, v7), (8, v8)] K =
 (ldn e_api_Rec 13 v7 fun (y1_ : api_Rec) => (stl [y1_.Kind, y1_.Txn, y1_.Prev, y1_.Page, y1_.Act, str y1_.Key, str y1_.Old, str y1_.New, y1_.Next, .slice y1_.Images.1 y1_.Images.2.1 y1_.Images.2.2, .slice y1_.Table.1 y1_.Table.2.1 y1_.Table.2.2, y1_.Epoch, y1_.Node] v4 0 (K [(4, v4), (5, IntKind.wrap .i64 (v1 + v8)), (6, .int .i64 0)]))) := by kernel_rfl
@[go_sem] theorem c33_o : c33.lo 1000000 = [4, 5, 6] := rfl
@[go_sem] theorem c33_e (v4 : Addr) (v5 v6 : Int) : RTp c33 [(4, v4), (5, v5), (6, v6)] k = (ldn e_api_Rec 13 v4 fun (y1_ : api_Rec) => (k (.tuple #[v_api_Rec y1_, v5, v6]))) := by kernel_rfl
theorem c33_ok : (c33.P.follows .mixedOrders && okc c33 c33.body) = true := by kernel_rfl
theorem c33_fn (hρ : envA 0 args.toList = ρ) (hs : Nat.ble args.size 46 = true) (h : E L (D c33 (.seq (.reg 0) (.seq (.block 0 (.seq (.reg 1) (.cond (.tmp 10) (.seq (.reg 2) (.ret)) (.seq (.reg 3) (.cond (.tmp 14) (.seq (.reg 4) (.ret)) (.skip)))))) (.seq (.reg 5) (.seq (.seq (.reg 6) (.cond (.tmp 39) (.seq (.reg 7) (.ret)) (.skip))) (.seq (.reg 8) (.ret)))))) (fnQ c33 e G) ρ)) : E L (cal e Tryz.prog 33 args G) :=
  d_fn (c := c33) Tryz.func33 (by kernel_rfl) (by kernel_rfl) (by kernel_rfl) c33_ok (by kernel_rfl) (by kernel_rfl) hρ hs h
noncomputable def c76 := cf Tryz.f76 16 [(0, [0]), (1, [0]), (2, []), (3, [0])] [(0, [0]), (1, [0, 4]), (2, [2]), (3, [2]), (1000000, [2])] [(3, (true, [(0, 1), (1, 1), (2, 1), (3, 0), (4, 1), (5, 1), (6, 1), (7, 1), (8, 0), (9, 1), (10, 1), (11, 1)]))] []
@[go_sem] theorem c76_i : c76.li 0 = [0] ∧ c76.li 1 = [0] ∧ c76.li 2 = [] ∧ c76.li 3 = [0] := ⟨rfl, rfl, rfl, rfl⟩
@[go_sem] theorem c76_r0 (v0 : Option Addr) : RP c76 0 [(0, v0)] K =
 (K [(0, v0)]) := by kernel_rfl
@[go_sem] theorem c76_r1 (v0 : Option Addr) : RP c76 1 [(0, v0)] K =
 (cal eB Tryz.prog 45 #[v0] fun (y1_ : Bool) => (K [(0, v0), (4, y1_)])) := by kernel_rfl
@[go_sem] theorem c76_r2 : RP c76 2 [] K =
 (K [(2, .int .i64 0)]) := by kernel_rfl
@[go_sem] theorem c76_r3 (v0 : Option Addr) : RP c76 3 [(0, v0)] K =
 (ph fun S0 => (nn v0 fun y1_ => (ldq S0 eI (y1_.add 2) fun (y2_ : Int) => (nn v0 fun y3_ => (ldq S0 eS (y3_.add 4) fun (y4_ : List UInt8) => (K [(2, IntKind.wrap .i64 ((IntKind.wrap .i64 (y2_ * 58)) - (y4_.length : Int)))])))))) := by kernel_rfl
@[go_sem] theorem c76_o : c76.lo 1000000 = [2] := rfl
@[go_sem] theorem c76_e (v2 : Int) : RTp c76 [(2, v2)] k = (k (v2)) := by kernel_rfl
theorem c76_ok : (c76.P.follows .mixedOrders && okc c76 c76.body) = true := by kernel_rfl
theorem c76_fn (hρ : envA 0 args.toList = ρ) (hs : Nat.ble args.size 16 = true) (h : E L (D c76 (.seq (.reg 0) (.seq (.seq (.reg 1) (.cond (.tmp 4) (.seq (.reg 2) (.ret)) (.skip))) (.seq (.reg 3) (.ret)))) (fnQ c76 e G) ρ)) : E L (cal e Tryz.prog 76 args G) :=
  d_fn (c := c76) Tryz.func76 (by kernel_rfl) (by kernel_rfl) (by kernel_rfl) c76_ok (by kernel_rfl) (by kernel_rfl) hρ hs h
end Go.Sp
namespace Go.Sp
open Go Go.Proofs
set_option linter.unusedSimpArgs false
set_option linter.unusedVariables false
set_option maxRecDepth 10000
structure Lg where
  q : Nat
  base : Nat
  sectors : Nat
  run : Nat
  all : List UInt8
  durable : Nat
  dead : Bool
abbrev lgp (G : Lg) (sb : Nat) : HP := ar G.q 74 [.pointer (some ⟨sb, 0, none⟩), .int .i64 (G.base : Int), .int .i64 (G.sectors : Int), .int .i64 (G.run : Int), str G.all, .int .i64 (G.durable : Int), .bool G.dead]
abbrev Lg.p (G : Lg) : Value := .pointer (some ⟨G.q, 0, none⟩)
structure Lg.ok (G : Lg) (n : Nat) : Prop where
  s1 : 1 ≤ G.sectors
  fit : G.base + G.sectors ≤ n
  n1 : n ≤ 8192
  r1 : 1 ≤ G.run
  r2 : G.run < 4294967296
  du : G.durable ≤ G.all.length
  le : G.all.length ≤ 58 * G.sectors
theorem g83 (G : Lg) (sb : Nat) : Fp eB Tryz.prog 45 #[G.p] [lgp G sb] false := fun L => by
  refine c45_fn rfl rfl ?_
  repeat' (first | (with_reducible first | refine d_seq fun K hK => ?_ | (refine hK _ _ ?_; clear hK K) | (refine SG.p ?_; try intro b) | refine SP.p ?_) | refine i_c ?_ ?_ <;> intro hc <;> try simp only [push_cast, seval] at hc | refine i_x ?_ | clear hK K)
  (with_reducible first | apply i_ret0 | apply i_ret2 | apply i_ret3 | apply i_ret); exact rfl
  rfl
def Lg.off (G : Lg) : Int := if G.dead then 9 else 0
theorem g75 (G : Lg) (sb : Nat) : Fp eI Tryz.prog 41 #[G.p] [lgp G sb] G.off := fun L => by
  unfold Lg.off
  refine c41_fn rfl rfl ?_
  repeat' (first | (with_reducible first | refine d_seq fun K hK => ?_ | (refine hK _ _ ?_; clear hK K) | (refine SG.p ?_; try intro b)) | refine i_c ?_ ?_ <;> intro hc <;> try simp only [push_cast, seval] at hc | refine i_x ?_ | clear hK K)
  refine i_clp (g83 G sb) ?_
  repeat' (first | (with_reducible first | refine d_seq fun K hK => ?_ | (refine hK _ _ ?_; clear hK K) | (refine SG.p ?_; try intro b)) | refine i_c ?_ ?_ <;> intro hc <;> try simp only [push_cast, seval] at hc | refine i_x ?_ | clear hK K)
  all_goals try contradiction
  · (with_reducible first | apply i_ret0 | apply i_ret2 | apply i_ret3 | apply i_ret); exact rfl
    rw [if_pos (by assumption)]
  · (with_reducible first | apply i_ret0 | apply i_ret2 | apply i_ret3 | apply i_ret); exact rfl
    rw [if_neg (by simpa using hc)]
def Lg.down (G : Lg) (e : Int) : Lg := if e = 0 then G else { G with dead := true }
theorem g78 (G : Lg) (sb : Nat) (e : Int) : Fq eI Tryz.prog 43 #[G.p, .int .i64 e] [lgp G sb] [lgp (G.down e) sb] e := fun L => by
  unfold Lg.down
  refine c43_fn rfl rfl ?_
  by_cases he : e = 0
  · rw [if_pos he]
    repeat' (first | (with_reducible first | refine d_seq fun K hK => ?_ | (refine hK _ _ ?_; clear hK K) | (refine SG.p ?_; try intro b)) | refine i_c ?_ ?_ <;> intro hc <;> try simp only [push_cast, seval] at hc | refine i_x ?_ | clear hK K)
    all_goals try (first | contradiction | (simp only [ reduceCtorEq] at *; done) | (exfalso; omega))
    (with_reducible first | apply i_ret0 | apply i_ret2 | apply i_ret3 | apply i_ret); exact rfl
    rfl
  · rw [if_neg he]
    repeat' (first | (with_reducible first | refine d_seq fun K hK => ?_ | (refine hK _ _ ?_; clear hK K) | (refine SG.p ?_; try intro b)) | refine i_c ?_ ?_ <;> intro hc <;> try simp only [push_cast, seval] at hc | refine i_x ?_ | clear hK K)
    all_goals try (first | contradiction | (simp only [ reduceCtorEq] at *; done) | (exfalso; omega))
    (with_reducible first | apply i_ret0 | apply i_ret2 | apply i_ret3 | apply i_ret); exact rfl
    rfl
theorem g28 (G : Lg) (sb : Nat) (h : G.all.length ≤ 1000000) : Fp eI Tryz.prog 18 #[G.p] [lgp G sb] ((G.all.length + 1 : Nat) : Int) := fun L => by
  refine c18_fn rfl rfl ?_
  repeat' (first | (with_reducible first | refine d_seq fun K hK => ?_ | (refine hK _ _ ?_; clear hK K) | (refine SG.p ?_; try intro b)) | refine i_c ?_ ?_ <;> intro hc <;> try simp only [push_cast, seval] at hc | refine i_x ?_ | clear hK K)
  refine i_clp (g83 G sb) ?_
  repeat' (first | (with_reducible first | refine d_seq fun K hK => ?_ | (refine hK _ _ ?_; clear hK K) | (refine SG.p ?_; try intro b) | refine SP.p ?_) | refine i_c ?_ ?_ <;> intro hc <;> try simp only [push_cast, seval] at hc | refine i_x ?_ | clear hK K)
  (with_reducible first | apply i_ret0 | apply i_ret2 | apply i_ret3 | apply i_ret); exact rfl
  rw [w64 (by omega) (by omega)]
  rfl
theorem g30 (G : Lg) (sb : Nat) (h : G.all.length ≤ 58 * G.sectors) (h2 : G.sectors ≤ 8192) : Fp eI Tryz.prog 76 #[G.p] [lgp G sb] ((58 * G.sectors - G.all.length : Nat) : Int) := fun L => by
  refine c76_fn rfl rfl ?_
  repeat' (first | (with_reducible first | refine d_seq fun K hK => ?_ | (refine hK _ _ ?_; clear hK K) | (refine SG.p ?_; try intro b)) | refine i_c ?_ ?_ <;> intro hc <;> try simp only [push_cast, seval] at hc | refine i_x ?_ | clear hK K)
  refine i_clp (g83 G sb) ?_
  repeat' (first | (with_reducible first | refine d_seq fun K hK => ?_ | (refine hK _ _ ?_; clear hK K) | (refine SG.p ?_; try intro b) | refine SP.p ?_) | refine i_c ?_ ?_ <;> intro hc <;> try simp only [push_cast, seval] at hc | refine i_x ?_ | clear hK K)
  (with_reducible first | apply i_ret0 | apply i_ret2 | apply i_ret3 | apply i_ret); exact rfl
  rw [w64 (n := (G.sectors : Int) * 58) (by omega) (by omega), w64 (by omega) (by omega)]
  show ((G.sectors : Int) * 58 - (G.all.length : Int)) = ((58 * G.sectors - G.all.length : Nat) : Int)
  omega
def lchk (n : Nat) (base sectors run : Int) : Int := if base < 0 ∨ sectors < 1 ∨ run < 1 ∨ 4294967296 ≤ run then 1 else if (n : Int) < base ∨ (n : Int) - base < sectors then 6 else 0
theorem g67 (Z : Dk) (h : Z.ok) (base sectors run : Int) (hb : wf64 base) : Fp eI Tryz.prog 28 #[.pointer (some ⟨Z.sb, 0, none⟩), .int .i64 base, .int .i64 sectors, .int .i64 run] [dk Z] (lchk Z.sure.length base sectors run) := fun L => by
  have F := F26 Z h
  have hn := h.n1
  unfold wf64 at hb
  unfold lchk
  simp only [Dk.p] at F
  refine c28_fn rfl rfl ?_
  by_cases h1 : base < 0 ∨ sectors < 1 ∨ run < 1 ∨ 4294967296 ≤ run
  · rw [if_pos h1]
    repeat' (first | (with_reducible first | refine d_seq fun K hK => ?_ | (refine hK _ _ ?_; clear hK K) | (refine SG.p ?_; try intro b)) | refine i_c ?_ ?_ <;> intro hc <;> try simp only [push_cast, seval] at hc | refine i_x ?_ | clear hK K)
    all_goals try (exfalso; omega)
    all_goals first | contradiction | ((with_reducible first | apply i_ret0 | apply i_ret2 | apply i_ret3 | apply i_ret); exact rfl; rfl)
  · rw [if_neg h1]
    by_cases h2 : (Z.sure.length : Int) < base ∨ (Z.sure.length : Int) - base < sectors
    · rw [if_pos h2]
      repeat' (first | (with_reducible first | refine d_seq fun K hK => ?_ | (refine hK _ _ ?_; clear hK K) | (refine SG.p ?_; try intro b)) | refine i_c ?_ ?_ <;> intro hc <;> try simp only [push_cast, seval] at hc | refine i_x ?_ | clear hK K)
      all_goals try (exfalso; omega)
      all_goals try contradiction
      refine i_clp F ?_
      repeat' (first | (with_reducible first | refine d_seq fun K hK => ?_ | (refine hK _ _ ?_; clear hK K) | (refine SG.p ?_; try intro b)) | refine i_c ?_ ?_ <;> intro hc <;> try simp only [push_cast, seval] at hc | refine i_x ?_ | clear hK K)
      all_goals try (exfalso; omega)
      · (with_reducible first | apply i_ret0 | apply i_ret2 | apply i_ret3 | apply i_ret); exact rfl
        rfl
      · refine i_clp F ?_
        rw [w64 (by omega) (by omega)]
        repeat' (first | (with_reducible first | refine d_seq fun K hK => ?_ | (refine hK _ _ ?_; clear hK K) | (refine SG.p ?_; try intro b)) | refine i_c ?_ ?_ <;> intro hc <;> try simp only [push_cast, seval] at hc | refine i_x ?_ | clear hK K)
        all_goals try (exfalso; omega)
        (with_reducible first | apply i_ret0 | apply i_ret2 | apply i_ret3 | apply i_ret); exact rfl
        rfl
    · rw [if_neg h2]
      repeat' (first | (with_reducible first | refine d_seq fun K hK => ?_ | (refine hK _ _ ?_; clear hK K) | (refine SG.p ?_; try intro b)) | refine i_c ?_ ?_ <;> intro hc <;> try simp only [push_cast, seval] at hc | refine i_x ?_ | clear hK K)
      all_goals try (exfalso; omega)
      all_goals try contradiction
      refine i_clp F ?_
      repeat' (first | (with_reducible first | refine d_seq fun K hK => ?_ | (refine hK _ _ ?_; clear hK K) | (refine SG.p ?_; try intro b)) | refine i_c ?_ ?_ <;> intro hc <;> try simp only [push_cast, seval] at hc | refine i_x ?_ | clear hK K)
      all_goals try (exfalso; omega)
      refine i_clp F ?_
      rw [w64 (by omega) (by omega)]
      repeat' (first | (with_reducible first | refine d_seq fun K hK => ?_ | (refine hK _ _ ?_; clear hK K) | (refine SG.p ?_; try intro b)) | refine i_c ?_ ?_ <;> intro hc <;> try simp only [push_cast, seval] at hc | refine i_x ?_ | clear hK K)
      all_goals try (exfalso; omega)
      (with_reducible first | apply i_ret0 | apply i_ret2 | apply i_ret3 | apply i_ret); exact rfl
      rfl
def whl (s : List UInt8) : Nat → Nat → Nat
  | 0, a => a
  | k + 1, a => if (opn s (a : Int)).2.2 = 0 then whl s k (a + (opn s (a : Int)).2.1.toNat) else a
def whole (s : List UInt8) : Nat := whl s (s.length + 1) 0
theorem opn_nat {s : List UInt8} {a : Nat} (h : a ≤ s.length) : opn s (a : Int) = opn0 (s.drop a) := by
  unfold opn
  rw [if_neg (by omega), Int.toNat_natCast]
theorem opn_step {s : List UInt8} {a : Nat} (h : a ≤ s.length) (h0 : (opn s (a : Int)).2.2 = 0) : ∃ m : Nat, (opn s (a : Int)).2.1 = (m : Int) ∧ 7 ≤ m ∧ a + m ≤ s.length := by
  rw [opn_nat h] at h0 ⊢
  generalize ho : opn0 (s.drop a) = o at *
  obtain ⟨c, n, e⟩ := o
  dsimp only at h0 ⊢
  subst h0
  obtain ⟨hs, _, f, Y, ht, hf, hn⟩ := opn0_ok ho
  have hl := frame_len hs hf
  have := congrArg List.length ht
  rw [List.length_drop, List.length_append] at this
  exact ⟨f.length, hn, hl.1, by omega⟩
set_option maxHeartbeats 1000000 in
theorem g69 (s : List UInt8) (hs : s.length ≤ 4611686018427387903) : Fp eI Tryz.prog 30 #[str s] [] (whole s : Int) := fun L => by
  refine c30_fn rfl rfl ?_
  repeat' (first | (with_reducible first | refine d_seq fun K hK => ?_ | (refine hK _ _ ?_; clear hK K) | (refine SG.p ?_; try intro b)) | refine i_c ?_ ?_ <;> intro hc <;> try simp only [push_cast, seval] at hc | refine i_x ?_ | clear hK K)
  refine d_lp [0, 3] (fun t : Nat × Nat => [(0, str s), (3, .int .i64 (t.2 : Int))]) (fun _ => L) (fun t => t.2 ≤ s.length ∧ whl s t.1 t.2 = whole s ∧ s.length + 1 ≤ t.1 + t.2) (fun t => t.1) (s.length + 1, 0) rfl SX.p ⟨by dsimp only; omega, rfl, by dsimp only; omega⟩ ?_
  rintro ⟨k, a⟩ ⟨h1, h2, h3⟩
  dsimp only at h1 h2 h3 ⊢
  obtain ⟨k', rfl⟩ : ∃ k', k = k' + 1 := ⟨k - 1, by omega⟩
  rw [show whl s (k' + 1) a = if (opn s (a : Int)).2.2 = 0 then whl s k' (a + (opn s (a : Int)).2.1.toNat) else a from rfl] at h2
  have O := g26 s (a : Int) (by omega)
  have S := opn_step h1
  generalize opn s (a : Int) = o at *
  obtain ⟨c, n, e⟩ := o
  dsimp only at h2 O S
  repeat' (first | (with_reducible first | refine d_seq fun K hK => ?_ | (refine hK _ _ ?_; clear hK K) | (refine SG.p ?_; try intro b)) | refine i_c ?_ ?_ <;> intro hc <;> try simp only [push_cast, seval] at hc | refine i_x ?_ | clear hK K)
  refine i_cal O ?_
  rintro ⟨⟨k1, k2, k3, k4, k5, k6, k7, k8, k9, k10, k11, k12, k13⟩, y⟩ X ⟨A, rfl, hr, he⟩
  dsimp only at he
  subst he
  by_cases h0 : e = 0
  · subst h0
    obtain ⟨m, rfl, hm1, hm2⟩ := S rfl
    rw [if_pos rfl, Int.toNat_natCast] at h2
    repeat' (first | (with_reducible first | refine d_seq fun K hK => ?_ | (refine hK _ _ ?_; clear hK K) | (refine SG.p ?_; try intro b)) | refine i_c ?_ ?_ <;> intro hc <;> try simp only [push_cast, seval] at hc | refine i_x ?_ | clear hK K)
    all_goals try (first | contradiction | (simp only [ reduceCtorEq] at *; done) | (exfalso; omega))
    rw [w64 (by omega) (by omega)]
    exact i_bk (k', a + m) rfl ⟨by dsimp only; omega, h2, by dsimp only; omega⟩ (by dsimp only; omega)
  · rw [if_neg h0] at h2
    repeat' (first | (with_reducible first | refine d_seq fun K hK => ?_ | (refine hK _ _ ?_; clear hK K) | (refine SG.p ?_; try intro b)) | refine i_c ?_ ?_ <;> intro hc <;> try simp only [push_cast, seval] at hc | refine i_x ?_ | clear hK K)
    all_goals try (first | contradiction | (simp only [ reduceCtorEq] at *; done) | (exfalso; omega))
    (with_reducible first | apply i_ret0 | apply i_ret2 | apply i_ret3 | apply i_ret); exact rfl
    rw [h2]
end Go.Sp
namespace Go.Sp
open Go
def ex (h0 : PH) : HP := fun h => h = h0
def dm (b : Nat) (h : PH) : Prop := ∀ n, b < n → h n = none
def lo (b : Nat) (h : PH) : PH := fun n => if n ≤ b then h n else none
def Low (b : Nat) (A : HP) : Prop := ∀ h, A h → A (lo b h)
theorem lo_mono {b : Nat} {a h : PH} (s : sub a h) : sub (lo b a) (lo b h) := fun n o e => by
  unfold lo at e ⊢
  split at e
  · rename_i hn
    rw [if_pos hn]
    exact s n o e
  · cases e
theorem Low.blk {b c : Nat} {o : Obj} (h : c < b) : Low b (blk c o) := fun x hx => by
  show lo b x (c + 1) = _
  unfold lo
  rw [if_pos (by omega)]
  exact hx
theorem Low.ex {b : Nat} {h0 : PH} (h : dm b h0) : Low b (ex h0) := fun x hx => by
  subst hx
  funext n
  unfold lo
  split
  · rfl
  · rename_i hn
    exact (h n (by omega)).symm
theorem Low.HS {b : Nat} : ∀ {L : List HP}, (∀ A ∈ L, Low b A) → ∀ h, HS L h → HS L (lo b h)
  | [], _, _, _ => trivial
  | A :: L, hl, h, ⟨x, y, d, sx, sy, px, py⟩ => by
    refine ⟨lo b x, lo b y, fun n => ?_, lo_mono sx, lo_mono sy, hl A (by simp) x px, Low.HS (fun B hB => hl B (by simp [hB])) y py⟩
    unfold lo
    split
    · exact d n
    · exact .inl rfl
theorem Low.fold {b : Nat} {L : List HP} (h : ∀ A ∈ L, Low b A) : Low b (Sp.HS L) := Low.HS h
theorem HS.ex {L : List HP} : ∀ {A : List HP} {h : PH}, HS (A ++ L) h → ∃ h0, HS L h0 ∧ HS (A ++ [Sp.ex h0]) h
  | [], h, x => ⟨h, x, h, fun _ => none, fun _ => .inr rfl, sub.refl _, sub.none _, rfl, trivial⟩
  | B :: A, h, ⟨x, y, d, sx, sy, px, py⟩ => by
    obtain ⟨h0, h1, h2⟩ := HS.ex (A := A) py
    exact ⟨h0, h1, x, y, d, sx, sy, px, h2⟩
theorem HS.unex {L : List HP} {h0 : PH} (hL : HS L h0) : ∀ {A : List HP} {h : PH}, HS (A ++ [Sp.ex h0]) h → HS (A ++ L) h
  | [], h, ⟨x, y, d, sx, sy, px, py⟩ => by
    have e : x = h0 := px
    subst e
    exact HS.mono hL sx
  | B :: A, h, ⟨x, y, d, sx, sy, px, py⟩ => ⟨x, y, d, sx, sy, px, HS.unex hL py⟩
theorem Fn.ex {e : Enc} {P : Program} {f : FuncId} {args : Array Value} {A : List HP} {B : e.α → List HP → Prop} (h : ∀ h0, E (A ++ [Sp.ex h0]) (cal e P f args fun x w => ∃ X, B x X ∧ Holds w (X ++ [Sp.ex h0]))) : Fn e P f args A B := fun L w hw => by
  obtain ⟨h0, h1, h2⟩ := HS.ex hw
  refine (h h0 w h2).mono ?_
  rintro _ w' ⟨x, he, X, hB, hX⟩
  exact ⟨x, he, X, hB, HS.unex h1 hX⟩
theorem HS.dom {b : Nat} : ∀ {L : List HP} {h : PH}, HS L h → dm b h → ∀ X ∈ L, ∃ a, X a ∧ dm b a
  | A :: L, h, ⟨x, y, d, sx, sy, px, py⟩, hd, X, hX => by
    have dx : dm b x := fun n hn => by
      cases hx : x n with
      | none => rfl
      | some o => exact absurd (sx n o hx) (by simp [hd n hn])
    have dy : dm b y := fun n hn => by
      cases hy : y n with
      | none => rfl
      | some o => exact absurd (sy n o hy) (by simp [hd n hn])
    rcases List.mem_cons.1 hX with rfl | hX
    · exact ⟨x, px, dx⟩
    · exact HS.dom py dy X hX
theorem r_nwcD {L : List HP} {k : Addr → W} {l : List Value} {t : TypeId} (h : ∀ b, (∀ X ∈ L, ∃ a, X a ∧ dm b a) → E (ar b t l :: L) (k ⟨b, 0, none⟩)) : E L (nwc l.toArray t k) := fun w hw => by
  refine h w.heap.size (HS.dom hw fun n hn => ?_) _ (Holds.push hw (.cells ⟨l⟩ t (0, 0)) rfl)
  cases n with
  | zero => omega
  | succ n => rw [hp_s, Array.getElem?_eq_none (by omega)]; rfl
theorem dm_blk {b c : Nat} {o : Obj} {a : PH} (h : blk c o a) (hd : dm b a) : c < b := by
  rcases Nat.lt_or_ge b (c + 1) with h1 | h1
  · have := hd (c + 1) h1
    rw [show a (c + 1) = some (.inl o) from h] at this
    cases this
  · omega
abbrev bld (b T e : TypeId) (p : Option Addr) (s : SlV) (bs : List Value) : List HP := [ar b T [.pointer p, .slice s.1 s.2.1 s.2.2], ow e 1 s bs]
section
variable {T e : TypeId} {b : Nat} {p : Option Addr} {s : SlV} {bs : List Value} {L : List HP} {w w' : World}
theorem bld_is (hp : p = none ∨ p = some ⟨b, 0, none⟩) (hs : ∀ g, s.1 = some g → b < g.block) (h : Holds w (bld b T e p s bs ++ L)) : Lib.IsBuilder T e b b bs w := by
  have h1 : Holds w (ar b T [.pointer p, .slice s.1 s.2.1 s.2.2] :: (ow e 1 s bs :: L)) := h
  have h2 : Holds w (ow e 1 s bs :: L) := HS.tl h1
  have hg := Holds.get h1
  have ho := ow_world h2 b (fun g hg => by have := hs g hg; omega)
  have hl : bs.length = s.2.1 := by have := ho.1; omega
  have hA : Lib.BuilderAt T e b b (.pointer p) bs w := by
    refine ⟨Nat.le_refl _, _, hg, ?_, ?_⟩
    · rw [hl]; exact ho
    · obtain ⟨q, n, c⟩ := s
      cases q with
      | none => simp [Value.ownBlock]
      | some g =>
        have := hs g rfl
        simp only [Value.ownBlock, ne_eq, Option.some.injEq]
        omega
  rcases hp with rfl | rfl
  · exact .inl hA
  · exact .inr hA
theorem bld_of (hL : ∀ A ∈ L, Low b A) (h : Holds w (bld b T e p s bs ++ L)) {bs' : List Value} (hb : Lib.BuilderAt T e b b (.pointer (some ⟨b, 0, none⟩)) bs' w') (hbe : RowKit.Below b w w') :
    ∃ s' : SlV, (∀ g, s'.1 = some g → b < g.block) ∧ Holds w' (bld b T e (some ⟨b, 0, none⟩) s' bs' ++ L) := by
  obtain ⟨x, y, d, sx, sy, px, x2, y2, d2, sx2, sy2, px2, hr⟩ := h
  have hrl := Low.HS hL y2 hr
  have srl : sub (lo b y2) (Sp.hp w') := fun n o hn => by
    unfold lo at hn
    split at hn
    · rename_i hnb
      have h1 := sy n o (sy2 n o hn)
      cases n with
      | zero => simpa [Sp.hp, hbe.os, hbe.output, hbe.tape] using h1
      | succ n =>
        rw [hp_s] at h1 ⊢
        rw [hbe.block n (by omega)]
        exact h1
    · cases hn
  obtain ⟨_, v, hv, hown, hne⟩ := hb
  obtain ⟨ho1, ho2⟩ := hown
  rcases ho2 with ⟨rfl, hn0⟩ | ⟨g, cap, cur, rfl, hbg, hgc, hn, hm, hcs, ht⟩
  · have : bs' = [] := List.eq_nil_of_length_eq_zero (by omega)
    subst this
    refine ⟨(none, 0, 0), ⟨fun g hg => (by cases hg), ?_⟩⟩
    refine ⟨fun n => if n = b + 1 then some (.inl (.cells ⟨[.pointer (some ⟨b, 0, none⟩), .slice none 0 0]⟩ T (0, 0))) else none, lo b y2, fun n => ?_, ?_, srl, by show (if b + 1 = b + 1 then _ else _) = _; rw [if_pos rfl], ?_⟩
    · by_cases hnb : n = b + 1
      · right; unfold lo; rw [if_neg (by omega)]
      · left; dsimp only; rw [if_neg hnb]
    · intro n o hn
      dsimp only at hn
      split at hn
      · rename_i hnb
        subst hnb
        simp only [Option.some.injEq] at hn
        subst hn
        exact hp_o.2 hv
      · cases hn
    · exact ⟨fun _ => none, lo b y2, fun _ => .inl rfl, sub.none _, sub.refl _, ow_nil _ _ _, hrl⟩
  · have hgb : g ≠ b := fun h => hne (by simp [Value.ownBlock, h])
    refine ⟨(some ⟨g, 0, none⟩, bs'.length, cap), fun g' hg' => by simp only [Option.some.injEq] at hg'; subst hg'; show b < g; omega, ?_⟩
    refine ⟨fun n => if n = b + 1 then some (.inl (.cells ⟨[.pointer (some ⟨b, 0, none⟩), .slice (some ⟨g, 0, none⟩) bs'.length cap]⟩ T (0, 0))) else none, fun n => if n = g + 1 then some (.inl (.cells cur e (0, 0))) else lo b y2 n, fun n => ?_, ?_, ?_, by show (if b + 1 = b + 1 then _ else _) = _; rw [if_pos rfl], ?_⟩
    · by_cases hnb : n = b + 1
      · right; dsimp only; rw [if_neg (by omega)]; unfold lo; rw [if_neg (by omega)]
      · left; dsimp only; rw [if_neg hnb]
    · intro n o hn
      dsimp only at hn
      split at hn
      · rename_i hnb
        subst hnb
        simp only [Option.some.injEq] at hn
        subst hn
        exact hp_o.2 hv
      · cases hn
    · intro n o hn
      dsimp only at hn
      split at hn
      · rename_i hnb
        subst hnb
        simp only [Option.some.injEq] at hn
        subst hn
        exact hp_o.2 hgc
      · exact srl n o hn
    · refine ⟨fun n => if n = g + 1 then some (.inl (.cells cur e (0, 0))) else none, lo b y2, fun n => ?_, ?_, ?_, ⟨by simp, .inr ⟨g, cap, cur, rfl, by simp, hn, hm, by simpa using hcs, by simpa using ht⟩⟩, hrl⟩
      · by_cases hng : n = g + 1
        · right; unfold lo; rw [if_neg (by omega)]
        · left; dsimp only; rw [if_neg hng]
      · intro n o hn
        dsimp only at hn ⊢
        split at hn
        · rename_i hng
          rw [if_pos hng]; exact hn
        · cases hn
      · intro n o hn
        dsimp only
        by_cases hng : n = g + 1
        · subst hng
          unfold lo at hn
          rw [if_neg (by omega)] at hn
          cases hn
        · rw [if_neg hng]; exact hn
end
end Go.Sp
namespace Go.Sp
open Go Go.Proofs
set_option linter.unusedSimpArgs false
set_option linter.unusedVariables false
set_option maxRecDepth 10000
structure St where
  q : Nat
  base : Nat
  pages : Nat
  gen : Nat
abbrev St.p (S : St) : Value := .pointer (some ⟨S.q, 0, none⟩)
structure St.ok (S : St) (n : Nat) : Prop where
  g1 : 1 ≤ S.gen
  g2 : S.gen < 65536
  p1 : 1 ≤ S.pages
  p2 : S.pages ≤ 200
  fit : S.base + 4 * S.pages ≤ n
  n1 : n ≤ 8192
def St.chk (S : St) (id : Int) : Int := if id < 0 ∨ (S.pages : Int) ≤ id then 6 else 0
def pt (text : List UInt8) (i : Nat) : List UInt8 := (text.drop (56 * i)).take 56
theorem pt_len {text : List UInt8} (h : text.length = 224) {i : Nat} (hi : i < 4) : (pt text i).length = 56 := by
  simp [pt, h]; omega
def Dk.wp (Z : Dk) (a : Nat) (m text : List UInt8) : Nat → Int × Dk
  | 0 => (0, Z)
  | k + 1 => if (Z.wp a m text k).1 = 0 then (Z.wp a m text k).2.write ((a + k : Nat) : Int) (m ++ pt text k) else Z.wp a m text k
theorem Dk.wp_ok {Z : Dk} (h : Z.ok) (a : Nat) (m text : List UInt8) : ∀ k, (Z.wp a m text k).2.ok ∧ (Z.wp a m text k).2.sb = Z.sb
  | 0 => ⟨h, rfl⟩
  | k + 1 => by
    obtain ⟨h1, h2⟩ := Dk.wp_ok h a m text k
    unfold Dk.wp
    split
    · exact ⟨Dk.write_ok h1 _ _, (Dk.write_sb _ _ _).trans h2⟩
    · exact ⟨h1, h2⟩
def Dk.sc (Z : Dk) (a i : Nat) : List UInt8 := Z.get ((a + i : Nat) : Int)
def All (P : Nat → List UInt8 → Prop) (Z : Dk) : Prop := ∀ j, j < Z.sure.length → P j (wh (Z.sure.getD j [])) ∧ ∀ v, gk Z.es (j : Int) = some v → P j v
section
variable {P : Nat → List UInt8 → Prop} {Z : Dk}
theorem All.get (h : All P Z) {j : Nat} (hj : j < Z.sure.length) : P j (Z.get (j : Int)) := by
  obtain ⟨h1, h2⟩ := h j hj
  unfold Dk.get
  cases hg : gk Z.es (j : Int) with
  | none => simpa using h1
  | some v => simpa using h2 v hg
theorem All.of {Z' : Dk} (h : All P Z) (hs : Z'.sure = Z.sure) (he : Z'.es = Z.es) : All P Z' := by
  intro j hj
  rw [hs] at hj ⊢
  rw [he]
  exact h j hj
theorem All.off (hok : Z.ok) (h : All P Z) (keep : Int) : All P (Z.off keep) := by
  have hl := Dk.cutn_len Z keep Z.keys.length
  intro j hj
  have hj' : j < Z.sure.length := by rw [← hl]; exact hj
  refine ⟨?_, fun v hv => by cases hv⟩
  show P j (wh ((Z.cutn keep Z.keys.length).getD j []))
  rcases Dk.cut_or hok keep Z.keys.length (Nat.le_refl _) j with h1 | h1
  · rw [h1]; exact (h j hj').1
  · obtain ⟨x, hx, _, hv⟩ := gk_mem h1
    have h64 := hok.e64 x hx
    rw [hv] at h64
    rw [wh_full h64]
    exact (h j hj').2 _ h1
theorem All.act (hok : Z.ok) (h : All P Z) : All P Z.act.2 := by
  unfold Dk.act
  split
  · exact All.off hok h _
  · exact All.of h rfl rfl
theorem All.write (hok : Z.ok) (h : All P Z) {i : Nat} {s : List UInt8} (hp : s.length ≤ 64 → P i (wh s)) : All P (Z.write (i : Int) s).2 := by
  have ha := All.act hok h
  unfold Dk.write
  split
  · split
    · exact h
    · rename_i hs
      split
      · intro j hj
        refine ⟨(ha j hj).1, fun v hv => ?_⟩
        have e : gk (Z.act.2.put (i : Int) (wh s)).es (j : Int) = if (i : Int) = (j : Int) then some (wh s) else gk Z.act.2.es (j : Int) := gk_pk _ _ _ _ _
        rw [e] at hv
        by_cases hij : (i : Int) = (j : Int)
        · rw [if_pos hij] at hv
          have : i = j := by omega
          subst this
          simp only [Option.some.injEq] at hv
          rw [← hv]
          exact hp (by omega)
        · rw [if_neg hij] at hv
          exact (ha j hj).2 v hv
      · exact ha
  · exact h
theorem All.flush (hok : Z.ok) (h : All P Z) : All P Z.flush := by
  intro j hj
  have hj' : j < Z.sure.length := by rw [← sy_len Z.es Z.sure]; exact hj
  refine ⟨?_, fun v hv => by cases hv⟩
  have e := Dk.flush_get hok hj'
  have e2 : Z.flush.get (j : Int) = wh (Z.flush.sure.getD j []) := by
    unfold Dk.get
    simp [Dk.flush, gk]
  rw [← e2, e]
  exact h.get hj'
theorem All.sync (hok : Z.ok) (h : All P Z) : All P Z.sync.2 := by
  have ha := All.act hok h
  unfold Dk.sync
  split
  · split
    · exact All.flush (Dk.act_ok hok) ha
    · exact ha
  · exact h
theorem All.wp (hok : Z.ok) (h : All P Z) {a : Nat} {m text : List UInt8} (hm : m.length = 8) (ht : text.length = 224) (hp : ∀ i, i < 4 → P (a + i) (m ++ pt text i)) : ∀ k, k ≤ 4 → All P (Z.wp a m text k).2
  | 0, _ => h
  | k + 1, hk => by
    have ih := All.wp hok h hm ht hp k (by omega)
    have h1 := (Dk.wp_ok hok a m text k).1
    unfold Dk.wp
    split
    · refine All.write h1 ih fun _ => ?_
      rw [wh_full (by rw [List.length_append, pt_len ht (by omega)]; omega)]
      exact hp k (by omega)
    · exact ih
end
theorem Dk.write_n (Z : Dk) (i : Int) (s : List UInt8) : (Z.write i s).2.sure.length = Z.sure.length := by
  have := Dk.act_len Z
  unfold Dk.write
  split
  · split
    · rfl
    · split
      · exact this
      · exact this
  · rfl
theorem Dk.calm.wp {Z : Dk} {sb n : Nat} (h : Z.calm sb n) {a : Nat} (ha : a + 4 ≤ n) {m text : List UInt8} (hm : m.length = 8) (ht : text.length = 224) : ∀ k, k ≤ 4 → (Z.wp a m text k).1 = 0 ∧ (Z.wp a m text k).2.calm sb n ∧ (Z.wp a m text k).2.sure = Z.sure ∧
    ∀ j : Nat, gk (Z.wp a m text k).2.es (j : Int) = if a ≤ j ∧ j < a + k then some (m ++ pt text (j - a)) else gk Z.es (j : Int)
  | 0, _ => ⟨rfl, h, rfl, fun j => by rw [if_neg (by omega)]; rfl⟩
  | k + 1, hk => by
    obtain ⟨h1, h2, h3, h4⟩ := Dk.calm.wp h ha hm ht k (by omega)
    have hpl := pt_len ht (i := k) (by omega)
    have hl : (m ++ pt text k).length = 64 := by rw [List.length_append]; omega
    obtain ⟨w1, w2, w3, w4, w5⟩ := h2.write (i := a + k) (by omega) (by omega : (m ++ pt text k).length ≤ 64)
    have e : Z.wp a m text (k + 1) = (Z.wp a m text k).2.write ((a + k : Nat) : Int) (m ++ pt text k) := by show ite _ _ _ = _; rw [if_pos h1]
    rw [e]
    refine ⟨w1, w2, w3.trans h3, fun j => ?_⟩
    rw [w5, h4, wh_full hl]
    by_cases hj : a + k = j
    · rw [if_pos (by omega), if_pos ⟨by omega, by omega⟩]
      have : j - a = k := by omega
      rw [this]
    · rw [if_neg (by omega)]
      by_cases hc : a ≤ j ∧ j < a + k
      · rw [if_pos hc, if_pos ⟨hc.1, by omega⟩]
      · rw [if_neg hc, if_neg (by omega)]
def part (s : List UInt8) (i : Nat) : List UInt8 := (s.drop (58 * i)).take 58
theorem part_le (s : List UInt8) (i : Nat) : (part s i).length ≤ 58 := by unfold part; rw [List.length_take]; omega
def Lg.sec (G : Lg) (i : Nat) : List UInt8 := lowb (G.run : Int) 4 ++ lowb ((part G.all i).length : Int) 2 ++ part G.all i
def Dk.lw (Z : Dk) (G : Lg) (i : Nat) : Int × Dk := if G.sectors ≤ i then (0, Z) else Z.write ((G.base + i : Nat) : Int) (G.sec i)
theorem min_part (s : List UInt8) (i : Nat) (hs : s.length ≤ 1000000) (hi : i ≤ 8192) :
    (if (s.length : Int) < (i : Int) * 58 then (s.length : Int) else (i : Int) * 58) = ((min (58 * i) s.length : Nat) : Int) := by
  split <;> omega
theorem ss_part (s : List UInt8) (i : Nat) : ss s ((min (58 * i) s.length : Nat) : Int) ((min (58 * (i + 1)) s.length : Nat) : Int) = part s i := by
  unfold ss part
  simp only [Int.toNat_natCast]
  rcases Nat.lt_or_ge (58 * i) s.length with h | h
  · rw [show min (58 * i) s.length = 58 * i by omega]
    rcases Nat.lt_or_ge (58 * (i + 1)) s.length with h2 | h2
    · rw [show min (58 * (i + 1)) s.length = 58 * i + 58 by omega, List.drop_take]
      congr 1
      omega
    · rw [show min (58 * (i + 1)) s.length = s.length by omega, List.take_length, List.take_of_length_le (by rw [List.length_drop]; omega)]
  · rw [show min (58 * i) s.length = s.length by omega, show min (58 * (i + 1)) s.length = s.length by omega, List.take_length, List.drop_length, List.drop_eq_nil_of_le h]
    rfl
theorem layN_go {s : List UInt8} {n : Int} {w : Nat} (h : fitN n w) : layN (s, 0) n w = (s ++ lowb n w, 0) := by
  have h' : ¬ (n < 0 ∨ ((256 ^ w : Nat) : Int) ≤ n) := by
    have h1 := h.1
    have h2 := h.2
    omega
  have e : putN s n w = (s ++ lowb n w, 0) := if_neg h'
  unfold layN lay1
  rw [if_neg (by simp), e, if_neg (by simp)]
theorem fit4 {n : Nat} (h : n < 4294967296) : fitN (n : Int) 4 := ⟨by omega, by rw [show ((256 ^ 4 : Nat) : Int) = 4294967296 by decide]; omega⟩
theorem sec_w (G : Lg) (i : Nat) (h1 : G.run < 4294967296) : layN (layN ([], 0) (G.run : Int) 4) ((part G.all i).length : Int) 2 = (lowb (G.run : Int) 4 ++ lowb ((part G.all i).length : Int) 2, 0) := by
  have hp := part_le G.all i
  rw [layN_go (fit4 h1), layN_go (fit2 (by omega))]
  rfl
theorem g77 (G : Lg) (Z : Dk) (h : Z.ok) (hG : G.ok Z.sure.length) (i : Nat) (hi : i ≤ 8192) : Fq eI Tryz.prog 42 #[G.p, .int .i64 (i : Int)] [lgp G Z.sb, dk Z] [lgp G Z.sb, dk (Z.lw G i).2] (Z.lw G i).1 := fun L => by
  have hfit := hG.fit
  have hn1 := hG.n1
  have hle := hG.le
  have F := F27 Z h ((G.base + i : Nat) : Int) (G.sec i)
  have hp := part_le G.all i
  simp only [Dk.p] at F
  unfold Dk.lw Lg.sec
  refine c42_fn rfl rfl ?_
  by_cases h1 : G.sectors ≤ i
  · rw [if_pos h1]
    repeat' (first | (with_reducible first | refine d_seq fun K hK => ?_ | (refine hK _ _ ?_; clear hK K) | (refine SG.p ?_; try intro b)) | refine i_c ?_ ?_ <;> intro hc <;> try simp only [push_cast, seval] at hc | refine i_x ?_ | clear hK K)
    all_goals try (exfalso; omega)
    (with_reducible first | apply i_ret0 | apply i_ret2 | apply i_ret3 | apply i_ret); exact rfl
    rfl
  · rw [if_neg h1]
    have W := sec_w G i hG.r2
    have m1 := min_part G.all i (by omega) hi
    have m2 := min_part G.all (i + 1) (by omega) (by omega)
    have e1 : IntKind.wrap .i64 ((i : Int) * 58) = (i : Int) * 58 := w64 (by omega) (by omega)
    have e2 : IntKind.wrap .i64 (IntKind.wrap .i64 ((i : Int) + 1) * 58) = ((i + 1 : Nat) : Int) * 58 := by rw [w64 (n := (i : Int) + 1) (by omega) (by omega), w64 (by omega) (by omega)]; omega
    have e3 : IntKind.wrap .i64 ((G.base : Int) + (i : Int)) = ((G.base + i : Nat) : Int) := by rw [w64 (by omega) (by omega)]; omega
    have l1 := layN_len ([], 0) (G.run : Int) 4
    unfold Lg.sec at F
    repeat' (first | (with_reducible first | refine d_seq fun K hK => ?_ | (refine hK _ _ ?_; clear hK K) | (refine SG.p ?_; try intro b)) | refine i_c ?_ ?_ <;> intro hc <;> try simp only [push_cast, seval] at hc | refine i_x ?_ | clear hK K)
    all_goals try (exfalso; omega)
    refine r_ph0 ?_
    repeat' (first | rw [e1] | rw [e2] | rw [m1] | rw [m2] | rw [ss_part] | first | (with_reducible first | refine d_seq fun K hK => ?_ | (refine hK _ _ ?_; clear hK K) | (refine SG.p ?_; try intro b)) | refine i_c ?_ ?_ <;> intro hc <;> try simp only [push_cast, seval] at hc | refine i_x ?_ | clear hK K)
    refine i_clq (gN b ([], 0) (G.run : Int) 4 (by decide) (by decide) (by decide)) ?_
    repeat' (first | (with_reducible first | refine d_seq fun K hK => ?_ | (refine hK _ _ ?_; clear hK K) | (refine SG.p ?_; try intro b)) | refine i_c ?_ ?_ <;> intro hc <;> try simp only [push_cast, seval] at hc | refine i_x ?_ | clear hK K)
    refine i_clq (gN b (layN ([], 0) (G.run : Int) 4) ((part G.all i).length : Int) 2 (by decide) (by decide) (by dsimp only [List.length_nil] at l1; omega)) ?_
    rw [W]
    repeat' (first | (with_reducible first | refine d_seq fun K hK => ?_ | (refine hK _ _ ?_; clear hK K) | (refine SG.p ?_; try intro b)) | refine i_c ?_ ?_ <;> intro hc <;> try simp only [push_cast, seval] at hc | refine i_x ?_ | clear hK K)
    refine i_clp (f96 b (lowb (G.run : Int) 4 ++ lowb ((part G.all i).length : Int) 2, 0)) ?_
    have q4 := lowb_len (G.run : Int) 4
    have q2 := lowb_len ((part G.all i).length : Int) 2
    repeat' (first | (with_reducible first | refine d_seq fun K hK => ?_ | (refine hK _ _ ?_; clear hK K) | (refine SG.p ?_; try intro b)) | refine i_c ?_ ?_ <;> intro hc <;> try simp only [push_cast, seval] at hc | refine i_x ?_ | clear hK K)
    refine r_ph [lgp G Z.sb] SX.p ?_
    repeat' (first | (with_reducible first | refine d_seq fun K hK => ?_ | (refine hK _ _ ?_; clear hK K) | (refine SG.p ?_; try intro b)) | refine i_c ?_ ?_ <;> intro hc <;> try simp only [push_cast, seval] at hc | refine i_x ?_ | clear hK K)
    refine r_rq (by rw [List.length_append]; omega) ?_
    rw [e3]
    refine i_clq F ?_
    repeat' (first | (with_reducible first | refine d_seq fun K hK => ?_ | (refine hK _ _ ?_; clear hK K) | (refine SG.p ?_; try intro b)) | refine i_c ?_ ?_ <;> intro hc <;> try simp only [push_cast, seval] at hc | refine i_x ?_ | clear hK K)
    (with_reducible first | apply i_ret0 | apply i_ret2 | apply i_ret3 | apply i_ret); exact rfl
    rfl
theorem Dk.lw_ok {Z : Dk} (h : Z.ok) (G : Lg) (i : Nat) : (Z.lw G i).2.ok ∧ (Z.lw G i).2.sb = Z.sb ∧ (Z.lw G i).2.sure.length = Z.sure.length := by
  unfold Dk.lw Lg.sec
  split
  · exact ⟨h, rfl, rfl⟩
  · exact ⟨Dk.write_ok h _ _, Dk.write_sb _ _ _, Dk.write_n _ _ _⟩
section
variable {L : List HP} {b : Nat} {p : Option Addr} {s : SlV} {l t : List UInt8}
theorem bld_size {w : World} {T e : TypeId} {bs : List Value} (h : Holds w (bld b T e p s bs ++ L)) : b ≤ w.heap.size := by
  have h1 : Holds w (ar b T [.pointer p, .slice s.1 s.2.1 s.2.2] :: (ow e 1 s bs :: L)) := h
  have hg := Holds.get h1
  rcases Nat.lt_or_ge b w.heap.size with h | h
  · omega
  · rw [Array.getElem?_eq_none h] at hg; cases hg
theorem r_ws {k : Int × Value → W} (hL : ∀ A ∈ L, Low b A) (hp : p = none ∨ p = some ⟨b, 0, none⟩) (hs : ∀ g, s.1 = some g → b < g.block) (hlen : l.length + t.length ≤ 140737488355328)
    (hk : ∀ s' : SlV, (∀ g, s'.1 = some g → b < g.block) → E (bld b 110 5 (some ⟨b, 0, none⟩) s' (cb (l ++ t)) ++ L) (k ((t.length : Int), .nilIface))) :
    E (bld b 110 5 p s (cb l) ++ L) (cal (eT2 eI eV) Tryz.prog 58 #[.pointer (some ⟨b, 0, none⟩), str t] k) := fun w hw => by
  have hi := bld_is hp hs hw
  have hc := Any.Builder_WriteString Tryz.lays166 Tryz.builderW b b (cb l) ⟨t.toArray⟩ w hi (by rw [cb_len]; exact hlen) (bld_size hw)
  refine hc.mono ?_
  rintro _ w' ⟨rfl, hb, hbe⟩
  obtain ⟨s', h1, h2⟩ := bld_of hL hw hb hbe
  refine ⟨((t.length : Int), .nilIface), rfl, hk s' h1 w' ?_⟩
  have e : cb (l ++ t) = cb l ++ Lib.strCells ⟨t.toArray⟩ := by simp [cb, Lib.strCells]
  rw [e]
  exact h2
theorem low_keeps {w w' : World} (hL : ∀ A ∈ L, Low b A) (h : Holds w L) (hbe : RowKit.Below b w w') : Holds w' L := by
  refine HS.mono (Low.HS hL _ h) fun n o hn => ?_
  unfold lo at hn
  split at hn
  · rename_i hnb
    cases n with
    | zero => simpa [Sp.hp, hbe.os, hbe.output, hbe.tape] using hn
    | succ n =>
      rw [hp_s] at hn ⊢
      rw [hbe.block n (by omega)]
      exact hn
  · cases hn
theorem r_bs' {k : List UInt8 → W} (hL : ∀ A ∈ L, Low b A) (hp : p = none ∨ p = some ⟨b, 0, none⟩) (hs : ∀ g, s.1 = some g → b < g.block) (hk : E L (k l)) :
    E (bld b 110 5 p s (cb l) ++ L) (cal eS Tryz.prog 60 #[.pointer (some ⟨b, 0, none⟩)] k) := fun w hw => by
  have hi := bld_is hp hs hw
  have hi' : Lib.IsBuilder 110 5 b b (Lib.byteCells l) w := by simpa [cb, Lib.byteCells] using hi
  have hc := Any.Builder_String_any Tryz.lays169 Tryz.builderS b b l w hi' (bld_size hw)
  refine hc.mono ?_
  rintro _ w' ⟨rfl, hbe⟩
  refine ⟨l, rfl, hk w' (low_keeps hL ?_ hbe)⟩
  have h1 : Holds w (ar b 110 [.pointer p, .slice s.1 s.2.1 s.2.2] :: (ow 5 1 s (cb l) :: L)) := hw
  exact HS.tl (HS.tl h1)
end
theorem low_dk {Z : Dk} {b : Nat} (h : ∃ a, dk Z a ∧ dm b a) : Low b (dk Z) := by
  obtain ⟨a, ha, hd⟩ := h
  have := HS.dom (L := dkl Z) ha hd
  refine Low.fold fun A hA => ?_
  obtain ⟨x, hx, hdx⟩ := this A hA
  simp only [dkl, List.mem_cons, List.not_mem_nil, or_false] at hA
  rcases hA with rfl | rfl | rfl
  · exact Low.blk (dm_blk hx hdx)
  · exact Low.blk (dm_blk hx hdx)
  · exact Low.blk (dm_blk hx hdx)
def Dk.scn (Z : Dk) (base top : Nat) : Nat → Nat → Nat → List UInt8
  | 0, _, _ => []
  | k + 1, i, r =>
    if be ((Z.get ((base + i : Nat) : Int)).take 4) < r ∨ top < be ((Z.get ((base + i : Nat) : Int)).take 4) ∨ 58 < be (((Z.get ((base + i : Nat) : Int)).drop 4).take 2) then []
    else ((Z.get ((base + i : Nat) : Int)).drop 6).take (be (((Z.get ((base + i : Nat) : Int)).drop 4).take 2)) ++ (if be (((Z.get ((base + i : Nat) : Int)).drop 4).take 2) < 58 then [] else Z.scn base top k (i + 1) (be ((Z.get ((base + i : Nat) : Int)).take 4)))
set_option maxHeartbeats 2000000 in
theorem g68 (G : Lg) (Z : Dk) (h : Z.ok) (hG : G.ok Z.sure.length) : Fn (eT2 eS eI) Tryz.prog 29 #[G.p] [lgp G Z.sb, dk Z] fun y X => X = [lgp G Z.sb, dk Z] ∧ y = if Z.up then (Z.scn G.base G.run G.sectors 0 1, 0) else ([], 9) := by
  refine Fn.ex fun h0 => ?_
  have hfit := hG.fit
  have hn1 := hG.n1
  have hs1 := hG.s1
  have hr2 := hG.r2
  refine c29_fn rfl rfl ?_
  refine d_seq ?_
  intro K0 hK0
  refine d_reg ?_
  simp only [go_sem]
  refine hK0 _ _ ?_
  clear hK0 K0
  refine d_seq ?_
  intro K0 hK0
  refine d_reg ?_
  simp only [go_sem]
  refine r_nwcD fun b hd => ?_
  refine hK0 _ _ ?_
  clear hK0 K0
  have hL : ∀ A ∈ [lgp G Z.sb, dk Z, ex h0], Low b A := by
    intro A hA
    simp only [List.mem_cons, List.not_mem_nil, or_false] at hA
    rcases hA with rfl | rfl | rfl
    · obtain ⟨x, hx, hdx⟩ := hd (lgp G Z.sb) (by simp)
      exact Low.blk (dm_blk hx hdx)
    · exact low_dk (hd (dk Z) (by simp))
    · obtain ⟨x, hx, hdx⟩ := hd (ex h0) (by simp)
      have e : x = h0 := hx
      subst e
      exact Low.ex hdx
  clear hd
  refine r_nilow 5 1 ?_
  repeat' (first | (with_reducible first | refine d_seq fun K hK => ?_ | (refine hK _ _ ?_; clear hK K) | (refine SG.p ?_; try intro b)) | refine i_c ?_ ?_ <;> intro hc <;> try simp only [push_cast, seval] at hc | refine i_x ?_ | clear hK K)
  cases hu : Z.up
  · have F : Fp (eT2 eS eI) Tryz.prog 55 #[.pointer (some ⟨Z.sb, 0, none⟩), .int .i64 (G.base : Int)] [dk Z] ([], 9) := by
      have := F31 Z h (G.base : Int)
      have e : Z.chk (G.base : Int) = 9 := by unfold Dk.chk; rw [hu, if_pos rfl]
      rw [e, if_neg (by decide : ¬ (9 : Int) = 0)] at this
      exact this
    refine d_lp [0, 4, 5, 15, 16] (fun _ : Unit => [(0, .pointer (some ⟨G.q, 0, none⟩)), (4, .pointer (some ⟨b, 0, none⟩)), (5, .int .i64 1), (15, .int .i64 (G.sectors : Int)), (16, .int .i64 0)])
      (fun _ => [ow 5 1 (none, 0, 0) [], ar b 110 [.pointer none, .slice none 0 0], lgp G Z.sb, dk Z, ex h0]) (fun _ => True) (fun _ => 0) () rfl SX.p trivial ?_
    intro _ _
    repeat' (first | (with_reducible first | refine d_seq fun K hK => ?_ | (refine hK _ _ ?_; clear hK K) | (refine SG.p ?_; try intro b)) | refine i_c ?_ ?_ <;> intro hc <;> try simp only [push_cast, seval] at hc | refine i_x ?_ | clear hK K)
    all_goals try (exfalso; omega)
    refine r_ph [lgp G Z.sb] SX.p ?_
    have e3 : IntKind.wrap .i64 ((G.base : Int) + 0) = (G.base : Int) := by rw [w64 (by omega) (by omega)]; omega
    repeat' (first | (with_reducible first | refine d_seq fun K hK => ?_ | (refine hK _ _ ?_; clear hK K) | (refine SG.p ?_; try intro b)) | refine i_c ?_ ?_ <;> intro hc <;> try simp only [push_cast, seval] at hc | refine i_x ?_ | clear hK K)
    rw [e3]
    refine i_clp F ?_
    repeat' (first | (with_reducible first | refine d_seq fun K hK => ?_ | (refine hK _ _ ?_; clear hK K) | (refine SG.p ?_; try intro b)) | refine i_c ?_ ?_ <;> intro hc <;> try simp only [push_cast, seval] at hc | refine i_x ?_ | clear hK K)
    all_goals try (first | contradiction | (simp only [ reduceCtorEq] at *; done) | (exfalso; omega))
    (with_reducible first | apply i_ret0 | apply i_ret2 | apply i_ret3 | apply i_ret); exact rfl
    simp [hu]
  · generalize hB : Z.scn G.base G.run G.sectors 0 1 = B
    refine d_lp [0, 4, 5, 15, 16] (fun t : Nat × Nat × List UInt8 × Option Addr × SlV => [(0, .pointer (some ⟨G.q, 0, none⟩)), (4, .pointer (some ⟨b, 0, none⟩)), (5, .int .i64 (t.2.1 : Int)), (15, .int .i64 (G.sectors : Int)), (16, .int .i64 (t.1 : Int))])
      (fun t => bld b 110 5 t.2.2.2.1 t.2.2.2.2 (cb t.2.2.1) ++ [lgp G Z.sb, dk Z, ex h0])
      (fun t => t.1 ≤ G.sectors ∧ t.2.2.1 ++ Z.scn G.base G.run (G.sectors - t.1) t.1 t.2.1 = B ∧ (t.2.2.2.1 = none ∨ t.2.2.2.1 = some ⟨b, 0, none⟩) ∧ (∀ g, t.2.2.2.2.1 = some g → b < g.block) ∧ t.2.2.1.length ≤ 58 * t.1) (fun t => G.sectors - t.1)
      (0, 1, [], none, (none, 0, 0)) rfl ?_ ⟨by dsimp only; omega, by dsimp only; rw [List.nil_append]; exact hB, .inl rfl, ⟨fun g hg => (by cases hg), (by simp)⟩⟩ ?_
    · show Sub ([ar b 110 [.pointer none, .slice none 0 0], ow 5 1 (none, 0, 0) []] ++ [lgp G Z.sb, dk Z, ex h0]) _
      exact SX.p
    rintro ⟨i, r, t, p, ⟨sp, sn, sc⟩⟩ ⟨hi, hb, hp, hs, ht⟩
    dsimp only at hi hb hp hs ht ⊢
    repeat' (first | (with_reducible first | refine d_seq fun K hK => ?_ | (refine hK _ _ ?_; clear hK K) | (refine SG.p ?_; try intro b)) | refine i_c ?_ ?_ <;> intro hc <;> try simp only [push_cast, seval] at hc | refine i_x ?_ | clear hK K)
    · have hch : Z.chk ((G.base + i : Nat) : Int) = 0 := by unfold Dk.chk; rw [hu, if_neg (by simp), if_neg (by omega)]
      have F := F31 Z h ((G.base + i : Nat) : Int)
      rw [hch, if_pos rfl] at F
      simp only [Dk.p] at F
      have hl := Dk.get_len h hch
      have e3 : IntKind.wrap .i64 ((G.base : Int) + (i : Int)) = ((G.base + i : Nat) : Int) := by rw [w64 (by omega) (by omega)]; omega
      obtain ⟨k, hk⟩ : ∃ k, G.sectors - i = k + 1 := ⟨G.sectors - i - 1, by omega⟩
      rw [hk] at hb
      unfold Dk.scn at hb
      generalize Z.get ((G.base + i : Nat) : Int) = v at *
      refine r_ph [lgp G Z.sb] SX.p ?_
      repeat' (first | (with_reducible first | refine d_seq fun K hK => ?_ | (refine hK _ _ ?_; clear hK K) | (refine SG.p ?_; try intro b)) | refine i_c ?_ ?_ <;> intro hc <;> try simp only [push_cast, seval] at hc | refine i_x ?_ | clear hK K)
      rw [e3]
      refine i_clp F ?_
      repeat' (first | (with_reducible first | refine d_seq fun K hK => ?_ | (refine hK _ _ ?_; clear hK K) | (refine SG.p ?_; try intro b)) | refine i_c ?_ ?_ <;> intro hc <;> try simp only [push_cast, seval] at hc | refine i_x ?_ | clear hK K)
      all_goals try (first | contradiction | (simp only [ reduceCtorEq] at *; done) | (exfalso; omega))
      refine i_cal (f72 v) ?_
      rintro y X ⟨rb, rfl, rfl⟩
      repeat' (first | (with_reducible first | refine d_seq fun K hK => ?_ | (refine hK _ _ ?_; clear hK K) | (refine SG.p ?_; try intro b)) | refine i_c ?_ ?_ <;> intro hc <;> try simp only [push_cast, seval] at hc | refine i_x ?_ | clear hK K)
      refine i_clq (num_go rb v 0 4 (by omega) (by decide) (by decide) (by omega)) ?_
      rw [List.drop_zero]
      refine i_clq (num_go rb v 4 2 (by omega) (by decide) (by decide) (by omega)) ?_
      generalize be (v.take 4) = at' at *
      generalize be ((v.drop 4).take 2) = n at *
      by_cases hbad : at' < r ∨ G.run < at' ∨ 58 < n
      · rw [if_pos hbad, List.append_nil] at hb
        subst hb
        repeat' (first | (with_reducible first | refine d_seq fun K hK => ?_ | (refine hK _ _ ?_; clear hK K) | (refine SG.p ?_; try intro b)) | refine i_c ?_ ?_ <;> intro hc <;> try simp only [push_cast, seval] at hc | refine i_x ?_ | clear hK K)
        all_goals try (exfalso; omega)
        all_goals
          refine E.sub (L' := bld b 110 5 p (sp, sn, sc) (cb t) ++ [lgp G Z.sb, dk Z, ex h0]) SX.p ?_
          refine r_bs' hL hp hs ?_
          repeat' (first | (with_reducible first | refine d_seq fun K hK => ?_ | (refine hK _ _ ?_; clear hK K) | (refine SG.p ?_; try intro b)) | refine i_c ?_ ?_ <;> intro hc <;> try simp only [push_cast, seval] at hc | refine i_x ?_ | clear hK K)
          (with_reducible first | apply i_ret0 | apply i_ret2 | apply i_ret3 | apply i_ret); exact rfl
          rw [if_pos hu, hB]
      · rw [if_neg hbad] at hb
        have R := f90 ⟨rb, v, 6, 0⟩ (n : Int) (by dsimp only; omega) (by dsimp only; omega)
        rw [raw_go rb v 6 n (by omega)] at R
        have hul : ((v.drop 6).take n).length = n := by rw [List.length_take, List.length_drop]; omega
        generalize (v.drop 6).take n = u at *
        repeat' (first | (with_reducible first | refine d_seq fun K hK => ?_ | (refine hK _ _ ?_; clear hK K) | (refine SG.p ?_; try intro b)) | refine i_c ?_ ?_ <;> intro hc <;> try simp only [push_cast, seval] at hc | refine i_x ?_ | clear hK K)
        all_goals try (exfalso; omega)
        refine i_clq R ?_
        refine E.sub (L' := bld b 110 5 p (sp, sn, sc) (cb t) ++ [lgp G Z.sb, dk Z, ex h0]) SX.p ?_
        refine r_ws (t := u) hL hp hs (by omega) fun s' hs' => ?_
        by_cases h58 : n < 58
        · rw [if_pos h58, List.append_nil] at hb
          subst hb
          repeat' (first | (with_reducible first | refine d_seq fun K hK => ?_ | (refine hK _ _ ?_; clear hK K) | (refine SG.p ?_; try intro b)) | refine i_c ?_ ?_ <;> intro hc <;> try simp only [push_cast, seval] at hc | refine i_x ?_ | clear hK K)
          all_goals try (exfalso; omega)
          refine E.sub (L' := bld b 110 5 (some ⟨b, 0, none⟩) s' (cb (t ++ u)) ++ [lgp G Z.sb, dk Z, ex h0]) SX.p ?_
          refine r_bs' hL (.inr rfl) hs' ?_
          repeat' (first | (with_reducible first | refine d_seq fun K hK => ?_ | (refine hK _ _ ?_; clear hK K) | (refine SG.p ?_; try intro b)) | refine i_c ?_ ?_ <;> intro hc <;> try simp only [push_cast, seval] at hc | refine i_x ?_ | clear hK K)
          (with_reducible first | apply i_ret0 | apply i_ret2 | apply i_ret3 | apply i_ret); exact rfl
          rw [if_pos hu, hB]
        · rw [if_neg h58] at hb
          repeat' (first | (with_reducible first | refine d_seq fun K hK => ?_ | (refine hK _ _ ?_; clear hK K) | (refine SG.p ?_; try intro b)) | refine i_c ?_ ?_ <;> intro hc <;> try simp only [push_cast, seval] at hc | refine i_x ?_ | clear hK K)
          all_goals try (exfalso; omega)
          rw [w64 (by omega) (by omega)]
          exact i_bk (i + 1, at', t ++ u, some ⟨b, 0, none⟩, s') rfl ⟨by dsimp only; omega, by dsimp only; rw [show G.sectors - (i + 1) = k by omega, List.append_assoc]; exact hb, .inr rfl, hs', by dsimp only; rw [List.length_append]; omega⟩ (by dsimp only; omega)
    · obtain rfl : i = G.sectors := by omega
      rw [Nat.sub_self, show Z.scn G.base G.run 0 G.sectors r = [] from rfl, List.append_nil] at hb
      subst hb
      refine E.sub (L' := bld b 110 5 p (sp, sn, sc) (cb t) ++ [lgp G Z.sb, dk Z, ex h0]) SX.p ?_
      refine r_bs' hL hp hs ?_
      repeat' (first | (with_reducible first | refine d_seq fun K hK => ?_ | (refine hK _ _ ?_; clear hK K) | (refine SG.p ?_; try intro b)) | refine i_c ?_ ?_ <;> intro hc <;> try simp only [push_cast, seval] at hc | refine i_x ?_ | clear hK K)
      (with_reducible first | apply i_ret0 | apply i_ret2 | apply i_ret3 | apply i_ret); exact rfl
      rw [if_pos hu, hB]
abbrev Lr := Int × Dk × Lg
def Dk.lmend (Z : Dk) (G : Lg) : Lr :=
  if (Z.lw G (G.durable / 58)).1 = 0 then ((Z.lw G (G.durable / 58)).2.sync.1, (Z.lw G (G.durable / 58)).2.sync.2, G.down (Z.lw G (G.durable / 58)).2.sync.1)
  else ((Z.lw G (G.durable / 58)).1, (Z.lw G (G.durable / 58)).2, G.down (Z.lw G (G.durable / 58)).1)
theorem down_0 (G : Lg) : G.down 0 = G := if_pos rfl
theorem g70 (G : Lg) (Z : Dk) (h : Z.ok) (hG : G.ok Z.sure.length) : Fq eI Tryz.prog 31 #[G.p] [lgp G Z.sb, dk Z] [lgp (Z.lmend G).2.2 Z.sb, dk (Z.lmend G).2.1] (Z.lmend G).1 := fun L => by
  have hdu := hG.du
  have hle := hG.le
  have hfit := hG.fit
  have hn1 := hG.n1
  have F := g77 G Z h hG (G.durable / 58) (by omega)
  obtain ⟨o1, o2, o3⟩ := Dk.lw_ok h G (G.durable / 58)
  have S := F28 _ o1
  simp only [Dk.p, o2] at S
  have e1 : IntKind.wrap .i64 ((G.durable : Int).tdiv 58) = ((G.durable / 58 : Nat) : Int) := by rw [td (by omega), w64 (by omega) (by omega)]; omega
  unfold Dk.lmend
  generalize Z.lw G (G.durable / 58) = T at *
  obtain ⟨e, Y⟩ := T
  dsimp only at F S ⊢
  refine c31_fn rfl rfl ?_
  by_cases he : e = 0
  · subst he
    rw [if_pos rfl]
    repeat' (first | (with_reducible first | refine d_seq fun K hK => ?_ | (refine hK _ _ ?_; clear hK K) | (refine SG.p ?_; try intro b)) | refine i_c ?_ ?_ <;> intro hc <;> try simp only [push_cast, seval] at hc | refine i_x ?_ | clear hK K)
    rw [e1]
    refine i_clq F ?_
    repeat' (first | (with_reducible first | refine d_seq fun K hK => ?_ | (refine hK _ _ ?_; clear hK K) | (refine SG.p ?_; try intro b)) | refine i_c ?_ ?_ <;> intro hc <;> try simp only [push_cast, seval] at hc | refine i_x ?_ | clear hK K)
    all_goals try (first | contradiction | (simp only [ reduceCtorEq] at *; done) | (exfalso; omega))
    refine i_clq S ?_
    refine i_clq (g78 G Z.sb _) ?_
    repeat' (first | (with_reducible first | refine d_seq fun K hK => ?_ | (refine hK _ _ ?_; clear hK K) | (refine SG.p ?_; try intro b)) | refine i_c ?_ ?_ <;> intro hc <;> try simp only [push_cast, seval] at hc | refine i_x ?_ | clear hK K)
    (with_reducible first | apply i_ret0 | apply i_ret2 | apply i_ret3 | apply i_ret); exact rfl
    rfl
  · rw [if_neg he]
    repeat' (first | (with_reducible first | refine d_seq fun K hK => ?_ | (refine hK _ _ ?_; clear hK K) | (refine SG.p ?_; try intro b)) | refine i_c ?_ ?_ <;> intro hc <;> try simp only [push_cast, seval] at hc | refine i_x ?_ | clear hK K)
    rw [e1]
    refine i_clq F ?_
    repeat' (first | (with_reducible first | refine d_seq fun K hK => ?_ | (refine hK _ _ ?_; clear hK K) | (refine SG.p ?_; try intro b)) | refine i_c ?_ ?_ <;> intro hc <;> try simp only [push_cast, seval] at hc | refine i_x ?_ | clear hK K)
    all_goals try (first | contradiction | (simp only [ reduceCtorEq] at *; done) | (exfalso; omega))
    refine i_clq (g78 G Z.sb _) ?_
    repeat' (first | (with_reducible first | refine d_seq fun K hK => ?_ | (refine hK _ _ ?_; clear hK K) | (refine SG.p ?_; try intro b)) | refine i_c ?_ ?_ <;> intro hc <;> try simp only [push_cast, seval] at hc | refine i_x ?_ | clear hK K)
    (with_reducible first | apply i_ret0 | apply i_ret2 | apply i_ret3 | apply i_ret); exact rfl
    rfl
def lws (G : Lg) : Nat → Nat → Dk → Int × Dk
  | 0, _, Z => (0, Z)
  | k + 1, i, Z => if 58 * i < G.all.length then (if (Z.lw G i).1 = 0 then lws G k (i + 1) (Z.lw G i).2 else Z.lw G i) else (0, Z)
def Dk.lflush (Z : Dk) (G : Lg) : Lr :=
  if G.dead then (9, Z, G) else if G.durable = G.all.length then (0, Z, G) else
  (fun a : Int × Dk => if a.1 = 0 then (if a.2.sync.1 = 0 then (0, a.2.sync.2, { G with durable := G.all.length }) else (a.2.sync.1, a.2.sync.2, G.down a.2.sync.1)) else (a.1, a.2, G.down a.1)) (lws G (G.sectors + 1) (G.durable / 58) Z)
def Lg.add (G : Lg) (s : List UInt8) : (Int × Int) × Lg := if 58 * G.sectors < G.all.length + s.length then ((0, 7), G) else ((((G.all.length + 1 : Nat) : Int), 0), { G with all := G.all ++ s })
theorem g76 (G : Lg) (sb : Nat) (h : G.all.length ≤ 58 * G.sectors) (h2 : G.sectors ≤ 8192) (s : List UInt8) (hs : s.length ≤ 4611686018427387904) : Fq (eT2 eI eI) Tryz.prog 49 #[G.p, str s] [lgp G sb] [lgp (G.add s).2 sb] (G.add s).1 := fun L => by
  unfold Lg.add
  refine c49_fn rfl rfl ?_
  by_cases hq : 58 * G.sectors < G.all.length + s.length
  · rw [if_pos hq]
    repeat' (first | (with_reducible first | refine d_seq fun K hK => ?_ | (refine hK _ _ ?_; clear hK K) | (refine SG.p ?_; try intro b)) | refine i_c ?_ ?_ <;> intro hc <;> try simp only [push_cast, seval] at hc | refine i_x ?_ | clear hK K)
    refine i_clp (g30 G sb h h2) ?_
    repeat' (first | (with_reducible first | refine d_seq fun K hK => ?_ | (refine hK _ _ ?_; clear hK K) | (refine SG.p ?_; try intro b)) | refine i_c ?_ ?_ <;> intro hc <;> try simp only [push_cast, seval] at hc | refine i_x ?_ | clear hK K)
    all_goals try (exfalso; omega)
    (with_reducible first | apply i_ret0 | apply i_ret2 | apply i_ret3 | apply i_ret); exact rfl
    rfl
  · rw [if_neg hq]
    repeat' (first | (with_reducible first | refine d_seq fun K hK => ?_ | (refine hK _ _ ?_; clear hK K) | (refine SG.p ?_; try intro b)) | refine i_c ?_ ?_ <;> intro hc <;> try simp only [push_cast, seval] at hc | refine i_x ?_ | clear hK K)
    refine i_clp (g30 G sb h h2) ?_
    repeat' (first | (with_reducible first | refine d_seq fun K hK => ?_ | (refine hK _ _ ?_; clear hK K) | (refine SG.p ?_; try intro b)) | refine i_c ?_ ?_ <;> intro hc <;> try simp only [push_cast, seval] at hc | refine i_x ?_ | clear hK K)
    all_goals try (exfalso; omega)
    refine i_clp (g28 G sb (by omega)) ?_
    repeat' (first | (with_reducible first | refine d_seq fun K hK => ?_ | (refine hK _ _ ?_; clear hK K) | (refine SG.p ?_; try intro b)) | refine i_c ?_ ?_ <;> intro hc <;> try simp only [push_cast, seval] at hc | refine i_x ?_ | clear hK K)
    (with_reducible first | apply i_ret0 | apply i_ret2 | apply i_ret3 | apply i_ret); exact rfl
    rfl
def Lg.append (G : Lg) (c : Rc) : (Int × Int) × Lg := if G.dead then ((0, 9), G) else if c.frame.2 = 0 then G.add c.frame.1 else ((0, c.frame.2), G)
theorem frame_le (c : Rc) : c.frame.1.length ≤ 4102 := by
  unfold Rc.frame
  have := c.clean.body_le
  split
  · simp only [List.length_append, lowb_len]; omega
  · simp
theorem g20 (G : Lg) (sb : Nat) (h : G.all.length ≤ 58 * G.sectors) (h2 : G.sectors ≤ 8192) (A : HP) (r : api_Rec) (c : Rc) (hr : RcAt A r c) : Fq (eT2 eI eI) Tryz.prog 32 #[G.p, v_api_Rec r] [lgp G sb, A] [lgp (G.append c).2 sb, A] (G.append c).1 := fun L => by
  have O := g75 G sb
  have F := g18 A r c hr
  have hl := frame_le c
  have D := g76 G sb h h2 c.frame.1 (by omega)
  unfold Lg.off at O
  unfold Lg.append
  obtain ⟨k1, k2, k3, k4, k5, k6, k7, k8, k9, k10, k11, k12, k13⟩ := r
  refine c32_fn rfl rfl ?_
  by_cases hd : G.dead = true
  · rw [if_pos hd] at O
    rw [if_pos hd]
    repeat' (first | (with_reducible first | refine d_seq fun K hK => ?_ | (refine hK _ _ ?_; clear hK K) | (refine SG.p ?_; try intro b)) | refine i_c ?_ ?_ <;> intro hc <;> try simp only [push_cast, seval] at hc | refine i_x ?_ | clear hK K)
    refine i_clp O ?_
    repeat' (first | (with_reducible first | refine d_seq fun K hK => ?_ | (refine hK _ _ ?_; clear hK K) | (refine SG.p ?_; try intro b)) | refine i_c ?_ ?_ <;> intro hc <;> try simp only [push_cast, seval] at hc | refine i_x ?_ | clear hK K)
    all_goals try (first | contradiction | (simp only [ reduceCtorEq] at *; done) | (exfalso; omega))
    (with_reducible first | apply i_ret0 | apply i_ret2 | apply i_ret3 | apply i_ret); exact rfl
    rfl
  · rw [if_neg hd] at O
    rw [if_neg hd]
    generalize c.frame = f at *
    obtain ⟨t, e⟩ := f
    dsimp only at D ⊢
    by_cases he : e = 0
    · subst he
      rw [if_pos rfl]
      generalize G.add t = T at *
      obtain ⟨⟨y1, y2⟩, V⟩ := T
      repeat' (first | (with_reducible first | refine d_seq fun K hK => ?_ | (refine hK _ _ ?_; clear hK K) | (refine SG.p ?_; try intro b)) | refine i_c ?_ ?_ <;> intro hc <;> try simp only [push_cast, seval] at hc | refine i_x ?_ | clear hK K)
      refine i_clp O ?_
      repeat' (first | (with_reducible first | refine d_seq fun K hK => ?_ | (refine hK _ _ ?_; clear hK K) | (refine SG.p ?_; try intro b)) | refine i_c ?_ ?_ <;> intro hc <;> try simp only [push_cast, seval] at hc | refine i_x ?_ | clear hK K)
      all_goals try (first | contradiction | (simp only [ reduceCtorEq] at *; done) | (exfalso; omega))
      refine i_ldn (e := e_api_Rec) (x := ⟨k1, k2, k3, k4, k5, k6, k7, k8, k9, k10, k11, k12, k13⟩) rfl rfl rfl ?_
      refine i_clp F ?_
      repeat' (first | (with_reducible first | refine d_seq fun K hK => ?_ | (refine hK _ _ ?_; clear hK K) | (refine SG.p ?_; try intro b)) | refine i_c ?_ ?_ <;> intro hc <;> try simp only [push_cast, seval] at hc | refine i_x ?_ | clear hK K)
      all_goals try (first | contradiction | (simp only [ reduceCtorEq] at *; done) | (exfalso; omega))
      refine i_clq D ?_
      repeat' (first | (with_reducible first | refine d_seq fun K hK => ?_ | (refine hK _ _ ?_; clear hK K) | (refine SG.p ?_; try intro b)) | refine i_c ?_ ?_ <;> intro hc <;> try simp only [push_cast, seval] at hc | refine i_x ?_ | clear hK K)
      (with_reducible first | apply i_ret0 | apply i_ret2 | apply i_ret3 | apply i_ret); exact rfl
      rfl
    · rw [if_neg he]
      repeat' (first | (with_reducible first | refine d_seq fun K hK => ?_ | (refine hK _ _ ?_; clear hK K) | (refine SG.p ?_; try intro b)) | refine i_c ?_ ?_ <;> intro hc <;> try simp only [push_cast, seval] at hc | refine i_x ?_ | clear hK K)
      refine i_clp O ?_
      repeat' (first | (with_reducible first | refine d_seq fun K hK => ?_ | (refine hK _ _ ?_; clear hK K) | (refine SG.p ?_; try intro b)) | refine i_c ?_ ?_ <;> intro hc <;> try simp only [push_cast, seval] at hc | refine i_x ?_ | clear hK K)
      all_goals try (first | contradiction | (simp only [ reduceCtorEq] at *; done) | (exfalso; omega))
      refine i_ldn (e := e_api_Rec) (x := ⟨k1, k2, k3, k4, k5, k6, k7, k8, k9, k10, k11, k12, k13⟩) rfl rfl rfl ?_
      refine i_clp F ?_
      repeat' (first | (with_reducible first | refine d_seq fun K hK => ?_ | (refine hK _ _ ?_; clear hK K) | (refine SG.p ?_; try intro b)) | refine i_c ?_ ?_ <;> intro hc <;> try simp only [push_cast, seval] at hc | refine i_x ?_ | clear hK K)
      all_goals try (first | contradiction | (simp only [ reduceCtorEq] at *; done) | (exfalso; omega))
      (with_reducible first | apply i_ret0 | apply i_ret2 | apply i_ret3 | apply i_ret); exact rfl
      rfl
theorem whl_le (s : List UInt8) : ∀ k a, a ≤ s.length → whl s k a ≤ s.length
  | 0, a, h => h
  | k + 1, a, h => by
    unfold whl
    split
    · rename_i h0
      obtain ⟨m, hm, _, hm2⟩ := opn_step h h0
      rw [hm, Int.toNat_natCast]
      exact whl_le s k _ hm2
    · exact h
theorem whole_le (s : List UInt8) : whole s ≤ s.length := whl_le s _ 0 (by omega)
theorem scn_len (Z : Dk) (base top : Nat) : ∀ k i r, (Z.scn base top k i r).length ≤ 58 * k
  | 0, i, r => by simp [Dk.scn]
  | k + 1, i, r => by
    unfold Dk.scn
    split
    · simp
    · have ih := scn_len Z base top k (i + 1) (be ((Z.get ((base + i : Nat) : Int)).take 4))
      rw [List.length_append, List.length_take]
      split
      · simp only [List.length_nil]; omega
      · omega
def Dk.found (Z : Dk) (q base sectors run : Nat) : Lg := ⟨q, base, sectors, run, (Z.scn base run sectors 0 1).take (whole (Z.scn base run sectors 0 1)), whole (Z.scn base run sectors 0 1), false⟩
theorem found_ok {Z : Dk} {q base sectors run : Nat} (h1 : 1 ≤ sectors) (h2 : base + sectors ≤ Z.sure.length) (h3 : Z.sure.length ≤ 8192) (h4 : 1 ≤ run) (h5 : run < 4294967296) : (Z.found q base sectors run).ok Z.sure.length := by
  have a := whole_le (Z.scn base run sectors 0 1)
  have b := scn_len Z base run sectors 0 1
  refine ⟨h1, h2, h3, h4, h5, ?_, ?_⟩
  · unfold Dk.found
    dsimp only
    rw [List.length_take]
    omega
  · unfold Dk.found
    dsimp only
    rw [List.length_take]
    omega
set_option maxHeartbeats 1000000 in
theorem g17 (Z : Dk) (h : Z.ok) (base sectors run : Int) (w1 : wf64 base) (w2 : wf64 sectors) :
    Fn (eT2 eP eI) Tryz.prog 7 #[.pointer (some ⟨Z.sb, 0, none⟩), .int .i64 base, .int .i64 sectors, .int .i64 run] [dk Z] fun y X =>
      if lchk Z.sure.length base sectors run = 0 then
        (if Z.up then ∃ q b n r : Nat, base = (b : Int) ∧ sectors = (n : Int) ∧ run = (r : Int) ∧ (Z.found q b n r).ok Z.sure.length ∧
          (if (Z.lmend (Z.found q b n r)).1 = 0 then y = (some ⟨q, 0, none⟩, 0) ∧ X = [lgp (Z.lmend (Z.found q b n r)).2.2 Z.sb, dk (Z.lmend (Z.found q b n r)).2.1] else y = (none, (Z.lmend (Z.found q b n r)).1) ∧ X = [dk (Z.lmend (Z.found q b n r)).2.1])
        else y = (none, 9) ∧ X = [dk Z])
      else y = (none, lchk Z.sure.length base sectors run) ∧ X = [dk Z] := fun L => by
  have C := g67 Z h base sectors run w1
  have hn1 := h.n1
  refine c7_fn rfl rfl ?_
  by_cases hc0 : lchk Z.sure.length base sectors run = 0
  · rw [hc0] at C ⊢
    simp only [if_true]
    have hin : 0 ≤ base ∧ 1 ≤ sectors ∧ 1 ≤ run ∧ run < 4294967296 ∧ base + sectors ≤ (Z.sure.length : Int) := by
      unfold lchk at hc0
      split at hc0
      · cases hc0
      · split at hc0
        · cases hc0
        · omega
    obtain ⟨m0, rfl⟩ : ∃ m : Nat, base = (m : Int) := ⟨base.toNat, by omega⟩
    obtain ⟨n, rfl⟩ : ∃ m : Nat, sectors = (m : Int) := ⟨sectors.toNat, by omega⟩
    obtain ⟨r, rfl⟩ : ∃ m : Nat, run = (m : Int) := ⟨run.toNat, by omega⟩
    repeat' (first | (with_reducible first | refine d_seq fun K hK => ?_ | (refine hK _ _ ?_; clear hK K) | (refine SG.p ?_; try intro b)) | refine i_c ?_ ?_ <;> intro hc <;> try simp only [push_cast, seval] at hc | refine i_x ?_ | clear hK K)
    refine i_clp C ?_
    repeat' (first | (with_reducible first | refine d_seq fun K hK => ?_ | (refine hK _ _ ?_; clear hK K) | (refine SG.p ?_; try intro b)) | refine i_c ?_ ?_ <;> intro hc <;> try simp only [push_cast, seval] at hc | refine i_x ?_ | clear hK K)
    all_goals try (first | contradiction | (simp only [ reduceCtorEq] at *; done) | (exfalso; omega))
    have hok0 : (⟨b, m0, n, r, [], 0, false⟩ : Lg).ok Z.sure.length := ⟨by dsimp only; omega, by dsimp only; omega, hn1, by dsimp only; omega, by dsimp only; omega, by simp, by simp⟩
    have hok : (Z.found b m0 n r).ok Z.sure.length := found_ok (by omega) (by omega) hn1 (by omega) (by omega)
    have S := g68 ⟨b, m0, n, r, [], 0, false⟩ Z h hok0
    cases hu : Z.up
    · rw [hu] at S
      simp only [Bool.false_eq_true, if_false] at S
      refine i_cal S ?_
      rintro y X ⟨rfl, rfl⟩
      repeat' (first | (with_reducible first | refine d_seq fun K hK => ?_ | (refine hK _ _ ?_; clear hK K) | (refine SG.p ?_; try intro b)) | refine i_c ?_ ?_ <;> intro hc <;> try simp only [push_cast, seval] at hc | refine i_x ?_ | clear hK K)
      all_goals try (first | contradiction | (simp only [ reduceCtorEq] at *; done) | (exfalso; omega))
      exact i_done (e := eT2 eP eI) (none, 9) [dk Z] rfl (by rw [if_neg (by simp [hu])]; exact ⟨rfl, rfl⟩)
    · rw [hu] at S
      simp only [if_true] at S
      have M := g70 _ Z h hok
      have hlen := scn_len Z m0 r n 0 1
      have hw := whole_le (Z.scn m0 r n 0 1)
      have W := g69 (Z.scn m0 r n 0 1) (by omega)
      have hA : (Z.found b m0 n r).all = (Z.scn m0 r n 0 1).take (whole (Z.scn m0 r n 0 1)) := rfl
      refine i_cal S ?_
      rintro y X ⟨rfl, rfl⟩
      generalize hsc : Z.scn m0 r n 0 1 = sc at *
      repeat' (first | (with_reducible first | refine d_seq fun K hK => ?_ | (refine hK _ _ ?_; clear hK K) | (refine SG.p ?_; try intro b)) | refine i_c ?_ ?_ <;> intro hc <;> try simp only [push_cast, seval] at hc | refine i_x ?_ | clear hK K)
      all_goals try (first | contradiction | (simp only [ reduceCtorEq] at *; done) | (exfalso; omega))
      refine i_clp W ?_
      have ess : ss sc 0 (whole sc : Int) = sc.take (whole sc) := by
        unfold ss
        simp
      have hlt : (sc.take (whole sc)).length = whole sc := by rw [List.length_take]; omega
      repeat' (first | rw [ess] | rw [hlt] | first | (with_reducible first | refine d_seq fun K hK => ?_ | (refine hK _ _ ?_; clear hK K) | (refine SG.p ?_; try intro b)) | refine i_c ?_ ?_ <;> intro hc <;> try simp only [push_cast, seval] at hc | refine i_x ?_ | clear hK K)
      have hfd : Z.found b m0 n r = ⟨b, m0, n, r, sc.take (whole sc), whole sc, false⟩ := by unfold Dk.found; rw [hsc]
      have M' := M
      rw [hfd] at M'
      generalize hR : Z.lmend ⟨b, m0, n, r, sc.take (whole sc), whole sc, false⟩ = R at *
      obtain ⟨e, Y, G'⟩ := R
      dsimp only at M'
      refine i_clq M' ?_
      repeat' (first | (with_reducible first | refine d_seq fun K hK => ?_ | (refine hK _ _ ?_; clear hK K) | (refine SG.p ?_; try intro b)) | refine i_c ?_ ?_ <;> intro hc <;> try simp only [push_cast, seval] at hc | refine i_x ?_ | clear hK K)
      · have he : ¬ e = 0 := by simpa using hc
        exact i_done (e := eT2 eP eI) (none, e) [dk Y] rfl (by rw [if_pos hu]; exact ⟨b, m0, n, r, rfl, rfl, rfl, hok, by rw [hfd, hR]; dsimp only; rw [if_neg he]; exact ⟨rfl, rfl⟩⟩)
      · have he : e = 0 := by simpa using hc
        exact i_done (e := eT2 eP eI) (some ⟨b, 0, none⟩, 0) [lgp G' Z.sb, dk Y] rfl (by rw [if_pos hu]; exact ⟨b, m0, n, r, rfl, rfl, rfl, hok, by rw [hfd, hR]; dsimp only; rw [if_pos he]; exact ⟨rfl, rfl⟩⟩)
  · simp only [hc0, if_false]
    repeat' (first | (with_reducible first | refine d_seq fun K hK => ?_ | (refine hK _ _ ?_; clear hK K) | (refine SG.p ?_; try intro b)) | refine i_c ?_ ?_ <;> intro hc <;> try simp only [push_cast, seval] at hc | refine i_x ?_ | clear hK K)
    refine i_clp C ?_
    repeat' (first | (with_reducible first | refine d_seq fun K hK => ?_ | (refine hK _ _ ?_; clear hK K) | (refine SG.p ?_; try intro b)) | refine i_c ?_ ?_ <;> intro hc <;> try simp only [push_cast, seval] at hc | refine i_x ?_ | clear hK K)
    all_goals try (exfalso; simp at hc; exact hc0 hc)
    all_goals try contradiction
    exact i_done (e := eT2 eP eI) (none, lchk Z.sure.length base sectors run) [dk Z] rfl ⟨rfl, rfl⟩
def Lg.read (G : Lg) (lsn : Int) : Rc × Int × Int := if lsn < 1 ∨ (G.all.length : Int) < lsn then (Rc.z 0, 0, 8) else if (opn G.all (lsn - 1)).2.2 = 0 then ((opn G.all (lsn - 1)).1, lsn + (opn G.all (lsn - 1)).2.1, 0) else (Rc.z 0, 0, (opn G.all (lsn - 1)).2.2)
set_option maxHeartbeats 1000000 in
theorem g35 (G : Lg) (sb : Nat) (hl : G.all.length ≤ 1000000) (lsn : Int) : Fn (eT3 e_api_Rec eI eI) Tryz.prog 33 #[G.p, .int .i64 lsn] [lgp G sb] fun y X => ∃ A : HP, X = [A, lgp G sb] ∧ RcAt A y.1 (G.read lsn).1 ∧ y.2 = (G.read lsn).2 := fun L => by
  refine c33_fn rfl rfl ?_
  generalize hB' : G.read lsn = B
  have hB := hB'
  unfold Lg.read at hB
  by_cases h1 : lsn < 1 ∨ (G.all.length : Int) < lsn
  · rw [if_pos h1] at hB
    refine r_nilow 192 2 ?_
    obtain ⟨A, hA⟩ : ∃ A, A = ow 192 2 (none, 0, 0) [] := ⟨_, rfl⟩
    rw [← hA]
    repeat' (first | (with_reducible first | refine d_seq fun K hK => ?_ | (refine hK _ _ ?_; clear hK K) | (refine SG.p ?_; try intro b)) | refine i_c ?_ ?_ <;> intro hc <;> try simp only [push_cast, seval] at hc | refine i_x ?_ | clear hK K)
    refine i_clp (g83 G sb) ?_
    repeat' (first | (with_reducible first | refine d_seq fun K hK => ?_ | (refine hK _ _ ?_; clear hK K) | (refine SG.p ?_; try intro b)) | refine i_c ?_ ?_ <;> intro hc <;> try simp only [push_cast, seval] at hc | refine i_x ?_ | clear hK K)
    all_goals try (exfalso; omega)
    all_goals try contradiction
    all_goals (refine i_ldn (e := e_api_Rec) (x := ⟨0, 0, 0, 0, 0, [], [], [], 0, (none, 0, 0), (none, 0, 0), 0, 0⟩) rfl rfl rfl ?_); exact i_done (e := eT3 e_api_Rec eI eI) (⟨0, 0, 0, 0, 0, [], [], [], 0, (none, 0, 0), (none, 0, 0), 0, 0⟩, 0, 8) [A, lgp G sb] rfl ⟨A, rfl, (by rw [← hB]; exact RcAt_z A 0), (by rw [← hB])⟩
  · rw [if_neg h1] at hB
    have O := g26 G.all (lsn - 1) (by omega)
    have hst : (opn G.all (lsn - 1)).2.2 = 0 → ∃ m : Nat, (opn G.all (lsn - 1)).2.1 = (m : Int) ∧ 7 ≤ m ∧ m ≤ G.all.length := fun h0 => by
      obtain ⟨a, ha⟩ : ∃ a : Nat, lsn - 1 = (a : Int) := ⟨(lsn - 1).toNat, by omega⟩
      rw [ha] at h0 ⊢
      obtain ⟨m, m1, m2, m3⟩ := opn_step (by omega) h0
      exact ⟨m, m1, m2, by omega⟩
    generalize opn G.all (lsn - 1) = o at *
    obtain ⟨c, n, e⟩ := o
    dsimp only at O hB hst
    have ew : IntKind.wrap .i64 (lsn - 1) = lsn - 1 := w64 (by omega) (by omega)
    repeat' (first | (with_reducible first | refine d_seq fun K hK => ?_ | (refine hK _ _ ?_; clear hK K) | (refine SG.p ?_; try intro b)) | refine i_c ?_ ?_ <;> intro hc <;> try simp only [push_cast, seval] at hc | refine i_x ?_ | clear hK K)
    refine i_clp (g83 G sb) ?_
    repeat' (first | rw [ew] | first | (with_reducible first | refine d_seq fun K hK => ?_ | (refine hK _ _ ?_; clear hK K) | (refine SG.p ?_; try intro b)) | refine i_c ?_ ?_ <;> intro hc <;> try simp only [push_cast, seval] at hc | refine i_x ?_ | clear hK K)
    all_goals try (exfalso; omega)
    all_goals try contradiction
    refine i_cal O ?_
    rintro ⟨⟨k1, k2, k3, k4, k5, k6, k7, k8, k9, k10, k11, k12, k13⟩, y⟩ X ⟨A, rfl, hr, he⟩
    dsimp only at hr he
    subst he
    by_cases e2 : e = 0
    · subst e2
      rw [if_pos rfl] at hB
      obtain ⟨m, rfl, m1, m2⟩ := hst rfl
      have ew2 : IntKind.wrap .i64 (lsn + (m : Int)) = lsn + (m : Int) := w64 (by omega) (by omega)
      repeat' (first | (with_reducible first | refine d_seq fun K hK => ?_ | (refine hK _ _ ?_; clear hK K) | (refine SG.p ?_; try intro b)) | refine i_c ?_ ?_ <;> intro hc <;> try simp only [push_cast, seval] at hc | refine i_x ?_ | clear hK K)
      all_goals try (first | contradiction | (simp only [ reduceCtorEq] at *; done) | (exfalso; omega))
      rw [ew2]
      refine i_ldn (e := e_api_Rec) (x := ⟨k1, k2, k3, k4, k5, k6, k7, k8, k9, k10, k11, k12, k13⟩) rfl rfl rfl ?_
      repeat' (first | (with_reducible first | refine d_seq fun K hK => ?_ | (refine hK _ _ ?_; clear hK K) | (refine SG.p ?_; try intro b)) | refine i_c ?_ ?_ <;> intro hc <;> try simp only [push_cast, seval] at hc | refine i_x ?_ | clear hK K)
      refine i_ldn (e := e_api_Rec) (x := ⟨k1, k2, k3, k4, k5, k6, k7, k8, k9, k10, k11, k12, k13⟩) rfl rfl rfl ?_
      exact i_done (e := eT3 e_api_Rec eI eI) (⟨k1, k2, k3, k4, k5, k6, k7, k8, k9, k10, k11, k12, k13⟩, lsn + (m : Int), 0) [A, lgp G sb] rfl ⟨A, rfl, (by rw [← hB]; exact hr), (by rw [← hB])⟩
    · rw [if_neg e2] at hB
      repeat' (first | (with_reducible first | refine d_seq fun K hK => ?_ | (refine hK _ _ ?_; clear hK K) | (refine SG.p ?_; try intro b)) | refine i_c ?_ ?_ <;> intro hc <;> try simp only [push_cast, seval] at hc | refine i_x ?_ | clear hK K)
      all_goals try (first | contradiction | (simp only [ reduceCtorEq] at *; done) | (exfalso; omega))
      (refine i_ldn (e := e_api_Rec) (x := ⟨0, 0, 0, 0, 0, [], [], [], 0, (none, 0, 0), (none, 0, 0), 0, 0⟩) rfl rfl rfl ?_); exact i_done (e := eT3 e_api_Rec eI eI) (⟨0, 0, 0, 0, 0, [], [], [], 0, (none, 0, 0), (none, 0, 0), 0, 0⟩, 0, e) [A, lgp G sb] rfl ⟨A, rfl, (by rw [← hB]; exact RcAt_z A 0), (by rw [← hB])⟩
theorem Rs.wide {A B : HP} {s : SlV} {sz : Nat} {cs : List Value} (h : Rs A s sz cs) (w : ∀ x, B x → ∃ a, sub a x ∧ A a) : Rs B s sz cs :=
  ⟨h.1, h.2.1, fun a ha x hx j v hj => by
    obtain ⟨y, hy, hA⟩ := w x hx
    exact pc_sub hy (h.2.2 a ha y hA j v hj)⟩
theorem RcAt.wide {A B : HP} {r : api_Rec} {c : Rc} (h : RcAt A r c) (w : ∀ x, B x → ∃ a, sub a x ∧ A a) : RcAt B r c := ⟨h.e, h.i.wide w, h.t.wide w, h.li, h.lt⟩
structure RL (S : HP) (rs : List api_Rec) (cs : List Rc) : Prop where
  n : rs.length = cs.length
  g : ∀ (i : Nat) (r : api_Rec) (c : Rc), rs[i]? = some r → cs[i]? = some c → RcAt S r c
def frl (s : List UInt8) (most : Int) : Nat → Nat → List UInt8 × Int
  | 0, a => (s.take a, 0)
  | k + 1, a => if (opn s (a : Int)).2.2 = 0 then (if 0 < a ∧ most - (a : Int) < (opn s (a : Int)).2.1 then (s.take a, 0) else frl s most k (a + (opn s (a : Int)).2.1.toNat))
    else if a = 0 ∧ 0 < s.length then ([], 4) else (s.take a, 0)
def Lg.from (G : Lg) (lsn most : Int) : List UInt8 × Int :=
  if lsn < 1 ∨ (G.durable : Int) + 1 < lsn then ([], 6) else
  (fun s : List UInt8 => frl s (if most < 0 then 0 else most) (s.length + 1) 0) ((G.all.take G.durable).drop (lsn - 1).toNat)
def few (c : Rc) : Rc := { c with imgs := c.imgs.take 2, tbl := c.tbl.take 3 }
theorem calm_get {Z : Dk} {sb n : Nat} (h : Z.calm sb n) {i : Nat} (hi : i < n) {s : List UInt8} (hs : s.length ≤ 64) (j : Nat) : (Z.write (i : Int) s).2.get (j : Int) = if i = j then wh s else Z.get (j : Int) := by
  obtain ⟨_, _, w3, _, w5⟩ := h.write hi hs
  unfold Dk.get
  rw [w5, w3]
  by_cases e : i = j
  · subst e
    rw [if_pos rfl, if_pos rfl]
    rfl
  · rw [if_neg (by omega), if_neg e]
theorem sec_len (G : Lg) (i : Nat) : (G.sec i).length ≤ 64 := by
  have := part_le G.all i
  unfold Lg.sec
  simp only [List.length_append, lowb_len]
  omega
theorem lw_calm {Z : Dk} {sb n : Nat} (h : Z.calm sb n) {G : Lg} (hG : G.ok n) (i : Nat) : (Z.lw G i).1 = 0 ∧ (Z.lw G i).2.calm sb n ∧ ∀ j : Nat, (Z.lw G i).2.get (j : Int) = if i < G.sectors ∧ j = G.base + i then wh (G.sec i) else Z.get (j : Int) := by
  have hfit := hG.fit
  unfold Dk.lw
  by_cases h1 : G.sectors ≤ i
  · rw [if_pos h1]
    exact ⟨rfl, h, fun j => by rw [if_neg (by omega)]⟩
  · rw [if_neg h1]
    obtain ⟨w1, w2, _⟩ := h.write (i := G.base + i) (by omega) (sec_len G i)
    refine ⟨w1, w2, fun j => ?_⟩
    rw [calm_get h (by omega) (sec_len G i)]
    by_cases hj : G.base + i = j
    · rw [if_pos hj, if_pos ⟨by omega, hj.symm⟩]
    · rw [if_neg hj, if_neg (by omega)]
theorem lws_calm {sb n : Nat} {G : Lg} (hG : G.ok n) : ∀ (k i : Nat) {Z : Dk}, Z.calm sb n → G.sectors + 1 ≤ k + i → (lws G k i Z).1 = 0 ∧ (lws G k i Z).2.calm sb n ∧ ∀ j : Nat, (lws G k i Z).2.get (j : Int) = if G.base + i ≤ j ∧ 58 * (j - G.base) < G.all.length then wh (G.sec (j - G.base)) else Z.get (j : Int)
  | 0, i, Z, h, hk => by
    have := hG.le
    refine ⟨rfl, h, fun j => ?_⟩
    rw [if_neg (by omega)]
    rfl
  | k + 1, i, Z, h, hk => by
    have hle := hG.le
    by_cases hi : 58 * i < G.all.length
    · obtain ⟨a1, a2, a3⟩ := lw_calm h hG i
      obtain ⟨b1, b2, b3⟩ := lws_calm hG k (i + 1) a2 (by omega)
      have e : lws G (k + 1) i Z = lws G k (i + 1) (Z.lw G i).2 := by
        show (if 58 * i < G.all.length then _ else _) = _
        rw [if_pos hi, if_pos a1]
      rw [e]
      refine ⟨b1, b2, fun j => ?_⟩
      rw [b3, a3]
      by_cases hj : j = G.base + i
      · rw [if_neg (by omega), if_pos ⟨by omega, hj⟩, if_pos ⟨by omega, by rw [hj, Nat.add_sub_cancel_left]; exact hi⟩, hj, Nat.add_sub_cancel_left]
      · by_cases hm : G.base + (i + 1) ≤ j ∧ 58 * (j - G.base) < G.all.length
        · rw [if_pos hm, if_pos ⟨by omega, hm.2⟩]
        · rw [if_neg hm, if_neg (by omega), if_neg (by omega)]
    · have e : lws G (k + 1) i Z = (0, Z) := by
        show (if 58 * i < G.all.length then _ else _) = _
        rw [if_neg hi]
      rw [e]
      refine ⟨rfl, h, fun j => ?_⟩
      rw [if_neg (by omega)]
def secb (r : Nat) (p : List UInt8) : List UInt8 := lowb (r : Int) 4 ++ lowb (p.length : Int) 2 ++ p
theorem sec_b (G : Lg) (i : Nat) : G.sec i = secb G.run (part G.all i) := rfl
def at4 (v : List UInt8) : Nat := be (v.take 4)
def n2 (v : List UInt8) : Nat := be ((v.drop 4).take 2)
theorem secb_rd {r : Nat} {p : List UInt8} (hr : r < 4294967296) (hp : p.length ≤ 58) : at4 (wh (secb r p)) = r ∧ n2 (wh (secb r p)) = p.length ∧ ((wh (secb r p)).drop 6).take p.length = p := by
  have l4 := lowb_len (r : Int) 4
  have l2 := lowb_len (p.length : Int) 2
  have e : wh (secb r p) = lowb (r : Int) 4 ++ (lowb (p.length : Int) 2 ++ (p ++ List.replicate (64 - (secb r p).length) 0)) := by
    unfold wh secb
    simp
  have b4 : be (lowb (r : Int) 4) = r := nat_eq (be_fits (by omega) (by rw [show ((256 ^ 4 : Nat) : Int) = 4294967296 by decide]; omega))
  have b2 : be (lowb (p.length : Int) 2) = p.length := nat_eq (be_fits (by omega) (by rw [show ((256 ^ 2 : Nat) : Int) = 65536 by decide]; omega))
  generalize List.replicate (64 - (secb r p).length) (0 : UInt8) = Y at e
  unfold at4 n2
  rw [e]
  refine ⟨by rw [List.take_left' l4, b4], by rw [List.drop_left' l4, List.take_left' l2, b2], ?_⟩
  have e2 : (lowb (r : Int) 4 ++ (lowb (p.length : Int) 2 ++ (p ++ Y))).drop 6 = p ++ Y := by
    rw [← List.append_assoc]
    exact List.drop_left' (by rw [List.length_append, l4, l2])
  rw [e2]
  exact List.take_left' rfl
def prv (ρ : Nat → Nat) (i : Nat) : Nat := if i = 0 then 1 else ρ (i - 1)
structure Tells (Z : Dk) (base S : Nat) (all : List UInt8) (ρ : Nat → Nat) : Prop where
  secs : ∀ m, 58 * m < all.length → m < S → Z.get ((base + m : Nat) : Int) = wh (secb (ρ m) (part all m))
  mono : ∀ m, prv ρ m ≤ ρ m
  lt : ∀ m, ρ m < 4294967296
  stop : ∀ m, m < S → 58 * m = all.length → at4 (Z.get ((base + m : Nat) : Int)) < prv ρ m ∨ n2 (Z.get ((base + m : Nat) : Int)) = 0
  le : all.length ≤ 58 * S
theorem part_len (all : List UInt8) (i : Nat) : (part all i).length = min 58 (all.length - 58 * i) := by
  unfold part
  rw [List.length_take, List.length_drop]
theorem lmend_calm {Z : Dk} {sb n : Nat} (h : Z.calm sb n) {G : Lg} (hG : G.ok n) : (Z.lmend G).1 = 0 ∧ (Z.lmend G).2.2 = G ∧ (Z.lmend G).2.1.calm sb n ∧ (Z.lmend G).2.1.es = [] ∧ ∀ j : Nat, j < n → (Z.lmend G).2.1.get (j : Int) = if G.durable / 58 < G.sectors ∧ j = G.base + G.durable / 58 then wh (G.sec (G.durable / 58)) else Z.get (j : Int) := by
  have hn : 0 < n := by have := hG.fit; have := hG.s1; omega
  obtain ⟨a1, a2, a3⟩ := lw_calm h hG (G.durable / 58)
  obtain ⟨b1, b2, b3, _, b5⟩ := a2.sync hn
  unfold Dk.lmend
  rw [if_pos a1]
  dsimp only
  refine ⟨b1, by rw [b1]; exact down_0 G, b2, b3, fun j hj => ?_⟩
  rw [b5 j hj, a3]
theorem lflush_calm {Z : Dk} {sb n : Nat} (h : Z.calm sb n) {G : Lg} (hG : G.ok n) (hd : G.dead = false) : (Z.lflush G).1 = 0 ∧ (Z.lflush G).2.2 = { G with durable := G.all.length } ∧ (Z.lflush G).2.1.calm sb n ∧ (G.durable < G.all.length → (Z.lflush G).2.1.es = []) ∧
    (G.durable = G.all.length → (Z.lflush G).2.1 = Z) ∧ ∀ j : Nat, j < n → (Z.lflush G).2.1.get (j : Int) = if G.durable < G.all.length ∧ G.base + G.durable / 58 ≤ j ∧ 58 * (j - G.base) < G.all.length then wh (G.sec (j - G.base)) else Z.get (j : Int) := by
  have hn : 0 < n := by have := hG.fit; have := hG.s1; omega
  have hdu := hG.du
  unfold Dk.lflush
  rw [if_neg (by rw [hd]; decide)]
  by_cases hq : G.durable = G.all.length
  · rw [if_pos hq]
    refine ⟨rfl, ?_, h, fun hlt => by omega, fun _ => rfl, fun j hj => by rw [if_neg (by omega)]⟩
    dsimp only
    rw [← hq]
  · rw [if_neg hq]
    obtain ⟨a1, a2, a3⟩ := lws_calm hG (G.sectors + 1) (G.durable / 58) h (by omega)
    obtain ⟨b1, b2, b3, _, b5⟩ := a2.sync hn
    dsimp only
    rw [if_pos a1, if_pos b1]
    refine ⟨rfl, rfl, b2, fun _ => b3, fun e => absurd e hq, fun j hj => ?_⟩
    dsimp only
    rw [b5 j hj, a3]
    by_cases hj2 : G.base + G.durable / 58 ≤ j ∧ 58 * (j - G.base) < G.all.length
    · rw [if_pos hj2, if_pos ⟨by omega, hj2⟩]
    · rw [if_neg hj2, if_neg (fun hx => hj2 hx.2)]
structure Wi (Z : Dk) (sb n : Nat) (G : Lg) (ρ : Nat → Nat) : Prop where
  calm : Z.calm sb n
  ok : G.ok n
  dead : G.dead = false
  tells : Tells Z G.base G.sectors (G.all.take G.durable) ρ
  top : ∀ m, 58 * m < G.durable → ρ m ≤ G.run
  fresh : ∀ m, m < G.sectors → G.durable < 58 * m → at4 (Z.get ((G.base + m : Nat) : Int)) < G.run
  edge : ∀ m, m < G.sectors → G.durable = 58 * m → at4 (Z.get ((G.base + m : Nat) : Int)) < G.run ∨ (at4 (Z.get ((G.base + m : Nat) : Int)) = G.run ∧ n2 (Z.get ((G.base + m : Nat) : Int)) = 0)
theorem Wi.append {Z : Dk} {sb n : Nat} {G : Lg} {ρ : Nat → Nat} (h : Wi Z sb n G ρ) {s : List UInt8} (hs : G.all.length + s.length ≤ 58 * G.sectors) : Wi Z sb n { G with all := G.all ++ s } ρ := by
  obtain ⟨a1, a2, a3, a4, a5, a6, a7⟩ := h
  have hdu := a2.du
  have e : (G.all ++ s).take G.durable = G.all.take G.durable := List.take_append_of_le_length hdu
  refine ⟨a1, ⟨a2.s1, a2.fit, a2.n1, a2.r1, a2.r2, by dsimp only; rw [List.length_append]; omega, by dsimp only; rw [List.length_append]; exact hs⟩, a3, ?_, a5, a6, a7⟩
  dsimp only
  rw [e]
  exact a4
theorem part_take {all : List UInt8} {d m : Nat} (h : 58 * m + 58 ≤ d) : part (all.take d) m = part all m := by
  unfold part
  rw [List.drop_take, List.take_take, show min 58 (d - 58 * m) = 58 by omega]
theorem Wi.flush {Z : Dk} {sb n : Nat} {G : Lg} {ρ : Nat → Nat} (h : Wi Z sb n G ρ) : ∃ ρ', Wi (Z.lflush G).2.1 sb n { G with durable := G.all.length } ρ' := by
  obtain ⟨a1, a2, a3, a4, a5, a6, a7⟩ := h
  have hdu := a2.du
  have hle := a2.le
  have hfit := a2.fit
  obtain ⟨l1, l2, l3, l4, l5, l6⟩ := lflush_calm a1 a2 a3
  by_cases hq : G.durable = G.all.length
  · refine ⟨ρ, ?_⟩
    rw [l5 hq, ← hq]
    exact ⟨a1, a2, a3, a4, a5, a6, a7⟩
  · have hget : ∀ m, m < G.sectors → (Z.lflush G).2.1.get ((G.base + m : Nat) : Int) = if G.durable / 58 ≤ m ∧ 58 * m < G.all.length then wh (G.sec m) else Z.get ((G.base + m : Nat) : Int) := fun m hm => by
      rw [l6 (G.base + m) (by omega)]
      have e : G.base + m - G.base = m := by omega
      rw [e]
      by_cases hc : G.durable / 58 ≤ m ∧ 58 * m < G.all.length
      · rw [if_pos hc, if_pos ⟨by omega, by omega, hc.2⟩]
      · rw [if_neg hc, if_neg (by omega)]
    refine ⟨fun m => if m < G.durable / 58 then ρ m else G.run, l3, ⟨a2.s1, a2.fit, a2.n1, a2.r1, a2.r2, Nat.le_refl _, hle⟩, a3, ?_, ?_, ?_, ?_⟩
    · dsimp only
      rw [List.take_length]
      refine ⟨fun m m1 m2 => ?_, fun m => ?_, fun m => ?_, fun m m1 m2 => ?_, hle⟩
      · rw [hget m m2]
        by_cases hm : m < G.durable / 58
        · rw [if_neg (by omega), if_pos hm, a4.secs m (by rw [List.length_take]; omega) m2, part_take (by omega)]
        · rw [if_pos ⟨by omega, m1⟩, if_neg hm]
          rfl
      · have hm0 := a4.mono m
        have hr := a2.r1
        unfold prv at hm0 ⊢
        by_cases m0 : m = 0
        · rw [if_pos m0] at hm0 ⊢
          split <;> omega
        · rw [if_neg m0] at hm0 ⊢
          dsimp only
          by_cases h1 : m < G.durable / 58
          · rw [if_pos (by omega), if_pos h1]; exact hm0
          · rw [if_neg h1]
            split
            · exact a5 (m - 1) (by omega)
            · exact Nat.le_refl _
      · split
        · exact a4.lt m
        · exact a2.r2
      · left
        rw [hget m m1, if_neg (by omega)]
        have hf := a6 m m1 (by omega)
        have hm0 : ¬ m = 0 := by omega
        unfold prv
        rw [if_neg hm0]
        dsimp only
        rw [if_neg (by omega)]
        exact hf
    · intro m hm
      dsimp only
      split
      · exact a5 m (by omega)
      · exact Nat.le_refl _
    · intro m m1 m2
      dsimp only at m1 m2 ⊢
      rw [hget m m1, if_neg (by omega)]
      exact a6 m m1 (by omega)
    · intro m m1 m2
      dsimp only at m1 m2 ⊢
      left
      rw [hget m m1, if_neg (by omega)]
      exact a6 m m1 (by omega)
theorem mend_wi {Z : Dk} {sb n : Nat} {G : Lg} {ρ : Nat → Nat} (hc : Z.calm sb n) (hG : G.ok n) (hd : G.dead = false) (hdur : G.durable = G.all.length)
    (secs : ∀ m, 58 * m < G.durable → m < G.sectors → m < G.durable / 58 → Z.get ((G.base + m : Nat) : Int) = wh (secb (ρ m) (part G.all m)))
    (mono : ∀ m, prv ρ m ≤ ρ m) (lt : ∀ m, ρ m < 4294967296) (top : ∀ m, m < G.durable / 58 → ρ m ≤ G.run)
    (fresh : ∀ m, m < G.sectors → G.durable / 58 < m → at4 (Z.get ((G.base + m : Nat) : Int)) < G.run) :
    ∃ ρ', Wi (Z.lmend G).2.1 sb n G ρ' ∧ (Z.lmend G).1 = 0 ∧ (Z.lmend G).2.2 = G ∧ (Z.lmend G).2.1.es = [] := by
  obtain ⟨m1, m2, m3, m4, m5⟩ := lmend_calm hc hG
  have hfit := hG.fit
  have hle := hG.le
  have hget : ∀ m, m < G.sectors → (Z.lmend G).2.1.get ((G.base + m : Nat) : Int) = if m = G.durable / 58 then wh (G.sec m) else Z.get ((G.base + m : Nat) : Int) := fun m hm => by
    rw [m5 (G.base + m) (by omega)]
    by_cases e : m = G.durable / 58
    · rw [if_pos e, if_pos ⟨by omega, by omega⟩, e]
    · rw [if_neg e, if_neg (by omega)]
  have hr2 := hG.r2
  refine ⟨fun m => if m < G.durable / 58 then ρ m else G.run, ⟨m3, hG, hd, ?_, ?_, ?_, ?_⟩, m1, m2, m4⟩
  · rw [hdur, List.take_length, ← hdur]
    refine ⟨fun m a b => ?_, fun m => ?_, fun m => ?_, fun m a b => ?_, by omega⟩
    · rw [hget m b]
      by_cases hm : m < G.durable / 58
      · rw [if_neg (by omega), if_pos hm]
        exact secs m (by omega) b hm
      · have : m = G.durable / 58 := by omega
        rw [if_pos this, if_neg hm]
        rfl
    · have hm0 := mono m
      have hr := hG.r1
      unfold prv at hm0 ⊢
      by_cases m0 : m = 0
      · rw [if_pos m0] at hm0 ⊢
        split <;> omega
      · rw [if_neg m0] at hm0 ⊢
        dsimp only
        by_cases h1 : m < G.durable / 58
        · rw [if_pos (by omega), if_pos h1]; exact hm0
        · rw [if_neg h1]
          split
          · exact top (m - 1) (by omega)
          · exact Nat.le_refl _
    · split
      · exact lt m
      · exact hG.r2
    · right
      rw [hget m a, if_pos (by omega)]
      obtain ⟨_, b2, _⟩ := secb_rd (r := G.run) (p := part G.all m) hr2 (part_le G.all m)
      rw [sec_b, b2, part_len]
      omega
  · intro m hm
    split
    · exact top m (by omega)
    · exact Nat.le_refl _
  · intro m a b
    rw [hget m a, if_neg (by omega)]
    exact fresh m a (by omega)
  · intro m a b
    right
    rw [hget m a, if_pos (by omega)]
    obtain ⟨b1, b2, _⟩ := secb_rd (r := G.run) (p := part G.all m) hr2 (part_le G.all m)
    rw [sec_b]
    exact ⟨b1, by rw [b2, part_len]; omega⟩
theorem Wi.mv {Z Y : Dk} {sb n : Nat} {G : Lg} {ρ : Nat → Nat} (h : Wi Z sb n G ρ) (hc : Y.calm sb n) (hg : ∀ j : Nat, j < n → Y.get (j : Int) = Z.get (j : Int)) : Wi Y sb n G ρ := by
  have hfit := h.ok.fit
  refine ⟨hc, h.ok, h.dead, ⟨fun m a b => ?_, h.tells.mono, h.tells.lt, fun m a b => ?_, h.tells.le⟩, h.top, fun m a b => ?_, fun m a b => ?_⟩
  · rw [hg _ (by omega)]; exact h.tells.secs m a b
  · rw [hg _ (by omega)]; exact h.tells.stop m a b
  · rw [hg _ (by omega)]; exact h.fresh m a b
  · rw [hg _ (by omega)]; exact h.edge m a b
theorem off_get {Z : Dk} {sb n : Nat} (h : Z.calm sb n) (he : Z.es = []) (keep : Int) (j : Nat) : (Z.off keep).on.get (j : Int) = Z.get (j : Int) := by
  obtain ⟨_, _, _, _, h5⟩ := h.off keep
  rcases h5 j with h6 | ⟨v, h6, _⟩
  · rw [h6]
    unfold Dk.get
    rw [he]
    simp [gk]
  · rw [he] at h6
    cases h6
theorem Wi.off {Z : Dk} {sb n : Nat} {G : Lg} {ρ : Nat → Nat} (h : Wi Z sb n G ρ) (he : Z.es = []) (keep : Int) : Wi (Z.off keep).on sb n G ρ :=
  h.mv (h.calm.off keep).1 fun j _ => off_get h.calm he keep j
theorem found_zero {Z : Dk} {q base S run : Nat} (h : at4 (Z.get ((base : Nat) : Int)) = 0) (hS : 1 ≤ S) : Z.found q base S run = ⟨q, base, S, run, [], 0, false⟩ := by
  have e : Z.scn base run S 0 1 = [] := by
    obtain ⟨k, rfl⟩ : ∃ k, S = k + 1 := ⟨S - 1, by omega⟩
    unfold Dk.scn
    unfold at4 at h
    rw [Nat.add_zero, h, if_pos (by omega)]
  unfold Dk.found
  rw [e]
  rfl
theorem mend_zero {Z : Dk} {sb n q base S run : Nat} (hc : Z.calm sb n) (hz : ∀ m, m < S → at4 (Z.get ((base + m : Nat) : Int)) = 0) (hS : 1 ≤ S) (hf : base + S ≤ n) (hn : n ≤ 8192) (r1 : 1 ≤ run) (r2 : run < 4294967296) :
    ∃ ρ', Wi (Z.lmend ⟨q, base, S, run, [], 0, false⟩).2.1 sb n ⟨q, base, S, run, [], 0, false⟩ ρ' ∧ (Z.lmend ⟨q, base, S, run, [], 0, false⟩).1 = 0 ∧ (Z.lmend ⟨q, base, S, run, [], 0, false⟩).2.2 = ⟨q, base, S, run, [], 0, false⟩ ∧ (Z.lmend ⟨q, base, S, run, [], 0, false⟩).2.1.es = [] := by
  refine mend_wi (ρ := fun _ => 1) hc ⟨hS, hf, hn, r1, r2, Nat.le_refl _, by simp⟩ rfl rfl (fun m a => ?_) (fun m => ?_) (fun m => by decide) (fun m _ => r1) (fun m a _ => ?_)
  · simp at a
  · unfold prv; split <;> exact Nat.le_refl _
  · show at4 (Z.get ((base + m : Nat) : Int)) < run
    rw [hz m a]
    exact r1
theorem at4_nil : at4 (wh []) = 0 := by decide
theorem new_get {sb bb mb n j : Nat} (h : j < n) : (Dk.new sb bb mb n).get (j : Int) = wh [] := by
  unfold Dk.get Dk.new
  simp [gk, h]
theorem wopen0 {Z : Dk} {sb n : Nat} (hc : Z.calm sb n) {base S run : Nat} (hz : ∀ m, m < S → at4 (Z.get ((base + m : Nat) : Int)) = 0) (hS : 1 ≤ S) (hf : base + S ≤ n) (hn : n ≤ 8192) (r1 : 1 ≤ run) (r2 : run < 4294967296) :
    Fn (eT2 eP eI) Tryz.prog 7 #[.pointer (some ⟨sb, 0, none⟩), .int .i64 (base : Int), .int .i64 (S : Int), .int .i64 (run : Int)] [dk Z] fun y X => ∃ (q : Nat) (Y : Dk) (ρ : Nat → Nat), y = (some ⟨q, 0, none⟩, 0) ∧ X = [lgp ⟨q, base, S, run, [], 0, false⟩ sb, dk Y] ∧ Wi Y sb n ⟨q, base, S, run, [], 0, false⟩ ρ ∧ Y.es = [] := fun L w hw => by
  have F := g17 Z hc.ok (base : Int) (S : Int) (run : Int) (by unfold wf64; omega) (by unfold wf64; omega)
  rw [hc.sb] at F
  refine (F L w hw).mono ?_
  rintro _ w' ⟨y, he, X, hX, hW⟩
  have e0 : lchk Z.sure.length (base : Int) (S : Int) (run : Int) = 0 := by
    unfold lchk
    rw [hc.n, if_neg (by omega), if_neg (by omega)]
  rw [if_pos e0, if_pos hc.up] at hX
  obtain ⟨q, b, k, r, e1, e2, e3, hok, h⟩ := hX
  obtain rfl : b = base := by omega
  obtain rfl : k = S := by omega
  obtain rfl : r = run := by omega
  rw [found_zero (by have := hz 0 (by omega); simpa using this) hS] at h
  obtain ⟨ρ, m1, m2, m3, m4⟩ := mend_zero (q := q) hc hz hS hf hn r1 r2
  rw [if_pos m2, m3] at h
  exact ⟨y, he, X, ⟨q, _, ρ, h.1, h.2, m1, m4⟩, hW⟩
theorem append_is {G : Lg} (hd : G.dead = false) (c : Rc) : G.append c = if c.frame.2 = 0 then (if G.all.length + c.frame.1.length ≤ 58 * G.sectors then ((((G.all.length + 1 : Nat) : Int), 0), { G with all := G.all ++ c.frame.1 }) else ((0, 7), G)) else ((0, c.frame.2), G) := by
  unfold Lg.append Lg.add
  rw [if_neg (by rw [hd]; decide)]
  by_cases h0 : c.frame.2 = 0
  · rw [if_pos h0, if_pos h0]
    by_cases hq : G.all.length + c.frame.1.length ≤ 58 * G.sectors
    · rw [if_pos hq, if_neg (by omega)]
    · rw [if_neg hq, if_pos (by omega)]
  · rw [if_neg h0, if_neg h0]
theorem Wi.app {Z : Dk} {sb n : Nat} {G : Lg} {ρ : Nat → Nat} (h : Wi Z sb n G ρ) (c : Rc) : Wi Z sb n (G.append c).2 ρ := by
  rw [append_is h.dead]
  split
  · split
    · exact h.append (by assumption)
    · exact h
  · exact h
end Go.Sp
namespace Go.Sp
open Go Go.MapKept
theorem HS.perm {A B : List HP} (p : A.Perm B) : ∀ {h : PH}, HS A h → HS B h := by
  induction p with
  | nil => exact fun h => h
  | cons x _ ih => exact fun h => HS.cong (fun _ => ih) h
  | swap x y l => exact fun h => HS.swap h
  | trans _ _ i1 i2 => exact fun h => i2 (i1 h)
section
variable {σ : Type} {f : σ → HP} {N N' : List σ} {x : σ} {L : List HP} {G : World → Prop}
theorem E.pull (p : N.Perm (x :: N')) (h : E (f x :: HS (N'.map f) :: L) G) : E (HS (N.map f) :: L) G := fun w hw => by
  have h1 : Holds w (HS ((x :: N').map f) :: L) := HS.hd (fun _ => HS.perm (p.map f)) hw
  have h2 : Holds w (([f x] ++ N'.map f) ++ L) := Holds.open h1
  refine h w (HS.cong (fun _ hh => ?_) h2)
  exact (fun {h} (y : HS (N'.map f ++ L) h) => (show HS (HS (N'.map f) :: L) h from HSclose y)) hh
where
  HSclose {A L : List HP} {h : PH} (y : HS (A ++ L) h) : HS (HS A :: L) h := by
    induction A generalizing h with
    | nil => exact ⟨fun _ => none, h, fun n => .inl rfl, sub.none h, sub.refl h, trivial, y⟩
    | cons a A ih =>
      obtain ⟨u, v, d, su, sv, ha, hr⟩ := y
      obtain ⟨u2, v2, d2, su2, sv2, h2, h3⟩ := ih hr
      refine ⟨un u u2, v2, ?_, un_sub su (su2.trans sv), sv2.trans sv, ?_, h3⟩
      · exact un_disj (d.sub sv2) d2
      · exact ⟨u, u2, d.sub su2, un_l _ _, un_r (d.sub su2), ha, h2⟩
theorem E.push (p : N.Perm (x :: N')) (h : E (HS (N.map f) :: L) G) : E (f x :: HS (N'.map f) :: L) G := fun w hw => by
  have h1 : Holds w ((f x :: N'.map f) ++ L) := HS.cong (fun _ hh => hsopen hh) hw
  have h2 : Holds w (HS ((x :: N').map f) :: L) := Holds.close h1
  exact h w (HS.hd (fun _ => HS.perm (p.map f).symm) h2)
where
  hsopen {A L : List HP} {h : PH} (y : HS (HS A :: L) h) : HS (A ++ L) h := by
    induction A generalizing h with
    | nil => exact y.tl
    | cons a A ih =>
      obtain ⟨u, v, d, su, sv, ⟨u1, u2, d1, s1, s2, h1, h2⟩, hr⟩ := y
      have d2 : disj u2 v := d.subl s2
      refine ⟨u1, un u2 v, ?_, s1.trans su, un_sub (s2.trans su) sv, h1, ih ⟨u2, v, d2, un_l _ _, un_r d2, h2, hr⟩⟩
      exact (un_disj d1.symm ((d.subl s1).symm)).symm
theorem E.nil0 (h : E (HS [] :: L) G) : E L G := fun w hw => h w ⟨fun _ => none, hp w, fun _ => .inl rfl, sub.none _, sub.refl _, trivial, hw⟩
end
section
variable {κ ε : Enc} [DecidableEq κ.α]
def dlk : Ents κ ε → κ.α → Ents κ ε
  | [], _ => []
  | x :: r, k => if x.1 = k then r else x :: dlk r k
theorem findNow_dk {d : TypeDesc} (hd : kdOk d κ) (k : κ.α) : ∀ (es : Ents κ ε) (i : Nat),
    (Instr.findNow d (κ.enc k) (es.map (men κ ε)) i = some none ∧ dlk es k = es) ∨
    ∃ j x, j < es.length ∧ Instr.findNow d (κ.enc k) (es.map (men κ ε)) i = some (some (i + j, x)) ∧ dlk es k = es.eraseIdx j
  | [], i => .inl ⟨rfl, rfl⟩
  | x :: r, i => by
    obtain ⟨q, hq, hi⟩ := sameNow_of_keys (hd.1 k) (hd.1 x.1)
    by_cases h : x.1 = k
    · right
      have : q = true := hi.2 (by rw [h])
      subst this
      exact ⟨0, ε.enc x.2.1, by simp, by simp [Instr.findNow, men, hq], by simp [dlk, h]⟩
    · have : q = false := by
        cases q with
        | false => rfl
        | true => exact absurd (hd.2 _ _ (hi.1 rfl)).symm h
      subst this
      rcases findNow_dk hd k r (i + 1) with ⟨h1, h2⟩ | ⟨j, y, h1, h2, h3⟩
      · left
        refine ⟨?_, by simp [dlk, h, h2]⟩
        simp only [List.map_cons, Instr.findNow, men, hq]
        exact h1
      · right
        refine ⟨j + 1, y, by simp; omega, ?_, by simp [dlk, h, h3]⟩
        simp only [List.map_cons, Instr.findNow, men, hq]
        refine h2.trans ?_
        rw [show i + 1 + j = i + (j + 1) by omega]
omit [DecidableEq κ.α] in
theorem map_erase {α β : Type} (f : α → β) : ∀ (l : List α) (j : Nat), (l.map f).eraseIdx j = (l.eraseIdx j).map f
  | [], _ => rfl
  | _ :: _, 0 => rfl
  | x :: r, j + 1 => by simp [map_erase f r j]
theorem dk_mem {es : Ents κ ε} {k : κ.α} {x : κ.α × ε.α × Nat} (h : x ∈ dlk es k) : x ∈ es := by
  induction es with
  | nil => cases h
  | cons y r ih =>
    unfold dlk at h
    split at h
    · exact List.mem_cons_of_mem _ h
    · rcases List.mem_cons.1 h with h | h
      · exact h ▸ List.mem_cons_self
      · exact List.mem_cons_of_mem _ (ih h)
theorem dk_sub (es : Ents κ ε) (k : κ.α) : (dlk es k).Sublist es := by
  induction es with
  | nil => exact .slnil
  | cons y r ih =>
    unfold dlk
    split
    · exact .cons _ (List.Sublist.refl _)
    · exact .cons_cons _ ih
end
def vEq1 : Value → Value → Bool
  | .string a, .string b => a.data.toList == b.data.toList
  | .int k a, .int j b => decide (k = j) && a == b
  | .bool a, .bool b => a == b
  | .map none, .map none => true
  | .pointer none, .pointer none => true
  | _, _ => false
theorem vEq1_eq {a b : Value} (h : vEq1 a b = true) : a = b := by
  unfold vEq1 at h
  split at h
  · rename_i a b
    have h4 : a.data.toList = b.data.toList := by simpa using h
    obtain ⟨⟨a⟩⟩ := a
    obtain ⟨⟨b⟩⟩ := b
    simp at h4
    rw [h4]
  · simp only [Bool.and_eq_true, decide_eq_true_eq, beq_iff_eq] at h
    rw [h.1, h.2]
  · rw [show _ = _ from beq_iff_eq.1 h]
  · rfl
  · rfl
  · cases h
def vEqL : List Value → List Value → Bool
  | [], [] => true
  | a :: r, b :: s => vEq1 a b && vEqL r s
  | _, _ => false
theorem vEqL_eq : ∀ {a b : List Value}, vEqL a b = true → a = b
  | [], [], _ => rfl
  | a :: r, b :: s, h => by
    simp only [vEqL, Bool.and_eq_true] at h
    rw [vEq1_eq h.1, vEqL_eq h.2]
  | [], _ :: _, h => by cases h
  | _ :: _, [], h => by cases h
def vEq (a b : Value) : Bool := match a, b with
  | .agg x, .agg y => vEqL x.toList y.toList
  | _, _ => vEq1 a b
theorem vEq_eq {a b : Value} (h : vEq a b = true) : a = b := by
  unfold vEq at h
  split at h
  · rw [show _ = _ from Array.toList_inj.1 (vEqL_eq h)]
  · exact vEq1_eq h
def mpK (P : Program) (tt : TypeId) (z : Value) (s : Bool) : Bool := match P.underlying tt with
  | some (.map kt et) => (match P.underlying kt, s with
    | some (.int .i64), false => true
    | some .string, true => true
    | _, _ => false) && (match P.info? et with
    | some i => (match i.zero with
      | some y => vEq y z
      | none => false)
    | none => false)
  | _ => false
theorem mpK_spec {P : Program} {tt : TypeId} {z : Value} {s : Bool} (h : mpK P tt z s = true) : ∃ kt et i, P.underlying tt = some (.map kt et) ∧ P.underlying kt = some (if s then .string else .int .i64) ∧ P.info? et = some i ∧ i.zero = some z := by
  unfold mpK at h
  split at h
  case h_2 => cases h
  rename_i kt et h1
  simp only [Bool.and_eq_true] at h
  obtain ⟨h2, h3⟩ := h
  split at h3
  case h_2 => cases h3
  rename_i i hi
  refine ⟨kt, et, i, h1, ?_, hi, ?_⟩
  · split at h2
    · rename_i hk; exact hk
    · rename_i hk; exact hk
    · cases h2
  · split at h3
    · rename_i y hz
      rw [hz, vEq_eq h3]
    · cases h3
section
variable {κ ε : Enc} [DecidableEq κ.α] {P : Program} {L L' R : List HP} {tt kt et : TypeId} {d : TypeDesc} {m c : Nat} {es : Ents κ ε}
theorem run_mu {w : World} (ht : P.underlying tt = some (.map kt et)) (hd : P.underlying kt = some d) (hk : kdOk d κ) (hs : ∀ a w, (Instr.keyThatStays (κ.enc a) (κ.enc a)).run P w = .ok (κ.enc a) w) {i : κ.α} {v : ε.α} {k : W} (hw : Holds w (mp κ ε m es c :: L')) (hE : E (mp κ ε m (pk es i v c) (ck es i c) :: L') k) :
    unt P (oMapUpdate tt (.map (some m)) (κ.enc i) (ε.enc v)) k w := by
  have hb := mp_get hw
  have hkey : IsKey d (κ.enc i) := hk.1 i
  unfold unt oMapUpdate Instr.mapUpdate
  rcases findNow_gk hk i es 0 with ⟨g1, g2, g3⟩ | ⟨j, x, g1, g2, g3, g4, g5⟩
  · refine ⟨{ w with heap := w.heap.setIfInBounds m (.map ⟨(pk es i v c).map (men κ ε)⟩ (ck es i c)) }, ?_, hE _ (Holds.set hw _ rfl)⟩
    simp only [run_underlying ht, Sem.run_bind, Result.andThen, MapKept.run_getObj_map hb, run_checkKey hd hkey, run_findKey hd g2, MapKept.run_setObj_map _ hb]
    simp [g3, ck, g1, men]
  · refine ⟨{ w with heap := w.heap.setIfInBounds m (.map ⟨(pk es i v c).map (men κ ε)⟩ (ck es i c)) }, ?_, hE _ (Holds.set hw _ rfl)⟩
    have hg : (((⟨es.map (men κ ε)⟩ : Array MapEntry)[0 + j]?).map (·.key)).getD (κ.enc i) = κ.enc i := by
      simp [g2, men, g3]
    simp only [run_underlying ht, Sem.run_bind, Result.andThen, MapKept.run_getObj_map hb, run_checkKey hd hkey, run_findKey hd g4, hg, hs, MapKept.run_setObj_map _ hb]
    have := ents_modify es j x g2 i v
    simp only [Nat.zero_add]
    rw [this, g5]
    simp [ck, g1]
theorem run_dk {w : World} (ht : P.underlying tt = some (.map kt et)) (hd : P.underlying kt = some d) (hk : kdOk d κ) {i : κ.α} {t2 ty : TypeId} {k : Unit → W} (hw : Holds w (mp κ ε m es c :: L')) (hE : E (mp κ ε m (dlk es i) c :: L') (k ())) :
    val eN P (oB_delete #[tt, t2] ty #[.map (some m), κ.enc i]) k w := by
  have hb := mp_get hw
  have hkey : IsKey d (κ.enc i) := hk.1 i
  refine ⟨(), { w with heap := w.heap.setIfInBounds m (.map ⟨(dlk es i).map (men κ ε)⟩ c) }, ?_, hE _ (Holds.set hw _ rfl)⟩
  unfold oB_delete Builtin.delete_
  rcases findNow_dk hk i es 0 with ⟨g1, g2⟩ | ⟨j, x, g0, g1, g2⟩
  · have hf := run_findKey (P := P) (w := w) hd g1
    simp [run_underlying ht, Result.andThen, MapKept.run_getObj_map hb, run_checkKey hd hkey, hf, MapKept.run_setObj_map _ hb, g2]
  · have hf := run_findKey (P := P) (w := w) hd g1
    have he : (⟨es.map (men κ ε)⟩ : Array MapEntry).eraseIdxIfInBounds j = ⟨(dlk es i).map (men κ ε)⟩ := by
      rw [g2]
      have := map_erase (men κ ε) es j
      simp [Array.eraseIdxIfInBounds, g0, this]
    simp only [Nat.zero_add] at hf
    simp only [Sem.run_bind, run_underlying ht, Result.andThen, MapKept.run_getObj_map hb, run_checkKey hd hkey, hf, he, MapKept.run_setObj_map _ hb, List.getElem?_toArray, List.getElem?_cons_zero, List.getElem?_cons_succ]
    rfl
end
section
variable {ε : Enc} {P : Program} {L L' R : List HP} {tt : TypeId} {m c : Nat}
theorem i_lk2s {es : Ents eS ε} {i : List UInt8} {k : ε.α × Bool → W} (z : ε.α) [ha : M1 L eS ε m es c L'] (h : mpK P tt (ε.enc z) true = true) (hk : E L (k ((gk es i).getD z, (gk es i).isSome))) :
    E L (val (eT2 ε eB) P (oLookup tt (.map (some m)) (str i) true) k) := fun w hw => by
  obtain ⟨_, _, _, h1, h2, h3, h4⟩ := mpK_spec h
  exact ⟨((gk es i).getD z, (gk es i).isSome), w, run_lk (κ := eS) h1 h2 kd_s h3 h4 (mp_get (ha.p.hs hw)) i true, hk w hw⟩
theorem i_lk1i {es : Ents eI ε} {i : Int} {k : ε.α → W} (z : ε.α) [ha : M1 L eI ε m es c L'] (h : mpK P tt (ε.enc z) false = true) (hk : E L (k ((gk es i).getD z))) :
    E L (val ε P (oLookup tt (.map (some m)) (.int .i64 i) false) k) := fun w hw => by
  obtain ⟨_, _, _, h1, h2, h3, h4⟩ := mpK_spec h
  exact ⟨_, w, run_lk (κ := eI) h1 h2 kd_i h3 h4 (mp_get (ha.p.hs hw)) i false, hk w hw⟩
theorem i_lk1iq {es : Ents eI ε} {i : Int} {k : ε.α → W} (z : ε.α) [ha : M1 R eI ε m es c L'] (h : mpK P tt (ε.enc z) false = true) (hk : E L (k ((gk es i).getD z))) :
    E L (valq (HW R) ε P (oLookup tt (.map (some m)) (.int .i64 i) false) k) := fun w hw => by
  obtain ⟨_, _, _, h1, h2, h3, h4⟩ := mpK_spec h
  exact ⟨_, fun w' hw' => run_lk (κ := eI) h1 h2 kd_i h3 h4 (mp_get (ha.p.hs hw')) i false, hk w hw⟩
theorem stays_str (s : List UInt8) {P : Program} (w : World) : (Instr.keyThatStays (str s) (str s)).run P w = .ok (str s) w := run_keyThatStays (d := .string) trivial
theorem stays_int (s : Int) {P : Program} (w : World) : (Instr.keyThatStays (.int .i64 s) (.int .i64 s)).run P w = .ok (.int .i64 s) w := run_keyThatStays (d := .int .i64) rfl
theorem i_mus {es : Ents eS ε} {i : List UInt8} {x : Value} {k : W} (z : ε.α) (v : ε.α) [ha : M1 L eS ε m es c L'] (hx : x = ε.enc v) (h : mpK P tt (ε.enc z) true = true) (hk : E (mp eS ε m (pk es i v c) (ck es i c) :: L') k) :
    E L (unt P (oMapUpdate tt (.map (some m)) (str i) x) k) := fun w hw => by
  subst hx
  obtain ⟨_, _, _, h1, h2, h3, h4⟩ := mpK_spec h
  exact run_mu (κ := eS) h1 h2 kd_s (fun a w => stays_str a w) (ha.p.hs hw) hk
theorem i_mui {es : Ents eI ε} {i : Int} {x : Value} {k : W} (z : ε.α) (v : ε.α) [ha : M1 L eI ε m es c L'] (hx : x = ε.enc v) (h : mpK P tt (ε.enc z) false = true) (hk : E (mp eI ε m (pk es i v c) (ck es i c) :: L') k) :
    E L (unt P (oMapUpdate tt (.map (some m)) (.int .i64 i) x) k) := fun w hw => by
  subst hx
  obtain ⟨_, _, _, h1, h2, h3, h4⟩ := mpK_spec h
  exact run_mu (κ := eI) h1 h2 kd_i (fun a w => stays_int a w) (ha.p.hs hw) hk
theorem i_dki {es : Ents eI ε} {i : Int} {t2 ty : TypeId} {k : Unit → W} (z : ε.α) [ha : M1 L eI ε m es c L'] (h : mpK P tt (ε.enc z) false = true) (hk : E (mp eI ε m (dlk es i) c :: L') (k ())) :
    E L (val eN P (oB_delete #[tt, t2] ty #[.map (some m), .int .i64 i]) k) := fun w hw => by
  obtain ⟨_, _, _, h1, h2, h3, h4⟩ := mpK_spec h
  exact run_dk (κ := eI) h1 h2 kd_i (ha.p.hs hw) hk
end
end Go.Sp
namespace Go.Sp
open Go Go.MapKept
section
variable {ε : Enc} {P : Program} {L L' R : List HP} {tt : TypeId} {m c : Nat}
theorem i_mei {es : Ents eI ε} {i : Int} {k : ε.α × Int → W} (z : ε.α) [ha : M1 L eI ε m es c L'] (h : mpK P tt (ε.enc z) false = true) (hn : gk es i = none) (hk : E (mp eI ε m (es ++ [(i, z, c)]) (c + 1) :: L') (k (z, (c : Int)))) :
    E L (val (eT2 ε eI) P (oMapEntry tt (.map (some m)) (.int .i64 i)) k) := fun w hw => by
  obtain ⟨kt, et, j, h1, h2, h3, h4⟩ := mpK_spec h
  have hw' := ha.p.hs hw
  have hb := mp_get hw'
  have hkey : IsKey (.int .i64) (.int .i64 i) := rfl
  have hz' : ∀ w, (zeroValue et).run P w = .ok (ε.enc z) w := fun w => by simp [zeroValue, typeInfo, h3, h4]
  rcases findNow_gk (κ := eI) kd_i i es 0 with ⟨g1, g2, g3⟩ | ⟨j, x, g1, _⟩
  · refine ⟨(z, (c : Int)), { w with heap := w.heap.setIfInBounds m (.map ⟨(es ++ [(i, z, c)]).map (men eI ε)⟩ (c + 1)) }, ?_, hk _ (Holds.set hw' _ rfl)⟩
    unfold oMapEntry Instr.mapEntry
    simp only [run_underlying h1, Sem.run_bind, Result.andThen, MapKept.run_getObj_map hb, run_checkKey h2 hkey, run_findKey h2 g2, hz', MapKept.run_setObj_map _ hb]
    simp [men, goInt]
  · rw [g1] at hn; cases hn
theorem i_esi {es : Ents eI ε} {i : Int} {z : ε.α} {x : Value} {k : W} (v : ε.α) [ha : M1 L eI ε m (es ++ [(i, z, c)]) (c + 1) L'] (hx : x = ε.enc v) (hb' : ∀ y ∈ es, y.2.2 < c) (hk : E (mp eI ε m (es ++ [(i, v, c)]) (c + 1) :: L') k) :
    E L (unt P (oEntryStore tt (.map (some m)) (.int .i64 (c : Int)) x) k) := fun w hw => by
  subst hx
  have hw' := ha.p.hs hw
  have hb := mp_get hw'
  refine ⟨{ w with heap := w.heap.setIfInBounds m (.map ⟨(es ++ [(i, v, c)]).map (men eI ε)⟩ (c + 1)) }, ?_, hk _ (Holds.set hw' _ rfl)⟩
  have hf : (⟨(es ++ [(i, z, c)]).map (men eI ε)⟩ : Array MapEntry).findIdx? (fun e => (e.born : Int) == (c : Int)) = some es.length := by
    show (((es ++ [(i, z, c)]).map (men eI ε)).toArray).findIdx? _ = _
    rw [List.findIdx?_toArray]
    simp only [List.map_append, List.findIdx?_append]
    have h0 : List.findIdx? (fun e : MapEntry => (e.born : Int) == (c : Int)) (es.map (men eI ε)) = none := by
      rw [List.findIdx?_eq_none_iff]
      intro e he
      obtain ⟨y, hy, rfl⟩ := List.mem_map.1 he
      have := hb' y hy
      simp only [men, beq_eq_false_iff_ne]
      omega
    rw [h0]
    simp [men]
  have hm : ((⟨(es ++ [(i, z, c)]).map (men eI ε)⟩ : Array MapEntry).modify es.length fun e => { e with val := ε.enc v }) = ⟨(es ++ [(i, v, c)]).map (men eI ε)⟩ := by
    have hj : (es ++ [(i, z, c)])[es.length]? = some (i, z, c) := by simp
    have := ents_modify (es ++ [(i, z, c)]) es.length (i, z, c) hj i v
    have e2 : (es ++ [(i, z, c)]).set es.length (i, v, c) = es ++ [(i, v, c)] := by rw [List.set_append_right _ _ (Nat.le_refl _)]; simp
    rw [e2] at this
    rw [← this]
    apply Array.ext_getElem?
    intro q
    simp only [Array.getElem?_modify]
    by_cases hq : es.length = q
    · subst hq
      simp [men]
    · simp [hq]
  generalize (⟨(es ++ [(i, z, c)]).map (men eI ε)⟩ : Array MapEntry) = A at *
  generalize (⟨(es ++ [(i, v, c)]).map (men eI ε)⟩ : Array MapEntry) = B at *
  unfold oEntryStore Instr.entryStore
  simp only [Sem.run_bind, Result.andThen, MapKept.run_getObj_map hb]
  simp [asInt, asIntOf, hf, hm, MapKept.run_setObj_map _ hb, Result.andThen]
end
end Go.Sp
namespace Go.Sp
open Go
set_option linter.unusedSimpArgs false
section
variable {κ ε : Enc} [DecidableEq κ.α]
def EOk (es : Ents κ ε) (c : Nat) : Prop := (es.map (·.1)).Nodup ∧ (es.map (·.2.2)).Nodup ∧ ∀ x ∈ es, x.2.2 < c
omit [DecidableEq κ.α] in
theorem EOk.nil (c : Nat) : EOk ([] : Ents κ ε) c := ⟨List.nodup_nil, List.nodup_nil, fun _ h => by cases h⟩
theorem gknone {es : Ents κ ε} {k : κ.α} : gk es k = none ↔ ∀ x ∈ es, x.1 ≠ k := by
  induction es with
  | nil => simp [gk]
  | cons x r ih =>
    unfold gk
    by_cases h : x.1 = k
    · simp [h]
    · simp [h, ih]
theorem gksome {es : Ents κ ε} {k : κ.α} {v : ε.α} (h : gk es k = some v) : ∃ b, (k, v, b) ∈ es := by
  induction es with
  | nil => cases h
  | cons x r ih =>
    obtain ⟨a, y, b⟩ := x
    unfold gk at h
    by_cases hx : a = k
    · simp only [hx, if_pos, Option.some.injEq] at h
      subst hx h
      exact ⟨b, List.mem_cons_self⟩
    · simp only [hx, if_neg, if_false] at h
      obtain ⟨b', hb⟩ := ih h
      exact ⟨b', List.mem_cons_of_mem _ hb⟩
theorem pk_new {es : Ents κ ε} {k : κ.α} (h : gk es k = none) (v : ε.α) (c : Nat) : pk es k v c = es ++ [(k, v, c)] := by
  induction es with
  | nil => rfl
  | cons x r ih =>
    unfold gk at h
    by_cases hx : x.1 = k
    · simp [hx] at h
    · simp only [hx, if_false] at h
      simp [pk, hx, ih h]
theorem gkpk (es : Ents κ ε) (k j : κ.α) (v : ε.α) (c : Nat) : gk (pk es k v c) j = if k = j then some v else gk es j := by
  induction es with
  | nil => simp [pk, gk]
  | cons x r ih =>
    unfold pk
    by_cases hx : x.1 = k
    · by_cases hj : k = j
      · simp [hx, gk, hj]
      · have : ¬ x.1 = j := fun e => hj (hx.symm.trans e)
        simp [hx, gk, hj, this]
    · by_cases hj : x.1 = j
      · have : ¬ k = j := fun e => hx (hj.trans e.symm)
        have h2 : ¬ j = k := fun e => this e.symm
        simp [hx, gk, hj, this, h2]
      · simp [hx, gk, hj, ih]
theorem pkkeys (es : Ents κ ε) (k : κ.α) (v : ε.α) (c : Nat) : (pk es k v c).map (·.1) = if gk es k = none then es.map (·.1) ++ [k] else es.map (·.1) := by
  induction es with
  | nil => simp [pk, gk]
  | cons x r ih =>
    unfold pk gk
    by_cases hx : x.1 = k
    · simp [hx]
    · simp only [hx, if_false, List.map_cons, ih]
      split <;> simp
theorem pk_borns (es : Ents κ ε) (k : κ.α) (v : ε.α) (c : Nat) : (pk es k v c).map (·.2.2) = if gk es k = none then es.map (·.2.2) ++ [c] else es.map (·.2.2) := by
  induction es with
  | nil => simp [pk, gk]
  | cons x r ih =>
    unfold pk gk
    by_cases hx : x.1 = k
    · simp [hx]
    · simp only [hx, if_false, List.map_cons, ih]
      split <;> simp
theorem pk_len (es : Ents κ ε) (k : κ.α) (v : ε.α) (c : Nat) : (pk es k v c).length ≤ es.length + 1 := by
  have := congrArg List.length (pkkeys es k v c)
  simp only [List.length_map] at this
  rw [this]
  split <;> simp
theorem EOk.pk {es : Ents κ ε} {c : Nat} (h : EOk es c) (k : κ.α) (v : ε.α) : EOk (pk es k v c) (ck es k c) := by
  obtain ⟨h1, h2, h3⟩ := h
  have h3' : ∀ n ∈ es.map (·.2.2), n < c := fun n hn => by
    obtain ⟨x, hx, rfl⟩ := List.mem_map.1 hn
    exact h3 x hx
  have h4 : ∀ n ∈ (Sp.pk es k v c).map (·.2.2), n < ck es k c := by
    intro n hn
    rw [pk_borns] at hn
    unfold ck
    split at hn
    · rename_i h0
      rw [if_pos h0]
      rcases List.mem_append.1 hn with h | h
      · have := h3' n h; omega
      · simp at h; omega
    · rename_i h0
      rw [if_neg h0]; exact h3' n hn
  refine ⟨?_, ?_, fun x hx => h4 _ (List.mem_map_of_mem hx)⟩
  · rw [pkkeys]
    split
    · rename_i h0
      rw [List.nodup_append]
      refine ⟨h1, by simp, fun a ha b hb => ?_⟩
      obtain ⟨x, hx, rfl⟩ := List.mem_map.1 ha
      simp at hb
      subst hb
      exact gknone.1 h0 x hx
    · exact h1
  · rw [pk_borns]
    split
    · rw [List.nodup_append]
      refine ⟨h2, by simp, fun a ha b hb => ?_⟩
      have := h3' a ha
      simp at hb
      omega
    · exact h2
theorem EOk.dlk {es : Ents κ ε} {c : Nat} (h : EOk es c) (k : κ.α) : EOk (dlk es k) c :=
  ⟨h.1.sublist ((dk_sub es k).map _), h.2.1.sublist ((dk_sub es k).map _), fun x hx => h.2.2 x (dk_mem hx)⟩
theorem gk_dk {es : Ents κ ε} (hn : (es.map (·.1)).Nodup) (k j : κ.α) : gk (dlk es k) j = if k = j then none else gk es j := by
  induction es with
  | nil => simp [Sp.dlk, gk]
  | cons x r ih =>
    rw [List.map_cons, List.nodup_cons] at hn
    unfold Sp.dlk
    by_cases hx : x.1 = k
    · simp only [hx, if_true]
      by_cases hj : k = j
      · subst hj
        simp only [if_true]
        refine gknone.2 fun y hy e => hn.1 ?_
        rw [hx, ← e]
        exact List.mem_map_of_mem hy
      · simp [gk, hx, hj]
    · simp only [hx, if_false]
      by_cases hj : x.1 = j
      · have : ¬ k = j := fun e => hx (hj.trans e.symm)
        have h2 : ¬ j = k := fun e => this e.symm
        simp [gk, hj, this, h2]
      · simp [gk, hj, ih hn.2]
end
abbrev eWs := e_past_Was
structure Gn where
  id : Int
  born : Nat
  b : Nat
  ks : Ents eS eWs
  c : Nat
abbrev gm (g : Gn) : HP := mp eS eWs g.b g.ks g.c
def oe (M : List Gn) : Ents eI eM := M.map fun g => (g.id, some g.b, g.born)
structure Ps where
  mb : Nat
  ml : Nat
  M : List Gn
  cb : Nat
  es : Ents eI eI
  cl : Nat
abbrev ppt (tp : TypeId) (p : Nat) (s : Ps) : List HP := [ar p tp [.map (some s.mb), .map (some s.ml)], mp eI eM s.mb (oe s.M) s.cb, mp eI eI s.ml s.es s.cl, HS (s.M.map gm)]
def fg : List Gn → Int → Option Gn
  | [], _ => none
  | g :: r, i => if g.id = i then some g else fg r i
def dg : List Gn → Int → List Gn
  | [], _ => []
  | g :: r, i => if g.id = i then r else g :: dg r i
def ug (k : List UInt8) (w : past_Was) (g : Gn) : Gn := { g with ks := pk g.ks k w g.c, c := ck g.ks k g.c }
def up : List Gn → Int → List UInt8 → past_Was → List Gn
  | [], _, _, _ => []
  | g :: r, i, k, w => if g.id = i then ug k w g :: r else g :: up r i k w
theorem gk_oe (M : List Gn) (i : Int) : gk (oe M) i = (fg M i).map fun g => some g.b := by
  induction M with
  | nil => rfl
  | cons g r ih =>
    show (if g.id = i then some (some g.b) else gk (oe r) i) = _
    unfold fg
    split
    · rfl
    · exact ih
theorem fg_mem {M : List Gn} {i : Int} {g : Gn} (h : fg M i = some g) : g ∈ M ∧ g.id = i := by
  induction M with
  | nil => cases h
  | cons x r ih =>
    unfold fg at h
    split at h
    · rename_i hx
      cases h
      exact ⟨List.mem_cons_self, hx⟩
    · exact ⟨List.mem_cons_of_mem _ (ih h).1, (ih h).2⟩
theorem fg_none {M : List Gn} {i : Int} : fg M i = none ↔ ∀ g ∈ M, g.id ≠ i := by
  induction M with
  | nil => simp [fg]
  | cons x r ih =>
    unfold fg
    by_cases h : x.id = i
    · simp [h]
    · simp [h, ih]
theorem fg_of {M : List Gn} (hn : (M.map (·.id)).Nodup) {g : Gn} (h : g ∈ M) : fg M g.id = some g := by
  induction M with
  | nil => cases h
  | cons x r ih =>
    rw [List.map_cons, List.nodup_cons] at hn
    unfold fg
    rcases List.mem_cons.1 h with rfl | h
    · simp
    · have : x.id ≠ g.id := fun e => hn.1 (e ▸ List.mem_map_of_mem h)
      simp only [this, if_false]
      exact ih hn.2 h
theorem oe_dg (M : List Gn) (i : Int) : oe (dg M i) = dlk (oe M) i := by
  induction M with
  | nil => rfl
  | cons g r ih =>
    show _ = (if g.id = i then oe r else (g.id, some g.b, g.born) :: dlk (oe r) i)
    unfold dg
    split
    · rfl
    · rw [← ih]; rfl
theorem oe_up (M : List Gn) (i : Int) (k : List UInt8) (w : past_Was) : oe (up M i k w) = oe M := by
  induction M with
  | nil => rfl
  | cons g r ih =>
    unfold up
    split
    · rfl
    · show (g.id, some g.b, g.born) :: oe (up r i k w) = _
      rw [ih]; rfl
theorem up_perm {M : List Gn} {i : Int} {g : Gn} (h : fg M i = some g) : ∃ M', M.Perm (g :: M') ∧ ∀ k w, (up M i k w).Perm (ug k w g :: M') := by
  induction M with
  | nil => cases h
  | cons x r ih =>
    unfold fg at h
    split at h
    · rename_i hx
      cases h
      exact ⟨r, List.Perm.refl _, fun k w => by simp [up, hx]⟩
    · rename_i hx
      obtain ⟨M', h1, h2⟩ := ih h
      refine ⟨x :: M', (h1.cons x).trans (List.Perm.swap _ _ _), fun k w => ?_⟩
      simp only [up, hx, if_false]
      exact ((h2 k w).cons x).trans (List.Perm.swap _ _ _)
theorem dg_sub (M : List Gn) (i : Int) : (dg M i).Sublist M := by
  induction M with
  | nil => exact .slnil
  | cons y r ih =>
    unfold dg
    split
    · exact .cons _ (List.Sublist.refl _)
    · exact .cons_cons _ ih
def wasR (r : api_Rec) : Option past_Was := if r.Kind = 3 then some ⟨[], false⟩ else if r.Kind = 4 ∨ r.Kind = 5 then some ⟨r.Old, true⟩ else none
def nt (s : Ps) (r : api_Rec) (lsn : Int) (b : Nat) : Ps :=
  if r.Txn = 0 then s
  else if r.Kind = 7 ∨ r.Kind = 8 then { s with M := dg s.M r.Txn, es := dlk s.es r.Txn }
  else match wasR r with
    | none => { s with es := pk s.es r.Txn lsn s.cl, cl := ck s.es r.Txn s.cl }
    | some w => match fg s.M r.Txn with
      | some g => if gk g.ks r.Key = none then { s with es := pk s.es r.Txn lsn s.cl, cl := ck s.es r.Txn s.cl, M := up s.M r.Txn r.Key w } else { s with es := pk s.es r.Txn lsn s.cl, cl := ck s.es r.Txn s.cl }
      | none => { s with es := pk s.es r.Txn lsn s.cl, cl := ck s.es r.Txn s.cl, M := s.M ++ [⟨r.Txn, s.cb, b, [(r.Key, w, 0)], 1⟩], cb := s.cb + 1 }
structure Ps.ok (s : Ps) (n : Nat) : Prop where
  o : EOk (oe s.M) s.cb
  l : EOk s.es s.cl
  g : ∀ g ∈ s.M, EOk g.ks g.c
  wo : ∀ g ∈ s.M, wf64 g.id
  wl : ∀ x ∈ s.es, wf64 x.1
  no : s.M.length ≤ n
  nl : s.es.length ≤ n
  nk : (s.M.map (·.ks.length)).sum ≤ n
  wk : ∀ g ∈ s.M, ∀ x ∈ g.ks, x.1.length ≤ maxLen
theorem Ps.ok.mono {s : Ps} {n m : Nat} (h : s.ok n) (hm : n ≤ m) : s.ok m := ⟨h.o, h.l, h.g, h.wo, h.wl, Nat.le_trans h.no hm, Nat.le_trans h.nl hm, Nat.le_trans h.nk hm, h.wk⟩
theorem sub_sum {α : Type} (f : α → Nat) {A B : List α} (h : A.Sublist B) : (A.map f).sum ≤ (B.map f).sum := by
  induction h with
  | slnil => exact Nat.le_refl _
  | cons x _ ih => simp; omega
  | cons_cons x _ ih => simp; omega
theorem pkmem {κ ε : Enc} [DecidableEq κ.α] {es : Ents κ ε} {k : κ.α} {v : ε.α} {c : Nat} {x : κ.α × ε.α × Nat} (h : x ∈ pk es k v c) : x.1 = k ∨ ∃ y ∈ es, y.1 = x.1 := by
  have h1 : x.1 ∈ (pk es k v c).map (·.1) := List.mem_map_of_mem h
  rw [pkkeys] at h1
  have h2 : x.1 ∈ es.map (·.1) ∨ x.1 = k := by
    split at h1
    · rcases List.mem_append.1 h1 with h | h
      · exact .inl h
      · exact .inr (by simpa using h)
    · exact .inl h1
  rcases h2 with h2 | h2
  · obtain ⟨y, hy, e⟩ := List.mem_map.1 h2
    exact .inr ⟨y, hy, e⟩
  · exact .inl h2
theorem nt_ok {s : Ps} {n : Nat} (h : s.ok n) {r : api_Rec} (hw : wf64 r.Txn) (hk : r.Key.length ≤ maxLen) (lsn : Int) (b : Nat) : (nt s r lsn b).ok (n + 1) := by
  obtain ⟨ho, hl, hg, hwo, hwl, hno, hnl, hnk, hwk⟩ := h
  have e1 : EOk (pk s.es r.Txn lsn s.cl) (ck s.es r.Txn s.cl) := hl.pk _ _
  have e2 : ∀ x ∈ pk s.es r.Txn lsn s.cl, wf64 x.1 := fun x hx => by
    rcases pkmem hx with e | ⟨y, hy, e⟩
    · rw [e]; exact hw
    · rw [← e]; exact hwl y hy
  have e3 : (pk s.es r.Txn lsn s.cl).length ≤ n + 1 := Nat.le_trans (pk_len _ _ _ _) (by omega)
  unfold nt
  split
  · exact ⟨ho, hl, hg, hwo, hwl, by omega, by omega, by omega, hwk⟩
  split
  · refine ⟨?_, hl.dlk _, fun g hx => hg g ((dg_sub _ _).subset hx), fun g hx => hwo g ((dg_sub _ _).subset hx), fun x hx => hwl x (dk_mem (κ := eI) hx), ?_, ?_, ?_, fun g hx => hwk g ((dg_sub _ _).subset hx)⟩
    · show EOk (oe (dg s.M r.Txn)) s.cb
      rw [oe_dg]; exact ho.dlk _
    · exact Nat.le_trans (dg_sub _ _).length_le (by omega)
    · exact Nat.le_trans (dk_sub (κ := eI) (ε := eI) s.es r.Txn).length_le (by omega)
    · exact Nat.le_trans (sub_sum _ (dg_sub _ _)) (by omega)
  split
  · exact ⟨ho, e1, hg, hwo, e2, by show s.M.length ≤ _; omega, e3, by show (s.M.map _).sum ≤ _; omega, hwk⟩
  rename_i w _
  split
  · rename_i g hf
    split
    · obtain ⟨M', hp1, hp2⟩ := up_perm hf
      have hp2 := hp2 r.Key w
      have hgM := (fg_mem hf).1
      have hmem : ∀ x ∈ up s.M r.Txn r.Key w, x = ug r.Key w g ∨ x ∈ s.M := fun x hx => by
        rcases List.mem_cons.1 (hp2.mem_iff.1 hx) with e | e
        · exact .inl e
        · exact .inr (hp1.mem_iff.2 (List.mem_cons_of_mem _ e))
      refine ⟨?_, e1, ?_, ?_, e2, ?_, e3, ?_, ?_⟩
      · show EOk (oe (up s.M r.Txn r.Key w)) s.cb
        rw [oe_up]; exact ho
      · intro x hx
        rcases hmem x hx with rfl | e
        · exact (hg g hgM).pk _ _
        · exact hg x e
      · intro x hx
        rcases hmem x hx with rfl | e
        · exact hwo g hgM
        · exact hwo x e
      · show (up s.M r.Txn r.Key w).length ≤ n + 1
        have := hp2.length_eq
        have := hp1.length_eq
        simp at *
        omega
      · show ((up s.M r.Txn r.Key w).map _).sum ≤ n + 1
        have h1 := (hp2.map (·.ks.length)).sum_nat
        have h2 := (hp1.map (·.ks.length)).sum_nat
        have h3 := pk_len g.ks r.Key w g.c
        simp only [List.map_cons, List.sum_cons, ug] at h1 h2 ⊢
        omega
      · intro x hx y hy
        rcases hmem x hx with rfl | e
        · rcases pkmem hy with e | ⟨z, hz, e⟩
          · rw [e]; exact hk
          · rw [← e]; exact hwk g hgM z hz
        · exact hwk x e y hy
    · exact ⟨ho, e1, hg, hwo, e2, by show s.M.length ≤ _; omega, e3, by show (s.M.map _).sum ≤ _; omega, hwk⟩
  · rename_i hf
    have hn0 : gk (oe s.M) r.Txn = none := by rw [gk_oe, hf]; rfl
    refine ⟨?_, e1, ?_, ?_, e2, ?_, e3, ?_, ?_⟩
    · show EOk (oe (s.M ++ [_])) (s.cb + 1)
      have := ho.pk r.Txn (some b)
      rw [pk_new hn0, show ck (oe s.M) r.Txn s.cb = s.cb + 1 by simp [ck, hn0]] at this
      simpa [oe] using this
    · intro x hx
      rcases List.mem_append.1 hx with e | e
      · exact hg x e
      · simp at e; subst e
        exact ⟨by simp, by simp, by simp⟩
    · intro x hx
      rcases List.mem_append.1 hx with e | e
      · exact hwo x e
      · simp at e; subst e
        exact hw
    · simp; omega
    · simp; omega
    · intro x hx y hy
      rcases List.mem_append.1 hx with e | e
      · exact hwk x e y hy
      · simp at e; subst e
        simp at hy; subst hy
        exact hk
theorem ok0 (mb ml : Nat) : Ps.ok ⟨mb, ml, [], 0, [], 0⟩ 0 := ⟨EOk.nil _, EOk.nil _, fun _ h => (by cases h), fun _ h => (by cases h), fun _ h => (by cases h), Nat.le_refl _, Nat.le_refl _, Nat.le_refl _, fun _ h => (by cases h)⟩
end Go.Sp
namespace Go.Sp
open Go
set_option maxRecDepth 100000
set_option linter.unusedVariables false
open Go.Proofs
variable (K : Env → W) (k : Value → W) {e : Enc} {args : Array Value} {G : e.α → W} {L : List HP} {ρ : Env}
attribute [local instance] cI cB cP cA
noncomputable def c8 := cf Tryz.f8 5 [(0, []), (1, [])] [(0, []), (1, [0]), (1000000, [0])] [] []
@[go_sem] theorem c8_i : c8.li 0 = [] ∧ c8.li 1 = [] := ⟨rfl, rfl⟩
@[go_sem] theorem c8_r0 : RP c8 0 [] K =
 (K []) := by kernel_rfl
@[go_sem] theorem c8_r1 : RP c8 1 [] K =
 (nwb (.map #[] 0) fun y1_ => (nwb (.map #[] 0) fun y2_ => (nwc #[.map ((⟨(some y1_), (some y2_)⟩ : past_Past).f_by), .map ((⟨(some y1_), (some y2_)⟩ : past_Past).last)] 80 fun y3_ => (K [(0, y3_)])))) := by kernel_rfl
@[go_sem] theorem c8_o : c8.lo 1000000 = [0] := rfl
@[go_sem] theorem c8_e (v0 : Option Addr) : RTp c8 [(0, v0)] k = (k (v0)) := by kernel_rfl
theorem c8_ok : (c8.P.follows .mixedOrders && okc c8 c8.body) = true := by kernel_rfl
theorem c8_fn (hρ : envA 0 args.toList = ρ) (hs : Nat.ble args.size 5 = true) (h : E L (D c8 (.seq (.reg 0) (.seq (.reg 1) (.ret))) (fnQ c8 e G) ρ)) : E L (cal e Tryz.prog 8 args G) :=
  d_fn (c := c8) Tryz.func8 (by kernel_rfl) (by kernel_rfl) (by kernel_rfl) c8_ok (by kernel_rfl) (by kernel_rfl) hρ hs h
noncomputable def c34 := cf Tryz.f34 79 [(0, [0, 1, 2]), (1, [0, 2, 4]), (2, [0, 2, 4]), (3, [0, 2, 4, 19]), (4, [0, 2, 4, 19]), (5, [0, 4]), (6, [0, 4]), (7, [0, 2, 4]), (8, [0, 4]), (9, [0, 4, 6, 7]), (10, [0, 4, 6]), (11, [0, 4, 6, 8]), (12, [0, 4, 6]), (13, [0, 4, 6, 8]), (14, [4, 6, 8]), (15, [4, 6, 8, 10]), (16, [4, 6, 8])] [(0, [0, 2, 4]), (1, [0, 2, 4, 17]), (2, [0, 2, 4, 19]), (3, [0, 2, 4, 19, 20]), (4, [0, 2, 4, 20]), (5, [0, 4]), (6, []), (7, [0, 4]), (8, [0, 4, 6, 7]), (9, [0, 4, 6, 48]), (10, [0, 4, 6, 8]), (11, [0, 4, 6, 8, 57]), (12, [0, 4, 6, 8]), (13, [4, 6, 8]), (14, [4, 6, 8, 10]), (15, [4, 6, 8, 74]), (16, []), (1000000, [])] [(5, (true, [(0, 1), (1, 1), (2, 1), (3, 0), (4, 1), (5, 0), (6, 4)])), (6, (true, [(0, 1), (1, 1), (2, 1), (3, 0), (4, 1), (5, 0), (6, 4)])), (7, (true, [(0, 1), (1, 1), (2, 1), (3, 0), (4, 1), (5, 0), (6, 1), (7, 4)])), (10, (true, [(0, 1), (1, 1), (2, 1), (3, 0), (4, 1), (5, 0), (6, 0), (7, 1)])), (13, (true, [(0, 1), (1, 1), (2, 1), (3, 0), (4, 1), (5, 0), (6, 1), (7, 4)]))] []
@[go_sem] theorem c34_i : c34.li 0 = [0, 1, 2] ∧ c34.li 1 = [0, 2, 4] ∧ c34.li 2 = [0, 2, 4] ∧ c34.li 3 = [0, 2, 4, 19] ∧ c34.li 4 = [0, 2, 4, 19] ∧ c34.li 5 = [0, 4] ∧ c34.li 6 = [0, 4] ∧ c34.li 7 = [0, 2, 4] ∧ c34.li 8 = [0, 4] ∧ c34.li 9 = [0, 4, 6, 7] ∧ c34.li 10 = [0, 4, 6] ∧ c34.li 11 = [0, 4, 6, 8] ∧ c34.li 12 = [0, 4, 6] ∧ c34.li 13 = [0, 4, 6, 8] ∧ c34.li 14 = [4, 6, 8] ∧ c34.li 15 = [4, 6, 8, 10] ∧ c34.li 16 = [4, 6, 8] := ⟨rfl, rfl, rfl, rfl, rfl, rfl, rfl, rfl, rfl, rfl, rfl, rfl, rfl, rfl, rfl, rfl, rfl⟩
@[go_sem] theorem c34_r0 (v0 : Option Addr) (v1 : api_Rec) (v2 : Int) : RP c34 0 [(0, v0), (1, v_api_Rec v1), (2, v2)] K =
 (nwc #[v1.Kind, v1.Txn, v1.Prev, v1.Page, v1.Act, str v1.Key, str v1.Old, str v1.New, v1.Next, .slice v1.Images.1 v1.Images.2.1 v1.Images.2.2, .slice v1.Table.1 v1.Table.2.1 v1.Table.2.2, v1.Epoch, v1.Node] 47 fun y1_ => (K [(0, v0), (2, v2), (4, y1_)])) := by kernel_rfl
@[go_sem] theorem c34_r1 (v0 : Option Addr) (v2 : Int) (v4 : Addr) : RP c34 1 [(0, v0), (2, v2), (4, v4)] K =
 (cal eB Tryz.prog 36 #[v0] fun (y1_ : Bool) => (cnd y1_ (K [(0, v0), (2, v2), (4, v4), (17, true)]) (ld eI (v4.add 1) fun (y2_ : Int) => (K [(0, v0), (2, v2), (4, v4), (17, .bool (y2_ == 0))])))) := by kernel_rfl
@[go_sem] theorem c34_r2 (v0 : Option Addr) (v2 : Int) (v4 : Addr) : RP c34 2 [(0, v0), (2, v2), (4, v4)] K =
 (ld eI v4 fun (y1_ : Int) => (K [(0, v0), (2, v2), (4, v4), (19, y1_)])) := by kernel_rfl
@[go_sem] theorem c34_r3 (v0 : Option Addr) (v2 : Int) (v4 : Addr) (v19 : Int) : RP c34 3 [(0, v0), (2, v2), (4, v4), (19, v19)] K =
 (K [(0, v0), (2, v2), (4, v4), (19, v19), (20, .bool (v19 == 7))]) := by kernel_rfl
@[go_sem] theorem c34_r4 (v0 : Option Addr) (v2 : Int) (v4 : Addr) (v19 : Int) : RP c34 4 [(0, v0), (2, v2), (4, v4), (19, v19)] K =
 (K [(0, v0), (2, v2), (4, v4), (20, .bool (v19 == 8))]) := by kernel_rfl
@[go_sem] theorem c34_r5 (v0 : Option Addr) (v4 : Addr) : RP c34 5 [(0, v0), (4, v4)] K =
 (ph fun S0 => (nn v0 fun y1_ => (ldq S0 eM y1_ fun (y2_ : Option Nat) => (ldq S0 eI (v4.add 1) fun (y3_ : Int) => (val eN Tryz.prog (oB_delete #[77, 3] 0 #[.map y2_, y3_]) fun (y4_ : Unit) => (K [(0, v0), (4, v4)])))))) := by kernel_rfl
@[go_sem] theorem c34_r6 (v0 : Option Addr) (v4 : Addr) : RP c34 6 [(0, v0), (4, v4)] K =
 (ph fun S0 => (nn v0 fun y1_ => (ldq S0 eM (y1_.add 1) fun (y2_ : Option Nat) => (ldq S0 eI (v4.add 1) fun (y3_ : Int) => (val eN Tryz.prog (oB_delete #[78, 3] 0 #[.map y2_, y3_]) fun (y4_ : Unit) => (K [])))))) := by kernel_rfl
@[go_sem] theorem c34_r7 (v0 : Option Addr) (v2 : Int) (v4 : Addr) : RP c34 7 [(0, v0), (2, v2), (4, v4)] K =
 (ph fun S0 => (nn v0 fun y1_ => (ldq S0 eM (y1_.add 1) fun (y2_ : Option Nat) => (ldq S0 eI (v4.add 1) fun (y3_ : Int) => (unt Tryz.prog (oMapUpdate 78 (.map y2_) (y3_) (v2)) (K [(0, v0), (4, v4)])))))) := by kernel_rfl
@[go_sem] theorem c34_r8 (v0 : Option Addr) (v4 : Addr) : RP c34 8 [(0, v0), (4, v4)] K =
 (ldn e_api_Rec 13 v4 fun (y1_ : api_Rec) => (cal (eT2 e_past_Was eB) Tryz.prog 35 #[v_api_Rec y1_] fun (y2_ : (past_Was × Bool)) => (nwc #[str ([] : List UInt8), false] 90 fun y3_ => (stl [str y2_.1.Val, .bool y2_.1.Is] y3_ 0 (K [(0, v0), (4, v4), (6, y3_), (7, y2_.2)]))))) := by kernel_rfl
@[go_sem] theorem c34_r9 (v0 : Option Addr) (v4 v6 : Addr) (v7 : Bool) : RP c34 9 [(0, v0), (4, v4), (6, v6), (7, v7)] K =
 (K [(0, v0), (4, v4), (6, v6), (48, .bool (!v7))]) := by kernel_rfl
@[go_sem] theorem c34_r10 (v0 : Option Addr) (v4 v6 : Addr) : RP c34 10 [(0, v0), (4, v4), (6, v6)] K =
 (ph fun S0 => (nn v0 fun y1_ => (ldq S0 eM y1_ fun (y2_ : Option Nat) => (ldq S0 eI (v4.add 1) fun (y3_ : Int) => (valq S0 eM Tryz.prog (oLookup 77 (.map y2_) (y3_) false) fun (y4_ : Option Nat) => (K [(0, v0), (4, v4), (6, v6), (8, .map y4_)])))))) := by kernel_rfl
@[go_sem] theorem c34_r11 (v0 : Option Addr) (v4 v6 : Addr) (v8 : Option Nat) : RP c34 11 [(0, v0), (4, v4), (6, v6), (8, .map v8)] K =
 (K [(0, v0), (4, v4), (6, v6), (8, .map v8), (57, .bool (v8.isNone))]) := by kernel_rfl
@[go_sem] theorem c34_r12 (v0 : Option Addr) (v4 v6 : Addr) : RP c34 12 [(0, v0), (4, v4), (6, v6)] K =
 (nwb (.map #[] 0) fun y1_ => (K [(0, v0), (4, v4), (6, v6), (8, .map (some y1_))])) := by kernel_rfl
@[go_sem] theorem c34_r13 (v0 : Option Addr) (v4 v6 : Addr) (v8 : Option Nat) : RP c34 13 [(0, v0), (4, v4), (6, v6), (8, .map v8)] K =
 (ph fun S0 => (nn v0 fun y1_ => (ldq S0 eM y1_ fun (y2_ : Option Nat) => (ldq S0 eI (v4.add 1) fun (y3_ : Int) => (unt Tryz.prog (oMapUpdate 77 (.map y2_) (y3_) (.map v8)) (K [(4, v4), (6, v6), (8, .map v8)])))))) := by kernel_rfl
@[go_sem] theorem c34_r14 (v4 v6 : Addr) (v8 : Option Nat) : RP c34 14 [(4, v4), (6, v6), (8, .map v8)] K =
 (ld eS (v4.add 5) fun (y1_ : List UInt8) => (val (eT2 e_past_Was eB) Tryz.prog (oLookup 88 (.map v8) (str y1_) true) fun (y2_ : (past_Was × Bool)) => (nwc #[str ([] : List UInt8), false] 90 fun y3_ => (stl [str y2_.1.Val, .bool y2_.1.Is] y3_ 0 (K [(4, v4), (6, v6), (8, .map v8), (10, y2_.2)]))))) := by kernel_rfl
@[go_sem] theorem c34_r15 (v4 v6 : Addr) (v8 : Option Nat) (v10 : Bool) : RP c34 15 [(4, v4), (6, v6), (8, .map v8), (10, v10)] K =
 (K [(4, v4), (6, v6), (8, .map v8), (74, .bool (!v10))]) := by kernel_rfl
@[go_sem] theorem c34_r16 (v4 v6 : Addr) (v8 : Option Nat) : RP c34 16 [(4, v4), (6, v6), (8, .map v8)] K =
 (ld eS (v4.add 5) fun (y1_ : List UInt8) => (ldn e_past_Was 2 v6 fun (y2_ : past_Was) => (unt Tryz.prog (oMapUpdate 88 (.map v8) (str y1_) (v_past_Was y2_)) (K [])))) := by kernel_rfl
@[go_sem] theorem c34_o : c34.lo 1000000 = [] := rfl
@[go_sem] theorem c34_e : RTp c34 [] k = (k (.tuple #[])) := by kernel_rfl
theorem c34_ok : (c34.P.follows .mixedOrders && okc c34 c34.body) = true := by kernel_rfl
theorem c34_fn (hρ : envA 0 args.toList = ρ) (hs : Nat.ble args.size 79 = true) (h : E L (D c34 (.seq (.reg 0) (.seq (.seq (.reg 1) (.cond (.tmp 17) (.ret) (.skip))) (.seq (.seq (.reg 2) (.block 0 (.seq (.seq (.reg 3) (.cond (.tmp 20) (.skip) (.reg 4))) (.cond (.tmp 20) (.seq (.reg 5) (.seq (.reg 6) (.ret))) (.skip))))) (.seq (.reg 7) (.seq (.reg 8) (.seq (.seq (.reg 9) (.cond (.tmp 48) (.ret) (.skip))) (.seq (.reg 10) (.seq (.seq (.reg 11) (.cond (.tmp 57) (.seq (.reg 12) (.reg 13)) (.skip))) (.seq (.reg 14) (.seq (.reg 15) (.cond (.tmp 74) (.reg 16) (.skip)))))))))))) (fnQ c34 e G) ρ)) : E L (cal e Tryz.prog 34 args G) :=
  d_fn (c := c34) Tryz.func34 (by kernel_rfl) (by kernel_rfl) (by kernel_rfl) c34_ok (by kernel_rfl) (by kernel_rfl) hρ hs h
noncomputable def c35 := cf Tryz.f35 16 [(0, [0]), (1, [1, 2]), (2, [1, 2, 5]), (3, [2]), (4, [1, 2, 5]), (5, [1, 2, 5]), (6, [1, 2]), (7, [2])] [(0, [1, 2]), (1, [1, 2, 5]), (2, [1, 2, 5, 6]), (3, [2, 3]), (4, [1, 2, 5, 9]), (5, [1, 2, 9]), (6, [2, 3]), (7, [2, 3]), (1000000, [2, 3])] [] []
@[go_sem] theorem c35_i : c35.li 0 = [0] ∧ c35.li 1 = [1, 2] ∧ c35.li 2 = [1, 2, 5] ∧ c35.li 3 = [2] ∧ c35.li 4 = [1, 2, 5] ∧ c35.li 5 = [1, 2, 5] ∧ c35.li 6 = [1, 2] ∧ c35.li 7 = [2] := ⟨rfl, rfl, rfl, rfl, rfl, rfl, rfl, rfl⟩
@[go_sem] theorem c35_r0 (v0 : api_Rec) : RP c35 0 [(0, v_api_Rec v0)] K =
 (nwc #[v0.Kind, v0.Txn, v0.Prev, v0.Page, v0.Act, str v0.Key, str v0.Old, str v0.New, v0.Next, .slice v0.Images.1 v0.Images.2.1 v0.Images.2.2, .slice v0.Table.1 v0.Table.2.1 v0.Table.2.2, v0.Epoch, v0.Node] 47 fun y1_ => (nwc #[str ([] : List UInt8), false] 90 fun y2_ => (K [(1, y1_), (2, y2_)]))) := by kernel_rfl
@[go_sem] theorem c35_r1 (v1 v2 : Addr) : RP c35 1 [(1, v1), (2, v2)] K =
 (ld eI v1 fun (y1_ : Int) => (K [(1, v1), (2, v2), (5, y1_)])) := by kernel_rfl
@[go_sem] theorem c35_r2 (v1 v2 : Addr) (v5 : Int) : RP c35 2 [(1, v1), (2, v2), (5, v5)] K =
 (K [(1, v1), (2, v2), (5, v5), (6, .bool (v5 == 3))]) := by kernel_rfl
@[go_sem] theorem c35_r3 (v2 : Addr) : RP c35 3 [(2, v2)] K =
 (stl [str ((⟨([] : List UInt8), false⟩ : past_Was).Val), .bool ((⟨([] : List UInt8), false⟩ : past_Was).Is)] v2 0 (K [(2, v2), (3, true)])) := by kernel_rfl
@[go_sem] theorem c35_r4 (v1 v2 : Addr) (v5 : Int) : RP c35 4 [(1, v1), (2, v2), (5, v5)] K =
 (K [(1, v1), (2, v2), (5, v5), (9, .bool (v5 == 4))]) := by kernel_rfl
@[go_sem] theorem c35_r5 (v1 v2 : Addr) (v5 : Int) : RP c35 5 [(1, v1), (2, v2), (5, v5)] K =
 (K [(1, v1), (2, v2), (9, .bool (v5 == 5))]) := by kernel_rfl
@[go_sem] theorem c35_r6 (v1 v2 : Addr) : RP c35 6 [(1, v1), (2, v2)] K =
 (ld eS (v1.add 6) fun (y1_ : List UInt8) => (stl [str ((⟨y1_, true⟩ : past_Was).Val), .bool ((⟨y1_, true⟩ : past_Was).Is)] v2 0 (K [(2, v2), (3, true)]))) := by kernel_rfl
@[go_sem] theorem c35_r7 (v2 : Addr) : RP c35 7 [(2, v2)] K =
 (stl [str ((⟨([] : List UInt8), false⟩ : past_Was).Val), .bool ((⟨([] : List UInt8), false⟩ : past_Was).Is)] v2 0 (K [(2, v2), (3, false)])) := by kernel_rfl
@[go_sem] theorem c35_o : c35.lo 1000000 = [2, 3] := rfl
@[go_sem] theorem c35_e (v2 : Addr) (v3 : Bool) : RTp c35 [(2, v2), (3, v3)] k = (ldn e_past_Was 2 v2 fun (y1_ : past_Was) => (k (.tuple #[v_past_Was y1_, v3]))) := by kernel_rfl
theorem c35_ok : (c35.P.follows .mixedOrders && okc c35 c35.body) = true := by kernel_rfl
theorem c35_fn (hρ : envA 0 args.toList = ρ) (hs : Nat.ble args.size 16 = true) (h : E L (D c35 (.seq (.reg 0) (.seq (.seq (.reg 1) (.block 0 (.seq (.reg 2) (.cond (.tmp 6) (.seq (.reg 3) (.ret)) (.seq (.seq (.reg 4) (.cond (.tmp 9) (.skip) (.reg 5))) (.cond (.tmp 9) (.seq (.reg 6) (.ret)) (.skip))))))) (.seq (.reg 7) (.ret)))) (fnQ c35 e G) ρ)) : E L (cal e Tryz.prog 35 args G) :=
  d_fn (c := c35) Tryz.func35 (by kernel_rfl) (by kernel_rfl) (by kernel_rfl) c35_ok (by kernel_rfl) (by kernel_rfl) hρ hs h
noncomputable def c36 := cf Tryz.f36 12 [(0, [0]), (1, [0])] [(0, [0]), (1, [2]), (1000000, [2])] [] []
@[go_sem] theorem c36_i : c36.li 0 = [0] ∧ c36.li 1 = [0] := ⟨rfl, rfl⟩
@[go_sem] theorem c36_r0 (v0 : Option Addr) : RP c36 0 [(0, v0)] K =
 (K [(0, v0)]) := by kernel_rfl
@[go_sem] theorem c36_r1 (v0 : Option Addr) : RP c36 1 [(0, v0)] K =
 (cnd (v0.isNone) (K [(2, true)]) (nn v0 fun y1_ => (ld eM y1_ fun (y2_ : Option Nat) => (K [(2, .bool (y2_.isNone))])))) := by kernel_rfl
@[go_sem] theorem c36_o : c36.lo 1000000 = [2] := rfl
@[go_sem] theorem c36_e (v2 : Bool) : RTp c36 [(2, v2)] k = (k (v2)) := by kernel_rfl
theorem c36_ok : (c36.P.follows .mixedOrders && okc c36 c36.body) = true := by kernel_rfl
theorem c36_fn (hρ : envA 0 args.toList = ρ) (hs : Nat.ble args.size 12 = true) (h : E L (D c36 (.seq (.reg 0) (.seq (.reg 1) (.ret))) (fnQ c36 e G) ρ)) : E L (cal e Tryz.prog 36 args G) :=
  d_fn (c := c36) Tryz.func36 (by kernel_rfl) (by kernel_rfl) (by kernel_rfl) c36_ok (by kernel_rfl) (by kernel_rfl) hρ hs h
noncomputable def c39 := cf Tryz.f39 30 [(0, [0]), (1, [0]), (2, []), (3, [0]), (4, [0, 3]), (5, [3, 14]), (6, [3, 14]), (7, [3, 5, 14]), (8, [3, 14, 20]), (9, [3, 14, 20]), (10, [3, 6, 14, 20]), (11, [3])] [(0, [0]), (1, [0, 8]), (2, [2]), (3, [0, 3]), (4, [3, 14]), (5, [3, 14, 16]), (6, [3, 5, 14]), (7, [3, 14, 20]), (8, [3, 14, 20, 22]), (9, [3, 6, 14, 20]), (10, [3, 14, 20]), (11, [2]), (1000000, [2])] [] [(14, eP), (15, (eT3 eB eI eM)), (17, (eT2 eI eM)), (20, eP), (21, (eT3 eB eS e_past_Was)), (23, (eT2 eS e_past_Was))]
@[go_sem] theorem c39_i : c39.li 0 = [0] ∧ c39.li 1 = [0] ∧ c39.li 2 = [] ∧ c39.li 3 = [0] ∧ c39.li 4 = [0, 3] ∧ c39.li 5 = [3, 14] ∧ c39.li 6 = [3, 14] ∧ c39.li 7 = [3, 5, 14] ∧ c39.li 8 = [3, 14, 20] ∧ c39.li 9 = [3, 14, 20] ∧ c39.li 10 = [3, 6, 14, 20] ∧ c39.li 11 = [3] := ⟨rfl, rfl, rfl, rfl, rfl, rfl, rfl, rfl, rfl, rfl, rfl, rfl⟩
@[go_sem] theorem c39_r0 (v0 : Option Addr) : RP c39 0 [(0, v0)] K =
 (K [(0, v0)]) := by kernel_rfl
@[go_sem] theorem c39_r1 (v0 : Option Addr) : RP c39 1 [(0, v0)] K =
 (cal eB Tryz.prog 36 #[v0] fun (y1_ : Bool) => (K [(0, v0), (8, y1_)])) := by kernel_rfl
@[go_sem] theorem c39_r2 : RP c39 2 [] K =
 (K [(2, .slice none 0 0)]) := by kernel_rfl
@[go_sem] theorem c39_r3 (v0 : Option Addr) : RP c39 3 [(0, v0)] K =
 (nwb (.map #[] 0) fun y1_ => (K [(0, v0), (3, .map (some y1_))])) := by kernel_rfl
@[go_sem] theorem c39_r4 (v0 : Option Addr) (v3 : Option Nat) : RP c39 4 [(0, v0), (3, .map v3)] K =
 (nn v0 fun y1_ => (ld eM y1_ fun (y2_ : Option Nat) => (val eP Tryz.prog (oRange 77 (.map y2_)) fun (y3_ : Option Addr) => (K [(3, .map v3), (14, y3_)])))) := by kernel_rfl
@[go_sem] theorem c39_r5 (v3 : Option Nat) (v14 : Option Addr) : RP c39 5 [(3, .map v3), (14, v14)] K =
 (nxt (eT3 eB eI eM) Tryz.prog (oNext (v14) false 0) (K [(3, .map v3), (14, v14), (16, false)]) fun (y1_ : (Bool × Int × (Option Nat))) => (K [(3, .map v3), (14, v14), (16, y1_.1)])) := by kernel_rfl
@[go_sem] theorem c39_r6 (v3 : Option Nat) (v14 : Option Addr) : RP c39 6 [(3, .map v3), (14, v14)] K =
 (val (eT2 eI eM) Tryz.prog (oEntry (v14)) fun (y1_ : (Int × (Option Nat))) => (K [(3, .map v3), (5, .map y1_.2), (14, v14)])) := by kernel_rfl
@[go_sem] theorem c39_r7 (v3 v5 : Option Nat) (v14 : Option Addr) : RP c39 7 [(3, .map v3), (5, .map v5), (14, v14)] K =
 (val eP Tryz.prog (oRange 88 (.map v5)) fun (y1_ : Option Addr) => (K [(3, .map v3), (14, v14), (20, y1_)])) := by kernel_rfl
@[go_sem] theorem c39_r8 (v3 : Option Nat) (v14 v20 : Option Addr) : RP c39 8 [(3, .map v3), (14, v14), (20, v20)] K =
 (nxt (eT3 eB eS e_past_Was) Tryz.prog (oNext (v20) false 0) (K [(3, .map v3), (14, v14), (20, v20), (22, false)]) fun (y1_ : (Bool × (List UInt8) × past_Was)) => (K [(3, .map v3), (14, v14), (20, v20), (22, y1_.1)])) := by kernel_rfl
@[go_sem] theorem c39_r9 (v3 : Option Nat) (v14 v20 : Option Addr) : RP c39 9 [(3, .map v3), (14, v14), (20, v20)] K =
 (val (eT2 eS e_past_Was) Tryz.prog (oEntry (v20)) fun (y1_ : ((List UInt8) × past_Was)) => (K [(3, .map v3), (6, str y1_.1), (14, v14), (20, v20)])) := by kernel_rfl
@[go_sem] theorem c39_r10 (v3 : Option Nat) (v6 : List UInt8) (v14 v20 : Option Addr) : RP c39 10 [(3, .map v3), (6, str v6), (14, v14), (20, v20)] K =
 (unt Tryz.prog (oMapUpdate 124 (.map v3) (str v6) (true)) (K [(3, .map v3), (14, v14), (20, v20)])) := by kernel_rfl
@[go_sem] theorem c39_r11 (v3 : Option Nat) : RP c39 11 [(3, .map v3)] K =
 (cal eV Tryz.prog 66 #[.map v3] fun (y1_ : Value) => (cal eSl Tryz.prog 65 #[y1_] fun (y2_ : (Option Addr × Nat × Nat)) => (K [(2, .slice y2_.1 y2_.2.1 y2_.2.2)]))) := by kernel_rfl
@[go_sem] theorem c39_o : c39.lo 1000000 = [2] := rfl
@[go_sem] theorem c39_e (v2p : Option Addr) (v2n v2c : Nat) : RTp c39 [(2, .slice v2p v2n v2c)] k = (k (.slice v2p v2n v2c)) := by kernel_rfl
theorem c39_ok : (c39.P.follows .mixedOrders && okc c39 c39.body) = true := by kernel_rfl
theorem c39_fn (hρ : envA 0 args.toList = ρ) (hs : Nat.ble args.size 30 = true) (h : E L (D c39 (.seq (.reg 0) (.seq (.seq (.reg 1) (.cond (.tmp 8) (.seq (.reg 2) (.ret)) (.skip))) (.seq (.reg 3) (.seq (.seq (.reg 4) (.block 0 (.loop (.seq (.reg 5) (.seq (.cond (.tmp 16) (.skip) (.exit 0)) (.block 1 (.seq (.reg 6) (.seq (.reg 7) (.block 2 (.loop (.seq (.reg 8) (.seq (.cond (.tmp 22) (.skip) (.exit 2)) (.block 3 (.seq (.reg 9) (.reg 10))))))))))))))) (.seq (.reg 11) (.ret)))))) (fnQ c39 e G) ρ)) : E L (cal e Tryz.prog 39 args G) :=
  d_fn (c := c39) Tryz.func39 (by kernel_rfl) (by kernel_rfl) (by kernel_rfl) c39_ok (by kernel_rfl) (by kernel_rfl) hρ hs h
noncomputable def c40 := cf Tryz.f40 39 [(0, [0, 1]), (1, [0, 1, 4]), (2, [4]), (3, [0, 1, 4]), (4, [0, 1, 4, 18, 19, 20]), (5, [0, 1, 4, 18, 19, 20]), (6, [0, 1, 4, 7, 18, 19, 20]), (7, [0, 1, 4, 8, 9, 18, 19, 20]), (8, [4, 8]), (9, [0, 1, 4, 18, 19, 20]), (10, [4])] [(0, [0, 1, 4]), (1, [0, 1, 4, 11]), (2, [4, 5]), (3, [0, 1, 4, 18, 19, 20]), (4, [0, 1, 4, 18, 19, 20, 21]), (5, [0, 1, 4, 7, 18, 19, 20]), (6, [0, 1, 4, 8, 9, 18, 19, 20]), (7, [0, 1, 4, 8, 18, 19, 20, 35]), (8, [4, 5]), (9, [0, 1, 4, 18, 19, 20]), (10, [4, 5]), (1000000, [4, 5])] [] []
@[go_sem] theorem c40_i : c40.li 0 = [0, 1] ∧ c40.li 1 = [0, 1, 4] ∧ c40.li 2 = [4] ∧ c40.li 3 = [0, 1, 4] ∧ c40.li 4 = [0, 1, 4, 18, 19, 20] ∧ c40.li 5 = [0, 1, 4, 18, 19, 20] ∧ c40.li 6 = [0, 1, 4, 7, 18, 19, 20] ∧ c40.li 7 = [0, 1, 4, 8, 9, 18, 19, 20] ∧ c40.li 8 = [4, 8] ∧ c40.li 9 = [0, 1, 4, 18, 19, 20] ∧ c40.li 10 = [4] := ⟨rfl, rfl, rfl, rfl, rfl, rfl, rfl, rfl, rfl, rfl, rfl⟩
@[go_sem] theorem c40_r0 (v0 : Option Addr) (v1 : List UInt8) : RP c40 0 [(0, v0), (1, str v1)] K =
 (nwc #[str ([] : List UInt8), false] 90 fun y1_ => (K [(0, v0), (1, str v1), (4, y1_)])) := by kernel_rfl
@[go_sem] theorem c40_r1 (v0 : Option Addr) (v1 : List UInt8) (v4 : Addr) : RP c40 1 [(0, v0), (1, str v1), (4, v4)] K =
 (cal eB Tryz.prog 36 #[v0] fun (y1_ : Bool) => (K [(0, v0), (1, str v1), (4, v4), (11, y1_)])) := by kernel_rfl
@[go_sem] theorem c40_r2 (v4 : Addr) : RP c40 2 [(4, v4)] K =
 (stl [str ((⟨([] : List UInt8), false⟩ : past_Was).Val), .bool ((⟨([] : List UInt8), false⟩ : past_Was).Is)] v4 0 (K [(4, v4), (5, false)])) := by kernel_rfl
@[go_sem] theorem c40_r3 (v0 : Option Addr) (v1 : List UInt8) (v4 : Addr) : RP c40 3 [(0, v0), (1, str v1), (4, v4)] K =
 (nn v0 fun y1_ => (ld eM y1_ fun (y2_ : Option Nat) => (cal eV Tryz.prog 67 #[.map y2_] fun (y3_ : Value) => (cal eSl Tryz.prog 37 #[y3_] fun (y4_ : (Option Addr × Nat × Nat)) => (K [(0, v0), (1, str v1), (4, v4), (18, .slice y4_.1 y4_.2.1 y4_.2.2), (19, .int .i64 (y4_.2.1 : Int)), (20, .int .i64 0)]))))) := by kernel_rfl
@[go_sem] theorem c40_r4 (v0 : Option Addr) (v1 : List UInt8) (v4 : Addr) (v18p : Option Addr) (v18n v18c : Nat) (v19 v20 : Int) : RP c40 4 [(0, v0), (1, str v1), (4, v4), (18, .slice v18p v18n v18c), (19, v19), (20, v20)] K =
 (K [(0, v0), (1, str v1), (4, v4), (18, .slice v18p v18n v18c), (19, v19), (20, v20), (21, decide (v20 < v19))]) := by kernel_rfl
@[go_sem] theorem c40_r5 (v0 : Option Addr) (v1 : List UInt8) (v4 : Addr) (v18p : Option Addr) (v18n v18c : Nat) (v19 v20 : Int) : RP c40 5 [(0, v0), (1, str v1), (4, v4), (18, .slice v18p v18n v18c), (19, v19), (20, v20)] K =
 (rq (0 ≤ v20 ∧ v20 < v18n) (nn v18p fun y1_ => (ld eI (Addr.add y1_ (v20.toNat * 1)) fun (y2_ : Int) => (K [(0, v0), (1, str v1), (4, v4), (7, y2_), (18, .slice v18p v18n v18c), (19, v19), (20, v20)])))) := by kernel_rfl
@[go_sem] theorem c40_r6 (v0 : Option Addr) (v1 : List UInt8) (v4 : Addr) (v7 : Int) (v18p : Option Addr) (v18n v18c : Nat) (v19 v20 : Int) : RP c40 6 [(0, v0), (1, str v1), (4, v4), (7, v7), (18, .slice v18p v18n v18c), (19, v19), (20, v20)] K =
 (nn v0 fun y1_ => (ld eM y1_ fun (y2_ : Option Nat) => (val eM Tryz.prog (oLookup 77 (.map y2_) (v7) false) fun (y3_ : Option Nat) => (val (eT2 e_past_Was eB) Tryz.prog (oLookup 88 (.map y3_) (str v1) true) fun (y4_ : (past_Was × Bool)) => (nwc #[str ([] : List UInt8), false] 90 fun y5_ => (stl [str y4_.1.Val, .bool y4_.1.Is] y5_ 0 (K [(0, v0), (1, str v1), (4, v4), (8, y5_), (9, y4_.2), (18, .slice v18p v18n v18c), (19, v19), (20, v20)]))))))) := by kernel_rfl
@[go_sem] theorem c40_r7 (v0 : Option Addr) (v1 : List UInt8) (v4 v8 : Addr) (v9 : Bool) (v18p : Option Addr) (v18n v18c : Nat) (v19 v20 : Int) : RP c40 7 [(0, v0), (1, str v1), (4, v4), (8, v8), (9, v9), (18, .slice v18p v18n v18c), (19, v19), (20, v20)] K =
 (K [(0, v0), (1, str v1), (4, v4), (8, v8), (18, .slice v18p v18n v18c), (19, v19), (20, v20), (35, v9)]) := by kernel_rfl
@[go_sem] theorem c40_r8 (v4 v8 : Addr) : RP c40 8 [(4, v4), (8, v8)] K =
 (ldn e_past_Was 2 v8 fun (y1_ : past_Was) => (stl [str y1_.Val, y1_.Is] v4 0 (K [(4, v4), (5, true)]))) := by kernel_rfl
@[go_sem] theorem c40_r9 (v0 : Option Addr) (v1 : List UInt8) (v4 : Addr) (v18p : Option Addr) (v18n v18c : Nat) (v19 v20 : Int) : RP c40 9 [(0, v0), (1, str v1), (4, v4), (18, .slice v18p v18n v18c), (19, v19), (20, v20)] K =
 (K [(0, v0), (1, str v1), (4, v4), (18, .slice v18p v18n v18c), (19, v19), (20, IntKind.wrap .i64 (v20 + 1))]) := by kernel_rfl
@[go_sem] theorem c40_r10 (v4 : Addr) : RP c40 10 [(4, v4)] K =
 (stl [str ((⟨([] : List UInt8), false⟩ : past_Was).Val), .bool ((⟨([] : List UInt8), false⟩ : past_Was).Is)] v4 0 (K [(4, v4), (5, false)])) := by kernel_rfl
@[go_sem] theorem c40_o : c40.lo 1000000 = [4, 5] := rfl
@[go_sem] theorem c40_e (v4 : Addr) (v5 : Bool) : RTp c40 [(4, v4), (5, v5)] k = (ldn e_past_Was 2 v4 fun (y1_ : past_Was) => (k (.tuple #[v_past_Was y1_, v5]))) := by kernel_rfl
theorem c40_ok : (c40.P.follows .mixedOrders && okc c40 c40.body) = true := by kernel_rfl
theorem c40_fn (hρ : envA 0 args.toList = ρ) (hs : Nat.ble args.size 39 = true) (h : E L (D c40 (.seq (.reg 0) (.seq (.seq (.reg 1) (.cond (.tmp 11) (.seq (.reg 2) (.ret)) (.skip))) (.seq (.seq (.reg 3) (.block 0 (.loop (.seq (.reg 4) (.seq (.cond (.tmp 21) (.skip) (.exit 0)) (.seq (.block 1 (.seq (.reg 5) (.seq (.reg 6) (.seq (.reg 7) (.cond (.tmp 35) (.seq (.reg 8) (.ret)) (.skip)))))) (.reg 9))))))) (.seq (.reg 10) (.ret))))) (fnQ c40 e G) ρ)) : E L (cal e Tryz.prog 40 args G) :=
  d_fn (c := c40) Tryz.func40 (by kernel_rfl) (by kernel_rfl) (by kernel_rfl) c40_ok (by kernel_rfl) (by kernel_rfl) hρ hs h
noncomputable def c11 := cf Tryz.f11 32 [(0, [0]), (1, [0]), (2, []), (3, [0]), (4, [0, 3]), (5, [0, 3, 13, 14, 15]), (6, [0, 3, 13, 14, 15]), (7, [0, 3, 5, 13, 14, 15]), (8, [0, 3, 13, 14, 15]), (9, [3])] [(0, [0]), (1, [0, 7]), (2, [2]), (3, [0, 3]), (4, [0, 3, 13, 14, 15]), (5, [0, 3, 13, 14, 15, 16]), (6, [0, 3, 5, 13, 14, 15]), (7, [0, 3, 13, 14, 15]), (8, [0, 3, 13, 14, 15]), (9, [2]), (1000000, [2])] [] []
@[go_sem] theorem c11_i : c11.li 0 = [0] ∧ c11.li 1 = [0] ∧ c11.li 2 = [] ∧ c11.li 3 = [0] ∧ c11.li 4 = [0, 3] ∧ c11.li 5 = [0, 3, 13, 14, 15] ∧ c11.li 6 = [0, 3, 13, 14, 15] ∧ c11.li 7 = [0, 3, 5, 13, 14, 15] ∧ c11.li 8 = [0, 3, 13, 14, 15] ∧ c11.li 9 = [3] := ⟨rfl, rfl, rfl, rfl, rfl, rfl, rfl, rfl, rfl, rfl⟩
@[go_sem] theorem c11_r0 (v0 : Option Addr) : RP c11 0 [(0, v0)] K =
 (K [(0, v0)]) := by kernel_rfl
@[go_sem] theorem c11_r1 (v0 : Option Addr) : RP c11 1 [(0, v0)] K =
 (cal eB Tryz.prog 36 #[v0] fun (y1_ : Bool) => (K [(0, v0), (7, y1_)])) := by kernel_rfl
@[go_sem] theorem c11_r2 : RP c11 2 [] K =
 (K [(2, .slice none 0 0)]) := by kernel_rfl
@[go_sem] theorem c11_r3 (v0 : Option Addr) : RP c11 3 [(0, v0)] K =
 (K [(0, v0), (3, .slice none 0 0)]) := by kernel_rfl
@[go_sem] theorem c11_r4 (v0 v3p : Option Addr) (v3n v3c : Nat) : RP c11 4 [(0, v0), (3, .slice v3p v3n v3c)] K =
 (nn v0 fun y1_ => (ld eM (y1_.add 1) fun (y2_ : Option Nat) => (cal eV Tryz.prog 38 #[.map y2_] fun (y3_ : Value) => (cal eSl Tryz.prog 37 #[y3_] fun (y4_ : (Option Addr × Nat × Nat)) => (K [(0, v0), (3, .slice v3p v3n v3c), (13, .slice y4_.1 y4_.2.1 y4_.2.2), (14, .int .i64 (y4_.2.1 : Int)), (15, .int .i64 0)]))))) := by kernel_rfl
@[go_sem] theorem c11_r5 (v0 v3p : Option Addr) (v3n v3c : Nat) (v13p : Option Addr) (v13n v13c : Nat) (v14 v15 : Int) : RP c11 5 [(0, v0), (3, .slice v3p v3n v3c), (13, .slice v13p v13n v13c), (14, v14), (15, v15)] K =
 (K [(0, v0), (3, .slice v3p v3n v3c), (13, .slice v13p v13n v13c), (14, v14), (15, v15), (16, decide (v15 < v14))]) := by kernel_rfl
@[go_sem] theorem c11_r6 (v0 v3p : Option Addr) (v3n v3c : Nat) (v13p : Option Addr) (v13n v13c : Nat) (v14 v15 : Int) : RP c11 6 [(0, v0), (3, .slice v3p v3n v3c), (13, .slice v13p v13n v13c), (14, v14), (15, v15)] K =
 (rq (0 ≤ v15 ∧ v15 < v13n) (nn v13p fun y1_ => (ld eI (Addr.add y1_ (v15.toNat * 1)) fun (y2_ : Int) => (K [(0, v0), (3, .slice v3p v3n v3c), (5, y2_), (13, .slice v13p v13n v13c), (14, v14), (15, v15)])))) := by kernel_rfl
@[go_sem] theorem c11_r7 (v0 v3p : Option Addr) (v3n v3c : Nat) (v5 : Int) (v13p : Option Addr) (v13n v13c : Nat) (v14 v15 : Int) : RP c11 7 [(0, v0), (3, .slice v3p v3n v3c), (5, v5), (13, .slice v13p v13n v13c), (14, v14), (15, v15)] K =
 (nn v0 fun y1_ => (ld eM (y1_.add 1) fun (y2_ : Option Nat) => (val eI Tryz.prog (oLookup 78 (.map y2_) (v5) false) fun (y3_ : Int) => (nwc #[.int .i64 ((⟨v5, y3_⟩ : api_Active).Txn), .int .i64 ((⟨v5, y3_⟩ : api_Active).Last)] 40 fun y4_ => (val eSl Tryz.prog (oB_append #[35, 35] 35 #[.slice v3p v3n v3c, .slice (some y4_) 1 1]) fun (y5_ : (Option Addr × Nat × Nat)) => (K [(0, v0), (3, .slice y5_.1 y5_.2.1 y5_.2.2), (13, .slice v13p v13n v13c), (14, v14), (15, v15)])))))) := by kernel_rfl
@[go_sem] theorem c11_r8 (v0 v3p : Option Addr) (v3n v3c : Nat) (v13p : Option Addr) (v13n v13c : Nat) (v14 v15 : Int) : RP c11 8 [(0, v0), (3, .slice v3p v3n v3c), (13, .slice v13p v13n v13c), (14, v14), (15, v15)] K =
 (K [(0, v0), (3, .slice v3p v3n v3c), (13, .slice v13p v13n v13c), (14, v14), (15, IntKind.wrap .i64 (v15 + 1))]) := by kernel_rfl
@[go_sem] theorem c11_r9 (v3p : Option Addr) (v3n v3c : Nat) : RP c11 9 [(3, .slice v3p v3n v3c)] K =
 (K [(2, .slice v3p v3n v3c)]) := by kernel_rfl
@[go_sem] theorem c11_o : c11.lo 1000000 = [2] := rfl
@[go_sem] theorem c11_e (v2p : Option Addr) (v2n v2c : Nat) : RTp c11 [(2, .slice v2p v2n v2c)] k = (k (.slice v2p v2n v2c)) := by kernel_rfl
theorem c11_ok : (c11.P.follows .mixedOrders && okc c11 c11.body) = true := by kernel_rfl
theorem c11_fn (hρ : envA 0 args.toList = ρ) (hs : Nat.ble args.size 32 = true) (h : E L (D c11 (.seq (.reg 0) (.seq (.seq (.reg 1) (.cond (.tmp 7) (.seq (.reg 2) (.ret)) (.skip))) (.seq (.reg 3) (.seq (.seq (.reg 4) (.block 0 (.loop (.seq (.reg 5) (.seq (.cond (.tmp 16) (.skip) (.exit 0)) (.seq (.block 1 (.seq (.reg 6) (.reg 7))) (.reg 8))))))) (.seq (.reg 9) (.ret)))))) (fnQ c11 e G) ρ)) : E L (cal e Tryz.prog 11 args G) :=
  d_fn (c := c11) Tryz.func11 (by kernel_rfl) (by kernel_rfl) (by kernel_rfl) c11_ok (by kernel_rfl) (by kernel_rfl) hρ hs h
noncomputable def c12 := cf Tryz.f12 22 [(0, [0]), (1, [0]), (2, []), (3, [0]), (4, [0, 3]), (5, [3, 12]), (6, [3, 12]), (7, [3, 5, 12]), (8, [3])] [(0, [0]), (1, [0, 7]), (2, [2]), (3, [0, 3]), (4, [3, 12]), (5, [3, 12, 14]), (6, [3, 5, 12]), (7, [3, 12]), (8, [2]), (1000000, [2])] [] [(12, eP), (13, (eT3 eB eI eM)), (15, (eT2 eI eM))]
@[go_sem] theorem c12_i : c12.li 0 = [0] ∧ c12.li 1 = [0] ∧ c12.li 2 = [] ∧ c12.li 3 = [0] ∧ c12.li 4 = [0, 3] ∧ c12.li 5 = [3, 12] ∧ c12.li 6 = [3, 12] ∧ c12.li 7 = [3, 5, 12] ∧ c12.li 8 = [3] := ⟨rfl, rfl, rfl, rfl, rfl, rfl, rfl, rfl, rfl⟩
@[go_sem] theorem c12_r0 (v0 : Option Addr) : RP c12 0 [(0, v0)] K =
 (K [(0, v0)]) := by kernel_rfl
@[go_sem] theorem c12_r1 (v0 : Option Addr) : RP c12 1 [(0, v0)] K =
 (cal eB Tryz.prog 36 #[v0] fun (y1_ : Bool) => (K [(0, v0), (7, y1_)])) := by kernel_rfl
@[go_sem] theorem c12_r2 : RP c12 2 [] K =
 (K [(2, .int .i64 0)]) := by kernel_rfl
@[go_sem] theorem c12_r3 (v0 : Option Addr) : RP c12 3 [(0, v0)] K =
 (K [(0, v0), (3, .int .i64 0)]) := by kernel_rfl
@[go_sem] theorem c12_r4 (v0 : Option Addr) (v3 : Int) : RP c12 4 [(0, v0), (3, v3)] K =
 (nn v0 fun y1_ => (ld eM y1_ fun (y2_ : Option Nat) => (val eP Tryz.prog (oRange 77 (.map y2_)) fun (y3_ : Option Addr) => (K [(3, v3), (12, y3_)])))) := by kernel_rfl
@[go_sem] theorem c12_r5 (v3 : Int) (v12 : Option Addr) : RP c12 5 [(3, v3), (12, v12)] K =
 (nxt (eT3 eB eI eM) Tryz.prog (oNext (v12) false 0) (K [(3, v3), (12, v12), (14, false)]) fun (y1_ : (Bool × Int × (Option Nat))) => (K [(3, v3), (12, v12), (14, y1_.1)])) := by kernel_rfl
@[go_sem] theorem c12_r6 (v3 : Int) (v12 : Option Addr) : RP c12 6 [(3, v3), (12, v12)] K =
 (val (eT2 eI eM) Tryz.prog (oEntry (v12)) fun (y1_ : (Int × (Option Nat))) => (K [(3, v3), (5, .map y1_.2), (12, v12)])) := by kernel_rfl
@[go_sem] theorem c12_r7 (v3 : Int) (v5 : Option Nat) (v12 : Option Addr) : RP c12 7 [(3, v3), (5, .map v5), (12, v12)] K =
 (val eI Tryz.prog (oB_len #[88] 3 #[.map v5]) fun (y1_ : Int) => (K [(3, IntKind.wrap .i64 (v3 + y1_)), (12, v12)])) := by kernel_rfl
@[go_sem] theorem c12_r8 (v3 : Int) : RP c12 8 [(3, v3)] K =
 (K [(2, v3)]) := by kernel_rfl
@[go_sem] theorem c12_o : c12.lo 1000000 = [2] := rfl
@[go_sem] theorem c12_e (v2 : Int) : RTp c12 [(2, v2)] k = (k (v2)) := by kernel_rfl
theorem c12_ok : (c12.P.follows .mixedOrders && okc c12 c12.body) = true := by kernel_rfl
theorem c12_fn (hρ : envA 0 args.toList = ρ) (hs : Nat.ble args.size 22 = true) (h : E L (D c12 (.seq (.reg 0) (.seq (.seq (.reg 1) (.cond (.tmp 7) (.seq (.reg 2) (.ret)) (.skip))) (.seq (.reg 3) (.seq (.seq (.reg 4) (.block 0 (.loop (.seq (.reg 5) (.seq (.cond (.tmp 14) (.skip) (.exit 0)) (.block 1 (.seq (.reg 6) (.reg 7)))))))) (.seq (.reg 8) (.ret)))))) (fnQ c12 e G) ρ)) : E L (cal e Tryz.prog 12 args G) :=
  d_fn (c := c12) Tryz.func12 (by kernel_rfl) (by kernel_rfl) (by kernel_rfl) c12_ok (by kernel_rfl) (by kernel_rfl) hρ hs h
noncomputable def c14 := cf Tryz.f14 36 [(0, []), (1, []), (2, [1]), (3, [1]), (4, [1, 2, 3]), (5, []), (6, [1]), (7, [1]), (8, [5])] [(0, []), (1, [1]), (2, [1]), (3, [1, 2, 3]), (4, [1, 25]), (5, [0]), (6, [1]), (7, [5]), (8, [0]), (1000000, [0])] [] []
@[go_sem] theorem c14_i : c14.li 0 = [] ∧ c14.li 1 = [] ∧ c14.li 2 = [1] ∧ c14.li 3 = [1] ∧ c14.li 4 = [1, 2, 3] ∧ c14.li 5 = [] ∧ c14.li 6 = [1] ∧ c14.li 7 = [1] ∧ c14.li 8 = [5] := ⟨rfl, rfl, rfl, rfl, rfl, rfl, rfl, rfl, rfl⟩
@[go_sem] theorem c14_r0 : RP c14 0 [] K =
 (K []) := by kernel_rfl
@[go_sem] theorem c14_r1 : RP c14 1 [] K =
 (cal eP Tryz.prog 8 #[] fun (y1_ : Option Addr) => (K [(1, y1_)])) := by kernel_rfl
@[go_sem] theorem c14_r2 (v1 : Option Addr) : RP c14 2 [(1, v1)] K =
 (cal eN Tryz.prog 34 #[v1, v_api_Rec (⟨(3 : Int), (5 : Int), (0 : Int), (0 : Int), (0 : Int), ([97] : List UInt8), ([] : List UInt8), ([49] : List UInt8), (0 : Int), (none, 0, 0), (none, 0, 0), (0 : Int), (0 : Int)⟩ : api_Rec), .int .i64 3] fun (y1_ : Unit) => (K [(1, v1)])) := by kernel_rfl
@[go_sem] theorem c14_r3 (v1 : Option Addr) : RP c14 3 [(1, v1)] K =
 (cal (eT2 e_past_Was eB) Tryz.prog 40 #[v1, str ([97] : List UInt8)] fun (y1_ : (past_Was × Bool)) => (nwc #[str ([] : List UInt8), false] 90 fun y2_ => (stl [str y1_.1.Val, .bool y1_.1.Is] y2_ 0 (K [(1, v1), (2, y2_), (3, y1_.2)])))) := by kernel_rfl
@[go_sem] theorem c14_r4 (v1 : Option Addr) (v2 : Addr) (v3 : Bool) : RP c14 4 [(1, v1), (2, v2), (3, v3)] K =
 (cnd (!v3) (K [(1, v1), (25, true)]) (ld eB (v2.add 1) fun (y1_ : Bool) => (cnd y1_ (K [(1, v1), (25, true)]) (cal eI Tryz.prog 12 #[v1] fun (y2_ : Int) => (K [(1, v1), (25, .bool (y2_ != 1))]))))) := by kernel_rfl
@[go_sem] theorem c14_r5 : RP c14 5 [] K =
 (K [(0, false)]) := by kernel_rfl
@[go_sem] theorem c14_r6 (v1 : Option Addr) : RP c14 6 [(1, v1)] K =
 (cal eN Tryz.prog 34 #[v1, v_api_Rec (⟨(7 : Int), (5 : Int), (0 : Int), (0 : Int), (0 : Int), ([] : List UInt8), ([] : List UInt8), ([] : List UInt8), (0 : Int), (none, 0, 0), (none, 0, 0), (0 : Int), (0 : Int)⟩ : api_Rec), .int .i64 9] fun (y1_ : Unit) => (K [(1, v1)])) := by kernel_rfl
@[go_sem] theorem c14_r7 (v1 : Option Addr) : RP c14 7 [(1, v1)] K =
 (cal (eT2 e_past_Was eB) Tryz.prog 40 #[v1, str ([97] : List UInt8)] fun (y1_ : (past_Was × Bool)) => (nwc #[str ([] : List UInt8), false] 90 fun y2_ => (stl [str y1_.1.Val, .bool y1_.1.Is] y2_ 0 (K [(5, y1_.2)])))) := by kernel_rfl
@[go_sem] theorem c14_r8 (v5 : Bool) : RP c14 8 [(5, v5)] K =
 (K [(0, .bool (!v5))]) := by kernel_rfl
@[go_sem] theorem c14_o : c14.lo 1000000 = [0] := rfl
@[go_sem] theorem c14_e (v0 : Bool) : RTp c14 [(0, v0)] k = (k (v0)) := by kernel_rfl
theorem c14_ok : (c14.P.follows .mixedOrders && okc c14 c14.body) = true := by kernel_rfl
theorem c14_fn (hρ : envA 0 args.toList = ρ) (hs : Nat.ble args.size 36 = true) (h : E L (D c14 (.seq (.reg 0) (.seq (.reg 1) (.seq (.reg 2) (.seq (.reg 3) (.seq (.seq (.reg 4) (.cond (.tmp 25) (.seq (.reg 5) (.ret)) (.skip))) (.seq (.reg 6) (.seq (.reg 7) (.seq (.reg 8) (.ret))))))))) (fnQ c14 e G) ρ)) : E L (cal e Tryz.prog 14 args G) :=
  d_fn (c := c14) Tryz.func14 (by kernel_rfl) (by kernel_rfl) (by kernel_rfl) c14_ok (by kernel_rfl) (by kernel_rfl) hρ hs h
end Go.Sp
