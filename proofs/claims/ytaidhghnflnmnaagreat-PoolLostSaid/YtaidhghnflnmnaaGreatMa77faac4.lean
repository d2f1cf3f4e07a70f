/- Texts of a proof, one behind the other: U4 U5 U6 U7 U8 U9 V1 Gxf0 V2 V3 V4 V5 K26 K27 Gp0 P1 P2 P3 P4 V6 V7 V8 V9 V10 Q1 P5 P6 P7 P8 Z1 P9 V11 P10. No condition. -/
import Derived.Test.YtaidhghnflnmnaaGreatM125e25b3
import Derived.Test.YtaidhghnflnmnaaGreatM48a2d4cf
import Derived.Test.YtaidhghnflnmnaaGreatM470d30a0
namespace Go.Sp
open Go Go.Proofs
set_option linter.unusedSimpArgs false
set_option linter.unusedVariables false
set_option maxRecDepth 10000
abbrev Lr := Int × Dk × Lg
def Dk.lmend (Z : Dk) (G : Lg) : Lr :=
  if (Z.lw G (G.durable / 58)).1 = 0 then ((Z.lw G (G.durable / 58)).2.sync.1, (Z.lw G (G.durable / 58)).2.sync.2, G.down (Z.lw G (G.durable / 58)).2.sync.1)
  else ((Z.lw G (G.durable / 58)).1, (Z.lw G (G.durable / 58)).2, G.down (Z.lw G (G.durable / 58)).1)
theorem down_0 (G : Lg) : G.down 0 = G := if_pos rfl
theorem g70 (G : Lg) (Z : Dk) (h : Z.ok) (hG : G.ok Z.sure.length) : Fq eI Tryz.prog 70 #[G.p] [lgp G Z.sb, dk Z] [lgp (Z.lmend G).2.2 Z.sb, dk (Z.lmend G).2.1] (Z.lmend G).1 := fun L => by
  have hdu := hG.du
  have hle := hG.le
  have hfit := hG.fit
  have hn1 := hG.n1
  have F := g77 G Z h hG (G.durable / 58) (by omega)
  obtain ⟨o1, o2, o3⟩ := Dk.lw_ok h G (G.durable / 58)
  have S := F28 _ o1
  simp only [Dk.p, o2] at S
  have e1 : IntKind.wrap .i64 ((G.durable : Int).tdiv 58) = ((G.durable / 58 : Nat) : Int) := by rw [td (by omega), w64 (by omega) (by omega)]; omega
  unfold Dk.lmend
  generalize Z.lw G (G.durable / 58) = T at *
  obtain ⟨e, Y⟩ := T
  dsimp only at F S ⊢
  refine c70_fn rfl rfl ?_
  by_cases he : e = 0
  · subst he
    rw [if_pos rfl]
    repeat' (first | (with_reducible first | refine d_seq fun K hK => ?_ | (refine hK _ _ ?_; clear hK K) | (refine SG.p ?_; try intro b)) | refine i_c ?_ ?_ <;> intro hc <;> try simp only [push_cast, seval] at hc | refine i_x ?_ | clear hK K)
    rw [e1]
    refine i_clq F ?_
    repeat' (first | (with_reducible first | refine d_seq fun K hK => ?_ | (refine hK _ _ ?_; clear hK K) | (refine SG.p ?_; try intro b)) | refine i_c ?_ ?_ <;> intro hc <;> try simp only [push_cast, seval] at hc | refine i_x ?_ | clear hK K)
    all_goals try (first | contradiction | (simp only [ reduceCtorEq] at *; done) | (exfalso; omega))
    refine i_clq S ?_
    refine i_clq (g78 G Z.sb _) ?_
    repeat' (first | (with_reducible first | refine d_seq fun K hK => ?_ | (refine hK _ _ ?_; clear hK K) | (refine SG.p ?_; try intro b)) | refine i_c ?_ ?_ <;> intro hc <;> try simp only [push_cast, seval] at hc | refine i_x ?_ | clear hK K)
    (with_reducible first | apply i_ret0 | apply i_ret2 | apply i_ret3 | apply i_ret); exact rfl
    rfl
  · rw [if_neg he]
    repeat' (first | (with_reducible first | refine d_seq fun K hK => ?_ | (refine hK _ _ ?_; clear hK K) | (refine SG.p ?_; try intro b)) | refine i_c ?_ ?_ <;> intro hc <;> try simp only [push_cast, seval] at hc | refine i_x ?_ | clear hK K)
    rw [e1]
    refine i_clq F ?_
    repeat' (first | (with_reducible first | refine d_seq fun K hK => ?_ | (refine hK _ _ ?_; clear hK K) | (refine SG.p ?_; try intro b)) | refine i_c ?_ ?_ <;> intro hc <;> try simp only [push_cast, seval] at hc | refine i_x ?_ | clear hK K)
    all_goals try (first | contradiction | (simp only [ reduceCtorEq] at *; done) | (exfalso; omega))
    refine i_clq (g78 G Z.sb _) ?_
    repeat' (first | (with_reducible first | refine d_seq fun K hK => ?_ | (refine hK _ _ ?_; clear hK K) | (refine SG.p ?_; try intro b)) | refine i_c ?_ ?_ <;> intro hc <;> try simp only [push_cast, seval] at hc | refine i_x ?_ | clear hK K)
    (with_reducible first | apply i_ret0 | apply i_ret2 | apply i_ret3 | apply i_ret); exact rfl
    rfl
def lws (G : Lg) : Nat → Nat → Dk → Int × Dk
  | 0, _, Z => (0, Z)
  | k + 1, i, Z => if 58 * i < G.all.length then (if (Z.lw G i).1 = 0 then lws G k (i + 1) (Z.lw G i).2 else Z.lw G i) else (0, Z)
theorem lws_ok (G : Lg) : ∀ (k i : Nat) {Z : Dk}, Z.ok → (lws G k i Z).2.ok ∧ (lws G k i Z).2.sb = Z.sb ∧ (lws G k i Z).2.sure.length = Z.sure.length
  | 0, _, Z, h => ⟨h, rfl, rfl⟩
  | k + 1, i, Z, h => by
    obtain ⟨a1, a2, a3⟩ := Dk.lw_ok h G i
    unfold lws
    split
    · split
      · obtain ⟨b1, b2, b3⟩ := lws_ok G k (i + 1) a1
        exact ⟨b1, b2.trans a2, b3.trans a3⟩
      · exact ⟨a1, a2, a3⟩
    · exact ⟨h, rfl, rfl⟩
def Dk.lflush (Z : Dk) (G : Lg) : Lr :=
  if G.dead then (9, Z, G) else if G.durable = G.all.length then (0, Z, G) else
  (fun a : Int × Dk => if a.1 = 0 then (if a.2.sync.1 = 0 then (0, a.2.sync.2, { G with durable := G.all.length }) else (a.2.sync.1, a.2.sync.2, G.down a.2.sync.1)) else (a.1, a.2, G.down a.1)) (lws G (G.sectors + 1) (G.durable / 58) Z)
set_option maxHeartbeats 1000000 in
theorem g21 (G : Lg) (Z : Dk) (h : Z.ok) (hG : G.ok Z.sure.length) : Fq eI Tryz.prog 21 #[G.p] [lgp G Z.sb, dk Z] [lgp (Z.lflush G).2.2 Z.sb, dk (Z.lflush G).2.1] (Z.lflush G).1 := fun L => by
  have hdu := hG.du
  have hle := hG.le
  have hfit := hG.fit
  have hn1 := hG.n1
  have O := g75 G Z.sb
  unfold Lg.off at O
  unfold Dk.lflush
  refine c21_fn rfl rfl ?_
  by_cases hd : G.dead = true
  · rw [if_pos hd] at O
    rw [if_pos hd]
    repeat' (first | (with_reducible first | refine d_seq fun K hK => ?_ | (refine hK _ _ ?_; clear hK K) | (refine SG.p ?_; try intro b)) | refine i_c ?_ ?_ <;> intro hc <;> try simp only [push_cast, seval] at hc | refine i_x ?_ | clear hK K)
    refine i_clp O ?_
    repeat' (first | (with_reducible first | refine d_seq fun K hK => ?_ | (refine hK _ _ ?_; clear hK K) | (refine SG.p ?_; try intro b)) | refine i_c ?_ ?_ <;> intro hc <;> try simp only [push_cast, seval] at hc | refine i_x ?_ | clear hK K)
    all_goals try (first | contradiction | (simp only [ reduceCtorEq] at *; done) | (exfalso; omega))
    (with_reducible first | apply i_ret0 | apply i_ret2 | apply i_ret3 | apply i_ret); exact rfl
    rfl
  · rw [if_neg hd] at O
    rw [if_neg hd]
    by_cases hq : G.durable = G.all.length
    · rw [if_pos hq]
      repeat' (first | (with_reducible first | refine d_seq fun K hK => ?_ | (refine hK _ _ ?_; clear hK K) | (refine SG.p ?_; try intro b)) | refine i_c ?_ ?_ <;> intro hc <;> try simp only [push_cast, seval] at hc | refine i_x ?_ | clear hK K)
      refine i_clp O ?_
      repeat' (first | (with_reducible first | refine d_seq fun K hK => ?_ | (refine hK _ _ ?_; clear hK K) | (refine SG.p ?_; try intro b)) | refine i_c ?_ ?_ <;> intro hc <;> try simp only [push_cast, seval] at hc | refine i_x ?_ | clear hK K)
      all_goals try (first | contradiction | (simp only [ reduceCtorEq] at *; done) | (exfalso; omega))
      refine r_ph0 ?_
      repeat' (first | (with_reducible first | refine d_seq fun K hK => ?_ | (refine hK _ _ ?_; clear hK K) | (refine SG.p ?_; try intro b)) | refine i_c ?_ ?_ <;> intro hc <;> try simp only [push_cast, seval] at hc | refine i_x ?_ | clear hK K)
      all_goals try (exfalso; omega)
      (with_reducible first | apply i_ret0 | apply i_ret2 | apply i_ret3 | apply i_ret); exact rfl
      rfl
    · rw [if_neg hq]
      generalize hA : lws G (G.sectors + 1) (G.durable / 58) Z = A
      dsimp only
      generalize hRes : (if A.1 = 0 then (if A.2.sync.1 = 0 then ((0 : Int), A.2.sync.2, ({ G with durable := G.all.length } : Lg)) else (A.2.sync.1, A.2.sync.2, G.down A.2.sync.1)) else (A.1, A.2, G.down A.1)) = Res
      have e1 : IntKind.wrap .i64 ((G.durable : Int).tdiv 58) = ((G.durable / 58 : Nat) : Int) := by rw [td (by omega), w64 (by omega) (by omega)]; omega
      repeat' (first | (with_reducible first | refine d_seq fun K hK => ?_ | (refine hK _ _ ?_; clear hK K) | (refine SG.p ?_; try intro b)) | refine i_c ?_ ?_ <;> intro hc <;> try simp only [push_cast, seval] at hc | refine i_x ?_ | clear hK K)
      refine i_clp O ?_
      repeat' (first | (with_reducible first | refine d_seq fun K hK => ?_ | (refine hK _ _ ?_; clear hK K) | (refine SG.p ?_; try intro b)) | refine i_c ?_ ?_ <;> intro hc <;> try simp only [push_cast, seval] at hc | refine i_x ?_ | clear hK K)
      all_goals try (first | contradiction | (simp only [ reduceCtorEq] at *; done) | (exfalso; omega))
      refine r_ph0 ?_
      repeat' (first | (with_reducible first | refine d_seq fun K hK => ?_ | (refine hK _ _ ?_; clear hK K) | (refine SG.p ?_; try intro b)) | refine i_c ?_ ?_ <;> intro hc <;> try simp only [push_cast, seval] at hc | refine i_x ?_ | clear hK K)
      all_goals try (exfalso; omega)
      rw [e1]
      repeat' (first | (with_reducible first | refine d_seq fun K hK => ?_ | (refine hK _ _ ?_; clear hK K) | (refine SG.p ?_; try intro b)) | refine i_c ?_ ?_ <;> intro hc <;> try simp only [push_cast, seval] at hc | refine i_x ?_ | clear hK K)
      refine d_lp [0, 4] (fun t : Nat × Nat × Dk => [(0, .pointer (some ⟨G.q, 0, none⟩)), (4, .int .i64 (t.2.1 : Int))])
        (fun t => lgp G Z.sb :: dk t.2.2 :: L) (fun t => t.2.2.ok ∧ t.2.2.sb = Z.sb ∧ t.2.2.sure.length = Z.sure.length ∧ lws G t.1 t.2.1 t.2.2 = A ∧ G.sectors + 1 ≤ t.1 + t.2.1 ∧ t.2.1 ≤ 8192) (fun t => t.1)
        (G.sectors + 1, G.durable / 58, Z) rfl SX.p ⟨h, rfl, rfl, hA, by dsimp only; omega, by dsimp only; omega⟩ ?_
      rintro ⟨k, i, Y⟩ ⟨y1, y2, y3, y4, y5, y6⟩
      dsimp only at y1 y2 y3 y4 y5 y6 ⊢
      have e2 : IntKind.wrap .i64 ((i : Int) * 58) = (i : Int) * 58 := w64 (by omega) (by omega)
      repeat' (first | rw [e2] | first | (with_reducible first | refine d_seq fun K hK => ?_ | (refine hK _ _ ?_; clear hK K) | (refine SG.p ?_; try intro b)) | refine i_c ?_ ?_ <;> intro hc <;> try simp only [push_cast, seval] at hc | refine i_x ?_ | clear hK K)
      · obtain ⟨k', rfl⟩ : ∃ k', k = k' + 1 := ⟨k - 1, by omega⟩
        have W := g77 G Y y1 (by rw [y3]; exact hG) i y6
        rw [y2] at W
        obtain ⟨z1, z2, z3⟩ := Dk.lw_ok y1 G i
        rw [show lws G (k' + 1) i Y = if 58 * i < G.all.length then (if (Y.lw G i).1 = 0 then lws G k' (i + 1) (Y.lw G i).2 else Y.lw G i) else (0, Y) from rfl, if_pos (by omega)] at y4
        generalize Y.lw G i = T at *
        obtain ⟨e, V⟩ := T
        dsimp only at W y4 z1 z2 z3
        by_cases he : e = 0
        · subst he
          rw [if_pos rfl] at y4
          refine i_clq W ?_
          repeat' (first | (with_reducible first | refine d_seq fun K hK => ?_ | (refine hK _ _ ?_; clear hK K) | (refine SG.p ?_; try intro b)) | refine i_c ?_ ?_ <;> intro hc <;> try simp only [push_cast, seval] at hc | refine i_x ?_ | clear hK K)
          all_goals try (first | contradiction | (simp only [ reduceCtorEq] at *; done) | (exfalso; omega))
          rw [w64 (by omega) (by omega)]
          exact i_bk (k', i + 1, V) rfl ⟨z1, z2.trans y2, z3.trans y3, y4, by dsimp only; omega, by dsimp only; omega⟩ (by dsimp only; omega)
        · rw [if_neg he] at y4
          subst y4
          dsimp only at hRes
          rw [if_neg he] at hRes
          subst hRes
          refine i_clq W ?_
          repeat' (first | (with_reducible first | refine d_seq fun K hK => ?_ | (refine hK _ _ ?_; clear hK K) | (refine SG.p ?_; try intro b)) | refine i_c ?_ ?_ <;> intro hc <;> try simp only [push_cast, seval] at hc | refine i_x ?_ | clear hK K)
          all_goals try (first | contradiction | (simp only [ reduceCtorEq] at *; done) | (exfalso; omega))
          refine i_clq (g78 G Z.sb e) ?_
          repeat' (first | (with_reducible first | refine d_seq fun K hK => ?_ | (refine hK _ _ ?_; clear hK K) | (refine SG.p ?_; try intro b)) | refine i_c ?_ ?_ <;> intro hc <;> try simp only [push_cast, seval] at hc | refine i_x ?_ | clear hK K)
          (with_reducible first | apply i_ret0 | apply i_ret2 | apply i_ret3 | apply i_ret); exact rfl
          rfl
      · have hA2 : A = (0, Y) := by
          rw [← y4]
          cases k with
          | zero => rfl
          | succ k => unfold lws; rw [if_neg (by omega)]
        subst hA2
        have S := F28 Y y1
        simp only [Dk.p, y2] at S
        dsimp only at hRes
        rw [if_pos rfl] at hRes
        generalize Y.sync = T at *
        obtain ⟨e, V⟩ := T
        dsimp only at S hRes
        by_cases he : e = 0
        · subst he
          rw [if_pos rfl] at hRes
          subst hRes
          repeat' (first | (with_reducible first | refine d_seq fun K hK => ?_ | (refine hK _ _ ?_; clear hK K) | (refine SG.p ?_; try intro b)) | refine i_c ?_ ?_ <;> intro hc <;> try simp only [push_cast, seval] at hc | refine i_x ?_ | clear hK K)
          refine i_clq S ?_
          repeat' (first | (with_reducible first | refine d_seq fun K hK => ?_ | (refine hK _ _ ?_; clear hK K) | (refine SG.p ?_; try intro b)) | refine i_c ?_ ?_ <;> intro hc <;> try simp only [push_cast, seval] at hc | refine i_x ?_ | clear hK K)
          all_goals try (first | contradiction | (simp only [ reduceCtorEq] at *; done) | (exfalso; omega))
          (with_reducible first | apply i_ret0 | apply i_ret2 | apply i_ret3 | apply i_ret); exact rfl
          rfl
        · rw [if_neg he] at hRes
          subst hRes
          repeat' (first | (with_reducible first | refine d_seq fun K hK => ?_ | (refine hK _ _ ?_; clear hK K) | (refine SG.p ?_; try intro b)) | refine i_c ?_ ?_ <;> intro hc <;> try simp only [push_cast, seval] at hc | refine i_x ?_ | clear hK K)
          refine i_clq S ?_
          repeat' (first | (with_reducible first | refine d_seq fun K hK => ?_ | (refine hK _ _ ?_; clear hK K) | (refine SG.p ?_; try intro b)) | refine i_c ?_ ?_ <;> intro hc <;> try simp only [push_cast, seval] at hc | refine i_x ?_ | clear hK K)
          all_goals try (first | contradiction | (simp only [ reduceCtorEq] at *; done) | (exfalso; omega))
          refine i_clq (g78 G Z.sb e) ?_
          repeat' (first | (with_reducible first | refine d_seq fun K hK => ?_ | (refine hK _ _ ?_; clear hK K) | (refine SG.p ?_; try intro b)) | refine i_c ?_ ?_ <;> intro hc <;> try simp only [push_cast, seval] at hc | refine i_x ?_ | clear hK K)
          (with_reducible first | apply i_ret0 | apply i_ret2 | apply i_ret3 | apply i_ret); exact rfl
          rfl
def Lg.add (G : Lg) (s : List UInt8) : (Int × Int) × Lg := if 58 * G.sectors < G.all.length + s.length then ((0, 7), G) else ((((G.all.length + 1 : Nat) : Int), 0), { G with all := G.all ++ s })
theorem g76 (G : Lg) (sb : Nat) (h : G.all.length ≤ 58 * G.sectors) (h2 : G.sectors ≤ 8192) (s : List UInt8) (hs : s.length ≤ 4611686018427387904) : Fq (eT2 eI eI) Tryz.prog 76 #[G.p, str s] [lgp G sb] [lgp (G.add s).2 sb] (G.add s).1 := fun L => by
  unfold Lg.add
  refine c76_fn rfl rfl ?_
  by_cases hq : 58 * G.sectors < G.all.length + s.length
  · rw [if_pos hq]
    repeat' (first | (with_reducible first | refine d_seq fun K hK => ?_ | (refine hK _ _ ?_; clear hK K) | (refine SG.p ?_; try intro b)) | refine i_c ?_ ?_ <;> intro hc <;> try simp only [push_cast, seval] at hc | refine i_x ?_ | clear hK K)
    refine i_clp (g30 G sb h h2) ?_
    repeat' (first | (with_reducible first | refine d_seq fun K hK => ?_ | (refine hK _ _ ?_; clear hK K) | (refine SG.p ?_; try intro b)) | refine i_c ?_ ?_ <;> intro hc <;> try simp only [push_cast, seval] at hc | refine i_x ?_ | clear hK K)
    all_goals try (exfalso; omega)
    (with_reducible first | apply i_ret0 | apply i_ret2 | apply i_ret3 | apply i_ret); exact rfl
    rfl
  · rw [if_neg hq]
    repeat' (first | (with_reducible first | refine d_seq fun K hK => ?_ | (refine hK _ _ ?_; clear hK K) | (refine SG.p ?_; try intro b)) | refine i_c ?_ ?_ <;> intro hc <;> try simp only [push_cast, seval] at hc | refine i_x ?_ | clear hK K)
    refine i_clp (g30 G sb h h2) ?_
    repeat' (first | (with_reducible first | refine d_seq fun K hK => ?_ | (refine hK _ _ ?_; clear hK K) | (refine SG.p ?_; try intro b)) | refine i_c ?_ ?_ <;> intro hc <;> try simp only [push_cast, seval] at hc | refine i_x ?_ | clear hK K)
    all_goals try (exfalso; omega)
    refine i_clp (g28 G sb (by omega)) ?_
    repeat' (first | (with_reducible first | refine d_seq fun K hK => ?_ | (refine hK _ _ ?_; clear hK K) | (refine SG.p ?_; try intro b)) | refine i_c ?_ ?_ <;> intro hc <;> try simp only [push_cast, seval] at hc | refine i_x ?_ | clear hK K)
    (with_reducible first | apply i_ret0 | apply i_ret2 | apply i_ret3 | apply i_ret); exact rfl
    rfl
def Lg.append (G : Lg) (c : Rc) : (Int × Int) × Lg := if G.dead then ((0, 9), G) else if c.frame.2 = 0 then G.add c.frame.1 else ((0, c.frame.2), G)
theorem frame_le (c : Rc) : c.frame.1.length ≤ 4102 := by
  unfold Rc.frame
  have := c.clean.body_le
  split
  · simp only [List.length_append, lowb_len]; omega
  · simp
theorem g20 (G : Lg) (sb : Nat) (h : G.all.length ≤ 58 * G.sectors) (h2 : G.sectors ≤ 8192) (A : HP) (r : api_Rec) (c : Rc) (hr : RcAt A r c) : Fq (eT2 eI eI) Tryz.prog 20 #[G.p, v_api_Rec r] [lgp G sb, A] [lgp (G.append c).2 sb, A] (G.append c).1 := fun L => by
  have O := g75 G sb
  have F := g18 A r c hr
  have hl := frame_le c
  have D := g76 G sb h h2 c.frame.1 (by omega)
  unfold Lg.off at O
  unfold Lg.append
  obtain ⟨k1, k2, k3, k4, k5, k6, k7, k8, k9, k10, k11, k12, k13⟩ := r
  refine c20_fn rfl rfl ?_
  by_cases hd : G.dead = true
  · rw [if_pos hd] at O
    rw [if_pos hd]
    repeat' (first | (with_reducible first | refine d_seq fun K hK => ?_ | (refine hK _ _ ?_; clear hK K) | (refine SG.p ?_; try intro b)) | refine i_c ?_ ?_ <;> intro hc <;> try simp only [push_cast, seval] at hc | refine i_x ?_ | clear hK K)
    refine i_clp O ?_
    repeat' (first | (with_reducible first | refine d_seq fun K hK => ?_ | (refine hK _ _ ?_; clear hK K) | (refine SG.p ?_; try intro b)) | refine i_c ?_ ?_ <;> intro hc <;> try simp only [push_cast, seval] at hc | refine i_x ?_ | clear hK K)
    all_goals try (first | contradiction | (simp only [ reduceCtorEq] at *; done) | (exfalso; omega))
    (with_reducible first | apply i_ret0 | apply i_ret2 | apply i_ret3 | apply i_ret); exact rfl
    rfl
  · rw [if_neg hd] at O
    rw [if_neg hd]
    generalize c.frame = f at *
    obtain ⟨t, e⟩ := f
    dsimp only at D ⊢
    by_cases he : e = 0
    · subst he
      rw [if_pos rfl]
      generalize G.add t = T at *
      obtain ⟨⟨y1, y2⟩, V⟩ := T
      repeat' (first | (with_reducible first | refine d_seq fun K hK => ?_ | (refine hK _ _ ?_; clear hK K) | (refine SG.p ?_; try intro b)) | refine i_c ?_ ?_ <;> intro hc <;> try simp only [push_cast, seval] at hc | refine i_x ?_ | clear hK K)
      refine i_clp O ?_
      repeat' (first | (with_reducible first | refine d_seq fun K hK => ?_ | (refine hK _ _ ?_; clear hK K) | (refine SG.p ?_; try intro b)) | refine i_c ?_ ?_ <;> intro hc <;> try simp only [push_cast, seval] at hc | refine i_x ?_ | clear hK K)
      all_goals try (first | contradiction | (simp only [ reduceCtorEq] at *; done) | (exfalso; omega))
      refine i_ldn (e := e_api_Rec) (x := ⟨k1, k2, k3, k4, k5, k6, k7, k8, k9, k10, k11, k12, k13⟩) rfl rfl rfl ?_
      refine i_clp F ?_
      repeat' (first | (with_reducible first | refine d_seq fun K hK => ?_ | (refine hK _ _ ?_; clear hK K) | (refine SG.p ?_; try intro b)) | refine i_c ?_ ?_ <;> intro hc <;> try simp only [push_cast, seval] at hc | refine i_x ?_ | clear hK K)
      all_goals try (first | contradiction | (simp only [ reduceCtorEq] at *; done) | (exfalso; omega))
      refine i_clq D ?_
      repeat' (first | (with_reducible first | refine d_seq fun K hK => ?_ | (refine hK _ _ ?_; clear hK K) | (refine SG.p ?_; try intro b)) | refine i_c ?_ ?_ <;> intro hc <;> try simp only [push_cast, seval] at hc | refine i_x ?_ | clear hK K)
      (with_reducible first | apply i_ret0 | apply i_ret2 | apply i_ret3 | apply i_ret); exact rfl
      rfl
    · rw [if_neg he]
      repeat' (first | (with_reducible first | refine d_seq fun K hK => ?_ | (refine hK _ _ ?_; clear hK K) | (refine SG.p ?_; try intro b)) | refine i_c ?_ ?_ <;> intro hc <;> try simp only [push_cast, seval] at hc | refine i_x ?_ | clear hK K)
      refine i_clp O ?_
      repeat' (first | (with_reducible first | refine d_seq fun K hK => ?_ | (refine hK _ _ ?_; clear hK K) | (refine SG.p ?_; try intro b)) | refine i_c ?_ ?_ <;> intro hc <;> try simp only [push_cast, seval] at hc | refine i_x ?_ | clear hK K)
      all_goals try (first | contradiction | (simp only [ reduceCtorEq] at *; done) | (exfalso; omega))
      refine i_ldn (e := e_api_Rec) (x := ⟨k1, k2, k3, k4, k5, k6, k7, k8, k9, k10, k11, k12, k13⟩) rfl rfl rfl ?_
      refine i_clp F ?_
      repeat' (first | (with_reducible first | refine d_seq fun K hK => ?_ | (refine hK _ _ ?_; clear hK K) | (refine SG.p ?_; try intro b)) | refine i_c ?_ ?_ <;> intro hc <;> try simp only [push_cast, seval] at hc | refine i_x ?_ | clear hK K)
      all_goals try (first | contradiction | (simp only [ reduceCtorEq] at *; done) | (exfalso; omega))
      (with_reducible first | apply i_ret0 | apply i_ret2 | apply i_ret3 | apply i_ret); exact rfl
      rfl
theorem whl_le (s : List UInt8) : ∀ k a, a ≤ s.length → whl s k a ≤ s.length
  | 0, a, h => h
  | k + 1, a, h => by
    unfold whl
    split
    · rename_i h0
      obtain ⟨m, hm, _, hm2⟩ := opn_step h h0
      rw [hm, Int.toNat_natCast]
      exact whl_le s k _ hm2
    · exact h
theorem whole_le (s : List UInt8) : whole s ≤ s.length := whl_le s _ 0 (by omega)
theorem scn_len (Z : Dk) (base top : Nat) : ∀ k i r, (Z.scn base top k i r).length ≤ 58 * k
  | 0, i, r => by simp [Dk.scn]
  | k + 1, i, r => by
    unfold Dk.scn
    split
    · simp
    · have ih := scn_len Z base top k (i + 1) (be ((Z.get ((base + i : Nat) : Int)).take 4))
      rw [List.length_append, List.length_take]
      split
      · simp only [List.length_nil]; omega
      · omega
def Dk.found (Z : Dk) (q base sectors run : Nat) : Lg := ⟨q, base, sectors, run, (Z.scn base run sectors 0 1).take (whole (Z.scn base run sectors 0 1)), whole (Z.scn base run sectors 0 1), false⟩
theorem found_ok {Z : Dk} {q base sectors run : Nat} (h1 : 1 ≤ sectors) (h2 : base + sectors ≤ Z.sure.length) (h3 : Z.sure.length ≤ 8192) (h4 : 1 ≤ run) (h5 : run < 4294967296) : (Z.found q base sectors run).ok Z.sure.length := by
  have a := whole_le (Z.scn base run sectors 0 1)
  have b := scn_len Z base run sectors 0 1
  refine ⟨h1, h2, h3, h4, h5, ?_, ?_⟩
  · unfold Dk.found
    dsimp only
    rw [List.length_take]
    omega
  · unfold Dk.found
    dsimp only
    rw [List.length_take]
    omega
set_option maxHeartbeats 1000000 in
theorem g17 (Z : Dk) (h : Z.ok) (base sectors run : Int) (w1 : wf64 base) (w2 : wf64 sectors) :
    Fn (eT2 eP eI) Tryz.prog 17 #[.pointer (some ⟨Z.sb, 0, none⟩), .int .i64 base, .int .i64 sectors, .int .i64 run] [dk Z] fun y X =>
      if lchk Z.sure.length base sectors run = 0 then
        (if Z.up then ∃ q b n r : Nat, base = (b : Int) ∧ sectors = (n : Int) ∧ run = (r : Int) ∧ (Z.found q b n r).ok Z.sure.length ∧
          (if (Z.lmend (Z.found q b n r)).1 = 0 then y = (some ⟨q, 0, none⟩, 0) ∧ X = [lgp (Z.lmend (Z.found q b n r)).2.2 Z.sb, dk (Z.lmend (Z.found q b n r)).2.1] else y = (none, (Z.lmend (Z.found q b n r)).1) ∧ X = [dk (Z.lmend (Z.found q b n r)).2.1])
        else y = (none, 9) ∧ X = [dk Z])
      else y = (none, lchk Z.sure.length base sectors run) ∧ X = [dk Z] := fun L => by
  have C := g67 Z h base sectors run w1
  have hn1 := h.n1
  refine c17_fn rfl rfl ?_
  by_cases hc0 : lchk Z.sure.length base sectors run = 0
  · rw [hc0] at C ⊢
    simp only [if_true]
    have hin : 0 ≤ base ∧ 1 ≤ sectors ∧ 1 ≤ run ∧ run < 4294967296 ∧ base + sectors ≤ (Z.sure.length : Int) := by
      unfold lchk at hc0
      split at hc0
      · cases hc0
      · split at hc0
        · cases hc0
        · omega
    obtain ⟨m0, rfl⟩ : ∃ m : Nat, base = (m : Int) := ⟨base.toNat, by omega⟩
    obtain ⟨n, rfl⟩ : ∃ m : Nat, sectors = (m : Int) := ⟨sectors.toNat, by omega⟩
    obtain ⟨r, rfl⟩ : ∃ m : Nat, run = (m : Int) := ⟨run.toNat, by omega⟩
    repeat' (first | (with_reducible first | refine d_seq fun K hK => ?_ | (refine hK _ _ ?_; clear hK K) | (refine SG.p ?_; try intro b)) | refine i_c ?_ ?_ <;> intro hc <;> try simp only [push_cast, seval] at hc | refine i_x ?_ | clear hK K)
    refine i_clp C ?_
    repeat' (first | (with_reducible first | refine d_seq fun K hK => ?_ | (refine hK _ _ ?_; clear hK K) | (refine SG.p ?_; try intro b)) | refine i_c ?_ ?_ <;> intro hc <;> try simp only [push_cast, seval] at hc | refine i_x ?_ | clear hK K)
    all_goals try (first | contradiction | (simp only [ reduceCtorEq] at *; done) | (exfalso; omega))
    have hok0 : (⟨b, m0, n, r, [], 0, false⟩ : Lg).ok Z.sure.length := ⟨by dsimp only; omega, by dsimp only; omega, hn1, by dsimp only; omega, by dsimp only; omega, by simp, by simp⟩
    have hok : (Z.found b m0 n r).ok Z.sure.length := found_ok (by omega) (by omega) hn1 (by omega) (by omega)
    have S := g68 ⟨b, m0, n, r, [], 0, false⟩ Z h hok0
    cases hu : Z.up
    · rw [hu] at S
      simp only [Bool.false_eq_true, if_false] at S
      refine i_cal S ?_
      rintro y X ⟨rfl, rfl⟩
      repeat' (first | (with_reducible first | refine d_seq fun K hK => ?_ | (refine hK _ _ ?_; clear hK K) | (refine SG.p ?_; try intro b)) | refine i_c ?_ ?_ <;> intro hc <;> try simp only [push_cast, seval] at hc | refine i_x ?_ | clear hK K)
      all_goals try (first | contradiction | (simp only [ reduceCtorEq] at *; done) | (exfalso; omega))
      exact i_done (e := eT2 eP eI) (none, 9) [dk Z] rfl (by rw [if_neg (by simp [hu])]; exact ⟨rfl, rfl⟩)
    · rw [hu] at S
      simp only [if_true] at S
      have M := g70 _ Z h hok
      have hlen := scn_len Z m0 r n 0 1
      have hw := whole_le (Z.scn m0 r n 0 1)
      have W := g69 (Z.scn m0 r n 0 1) (by omega)
      have hA : (Z.found b m0 n r).all = (Z.scn m0 r n 0 1).take (whole (Z.scn m0 r n 0 1)) := rfl
      refine i_cal S ?_
      rintro y X ⟨rfl, rfl⟩
      generalize hsc : Z.scn m0 r n 0 1 = sc at *
      repeat' (first | (with_reducible first | refine d_seq fun K hK => ?_ | (refine hK _ _ ?_; clear hK K) | (refine SG.p ?_; try intro b)) | refine i_c ?_ ?_ <;> intro hc <;> try simp only [push_cast, seval] at hc | refine i_x ?_ | clear hK K)
      all_goals try (first | contradiction | (simp only [ reduceCtorEq] at *; done) | (exfalso; omega))
      refine i_clp W ?_
      have ess : ss sc 0 (whole sc : Int) = sc.take (whole sc) := by
        unfold ss
        simp
      have hlt : (sc.take (whole sc)).length = whole sc := by rw [List.length_take]; omega
      repeat' (first | rw [ess] | rw [hlt] | first | (with_reducible first | refine d_seq fun K hK => ?_ | (refine hK _ _ ?_; clear hK K) | (refine SG.p ?_; try intro b)) | refine i_c ?_ ?_ <;> intro hc <;> try simp only [push_cast, seval] at hc | refine i_x ?_ | clear hK K)
      have hfd : Z.found b m0 n r = ⟨b, m0, n, r, sc.take (whole sc), whole sc, false⟩ := by unfold Dk.found; rw [hsc]
      have M' := M
      rw [hfd] at M'
      generalize hR : Z.lmend ⟨b, m0, n, r, sc.take (whole sc), whole sc, false⟩ = R at *
      obtain ⟨e, Y, G'⟩ := R
      dsimp only at M'
      refine i_clq M' ?_
      repeat' (first | (with_reducible first | refine d_seq fun K hK => ?_ | (refine hK _ _ ?_; clear hK K) | (refine SG.p ?_; try intro b)) | refine i_c ?_ ?_ <;> intro hc <;> try simp only [push_cast, seval] at hc | refine i_x ?_ | clear hK K)
      · have he : ¬ e = 0 := by simpa using hc
        exact i_done (e := eT2 eP eI) (none, e) [dk Y] rfl (by rw [if_pos hu]; exact ⟨b, m0, n, r, rfl, rfl, rfl, hok, by rw [hfd, hR]; dsimp only; rw [if_neg he]; exact ⟨rfl, rfl⟩⟩)
      · have he : e = 0 := by simpa using hc
        exact i_done (e := eT2 eP eI) (some ⟨b, 0, none⟩, 0) [lgp G' Z.sb, dk Y] rfl (by rw [if_pos hu]; exact ⟨b, m0, n, r, rfl, rfl, rfl, hok, by rw [hfd, hR]; dsimp only; rw [if_pos he]; exact ⟨rfl, rfl⟩⟩)
  · simp only [hc0, if_false]
    repeat' (first | (with_reducible first | refine d_seq fun K hK => ?_ | (refine hK _ _ ?_; clear hK K) | (refine SG.p ?_; try intro b)) | refine i_c ?_ ?_ <;> intro hc <;> try simp only [push_cast, seval] at hc | refine i_x ?_ | clear hK K)
    refine i_clp C ?_
    repeat' (first | (with_reducible first | refine d_seq fun K hK => ?_ | (refine hK _ _ ?_; clear hK K) | (refine SG.p ?_; try intro b)) | refine i_c ?_ ?_ <;> intro hc <;> try simp only [push_cast, seval] at hc | refine i_x ?_ | clear hK K)
    all_goals try (exfalso; simp at hc; exact hc0 hc)
    all_goals try contradiction
    exact i_done (e := eT2 eP eI) (none, lchk Z.sure.length base sectors run) [dk Z] rfl ⟨rfl, rfl⟩
def Dk.lneed (Z : Dk) (G : Lg) (lsn : Int) : Lr := if G.dead then (9, Z, G) else if lsn < (G.durable : Int) + 1 then (0, Z, G) else Z.lflush G
theorem g40 (G : Lg) (Z : Dk) (h : Z.ok) (hG : G.ok Z.sure.length) (lsn : Int) : Fq eI Tryz.prog 40 #[G.p, .int .i64 lsn] [lgp G Z.sb, dk Z] [lgp (Z.lneed G lsn).2.2 Z.sb, dk (Z.lneed G lsn).2.1] (Z.lneed G lsn).1 := fun L => by
  have hdu := hG.du
  have hle := hG.le
  have hfit := hG.fit
  have hn1 := hG.n1
  have O := g75 G Z.sb
  have D := g29 G Z.sb (by omega)
  have F := g21 G Z h hG
  unfold Lg.off at O
  unfold Dk.lneed
  refine c40_fn rfl rfl ?_
  by_cases hd : G.dead = true
  · rw [if_pos hd] at O
    rw [if_pos hd]
    repeat' (first | (with_reducible first | refine d_seq fun K hK => ?_ | (refine hK _ _ ?_; clear hK K) | (refine SG.p ?_; try intro b)) | refine i_c ?_ ?_ <;> intro hc <;> try simp only [push_cast, seval] at hc | refine i_x ?_ | clear hK K)
    refine i_clp O ?_
    repeat' (first | (with_reducible first | refine d_seq fun K hK => ?_ | (refine hK _ _ ?_; clear hK K) | (refine SG.p ?_; try intro b)) | refine i_c ?_ ?_ <;> intro hc <;> try simp only [push_cast, seval] at hc | refine i_x ?_ | clear hK K)
    all_goals try (first | contradiction | (simp only [ reduceCtorEq] at *; done) | (exfalso; omega))
    (with_reducible first | apply i_ret0 | apply i_ret2 | apply i_ret3 | apply i_ret); exact rfl
    rfl
  · rw [if_neg hd] at O
    rw [if_neg hd]
    by_cases hq : lsn < (G.durable : Int) + 1
    · rw [if_pos hq]
      repeat' (first | (with_reducible first | refine d_seq fun K hK => ?_ | (refine hK _ _ ?_; clear hK K) | (refine SG.p ?_; try intro b)) | refine i_c ?_ ?_ <;> intro hc <;> try simp only [push_cast, seval] at hc | refine i_x ?_ | clear hK K)
      refine i_clp O ?_
      repeat' (first | (with_reducible first | refine d_seq fun K hK => ?_ | (refine hK _ _ ?_; clear hK K) | (refine SG.p ?_; try intro b)) | refine i_c ?_ ?_ <;> intro hc <;> try simp only [push_cast, seval] at hc | refine i_x ?_ | clear hK K)
      all_goals try (first | contradiction | (simp only [ reduceCtorEq] at *; done) | (exfalso; omega))
      refine i_clp D ?_
      repeat' (first | (with_reducible first | refine d_seq fun K hK => ?_ | (refine hK _ _ ?_; clear hK K) | (refine SG.p ?_; try intro b)) | refine i_c ?_ ?_ <;> intro hc <;> try simp only [push_cast, seval] at hc | refine i_x ?_ | clear hK K)
      all_goals try (exfalso; omega)
      (with_reducible first | apply i_ret0 | apply i_ret2 | apply i_ret3 | apply i_ret); exact rfl
      rfl
    · rw [if_neg hq]
      generalize Z.lflush G = T at *
      obtain ⟨e, Y, V⟩ := T
      dsimp only at F ⊢
      repeat' (first | (with_reducible first | refine d_seq fun K hK => ?_ | (refine hK _ _ ?_; clear hK K) | (refine SG.p ?_; try intro b)) | refine i_c ?_ ?_ <;> intro hc <;> try simp only [push_cast, seval] at hc | refine i_x ?_ | clear hK K)
      refine i_clp O ?_
      repeat' (first | (with_reducible first | refine d_seq fun K hK => ?_ | (refine hK _ _ ?_; clear hK K) | (refine SG.p ?_; try intro b)) | refine i_c ?_ ?_ <;> intro hc <;> try simp only [push_cast, seval] at hc | refine i_x ?_ | clear hK K)
      all_goals try (first | contradiction | (simp only [ reduceCtorEq] at *; done) | (exfalso; omega))
      refine i_clp D ?_
      repeat' (first | (with_reducible first | refine d_seq fun K hK => ?_ | (refine hK _ _ ?_; clear hK K) | (refine SG.p ?_; try intro b)) | refine i_c ?_ ?_ <;> intro hc <;> try simp only [push_cast, seval] at hc | refine i_x ?_ | clear hK K)
      all_goals try (exfalso; omega)
      refine i_clq F ?_
      repeat' (first | (with_reducible first | refine d_seq fun K hK => ?_ | (refine hK _ _ ?_; clear hK K) | (refine SG.p ?_; try intro b)) | refine i_c ?_ ?_ <;> intro hc <;> try simp only [push_cast, seval] at hc | refine i_x ?_ | clear hK K)
      (with_reducible first | apply i_ret0 | apply i_ret2 | apply i_ret3 | apply i_ret); exact rfl
      rfl
def Lg.read (G : Lg) (lsn : Int) : Rc × Int × Int := if lsn < 1 ∨ (G.all.length : Int) < lsn then (Rc.z 0, 0, 8) else if (opn G.all (lsn - 1)).2.2 = 0 then ((opn G.all (lsn - 1)).1, lsn + (opn G.all (lsn - 1)).2.1, 0) else (Rc.z 0, 0, (opn G.all (lsn - 1)).2.2)
set_option maxHeartbeats 1000000 in
theorem g35 (G : Lg) (sb : Nat) (hl : G.all.length ≤ 1000000) (lsn : Int) : Fn (eT3 e_api_Rec eI eI) Tryz.prog 35 #[G.p, .int .i64 lsn] [lgp G sb] fun y X => ∃ A : HP, X = [A, lgp G sb] ∧ RcAt A y.1 (G.read lsn).1 ∧ y.2 = (G.read lsn).2 := fun L => by
  refine c35_fn rfl rfl ?_
  generalize hB' : G.read lsn = B
  have hB := hB'
  unfold Lg.read at hB
  by_cases h1 : lsn < 1 ∨ (G.all.length : Int) < lsn
  · rw [if_pos h1] at hB
    refine r_nilow 123 2 ?_
    obtain ⟨A, hA⟩ : ∃ A, A = ow 123 2 (none, 0, 0) [] := ⟨_, rfl⟩
    rw [← hA]
    repeat' (first | (with_reducible first | refine d_seq fun K hK => ?_ | (refine hK _ _ ?_; clear hK K) | (refine SG.p ?_; try intro b)) | refine i_c ?_ ?_ <;> intro hc <;> try simp only [push_cast, seval] at hc | refine i_x ?_ | clear hK K)
    refine i_clp (g83 G sb) ?_
    repeat' (first | (with_reducible first | refine d_seq fun K hK => ?_ | (refine hK _ _ ?_; clear hK K) | (refine SG.p ?_; try intro b)) | refine i_c ?_ ?_ <;> intro hc <;> try simp only [push_cast, seval] at hc | refine i_x ?_ | clear hK K)
    all_goals try (exfalso; omega)
    all_goals try contradiction
    all_goals (refine i_ldn (e := e_api_Rec) (x := ⟨0, 0, 0, 0, 0, [], [], [], 0, (none, 0, 0), (none, 0, 0), 0, 0⟩) rfl rfl rfl ?_); exact i_done (e := eT3 e_api_Rec eI eI) (⟨0, 0, 0, 0, 0, [], [], [], 0, (none, 0, 0), (none, 0, 0), 0, 0⟩, 0, 8) [A, lgp G sb] rfl ⟨A, rfl, (by rw [← hB]; exact RcAt_z A 0), (by rw [← hB])⟩
  · rw [if_neg h1] at hB
    have O := g26 G.all (lsn - 1) (by omega)
    have hst : (opn G.all (lsn - 1)).2.2 = 0 → ∃ m : Nat, (opn G.all (lsn - 1)).2.1 = (m : Int) ∧ 7 ≤ m ∧ m ≤ G.all.length := fun h0 => by
      obtain ⟨a, ha⟩ : ∃ a : Nat, lsn - 1 = (a : Int) := ⟨(lsn - 1).toNat, by omega⟩
      rw [ha] at h0 ⊢
      obtain ⟨m, m1, m2, m3⟩ := opn_step (by omega) h0
      exact ⟨m, m1, m2, by omega⟩
    generalize opn G.all (lsn - 1) = o at *
    obtain ⟨c, n, e⟩ := o
    dsimp only at O hB hst
    have ew : IntKind.wrap .i64 (lsn - 1) = lsn - 1 := w64 (by omega) (by omega)
    repeat' (first | (with_reducible first | refine d_seq fun K hK => ?_ | (refine hK _ _ ?_; clear hK K) | (refine SG.p ?_; try intro b)) | refine i_c ?_ ?_ <;> intro hc <;> try simp only [push_cast, seval] at hc | refine i_x ?_ | clear hK K)
    refine i_clp (g83 G sb) ?_
    repeat' (first | rw [ew] | first | (with_reducible first | refine d_seq fun K hK => ?_ | (refine hK _ _ ?_; clear hK K) | (refine SG.p ?_; try intro b)) | refine i_c ?_ ?_ <;> intro hc <;> try simp only [push_cast, seval] at hc | refine i_x ?_ | clear hK K)
    all_goals try (exfalso; omega)
    all_goals try contradiction
    refine i_cal O ?_
    rintro ⟨⟨k1, k2, k3, k4, k5, k6, k7, k8, k9, k10, k11, k12, k13⟩, y⟩ X ⟨A, rfl, hr, he⟩
    dsimp only at hr he
    subst he
    by_cases e2 : e = 0
    · subst e2
      rw [if_pos rfl] at hB
      obtain ⟨m, rfl, m1, m2⟩ := hst rfl
      have ew2 : IntKind.wrap .i64 (lsn + (m : Int)) = lsn + (m : Int) := w64 (by omega) (by omega)
      repeat' (first | (with_reducible first | refine d_seq fun K hK => ?_ | (refine hK _ _ ?_; clear hK K) | (refine SG.p ?_; try intro b)) | refine i_c ?_ ?_ <;> intro hc <;> try simp only [push_cast, seval] at hc | refine i_x ?_ | clear hK K)
      all_goals try (first | contradiction | (simp only [ reduceCtorEq] at *; done) | (exfalso; omega))
      rw [ew2]
      refine i_ldn (e := e_api_Rec) (x := ⟨k1, k2, k3, k4, k5, k6, k7, k8, k9, k10, k11, k12, k13⟩) rfl rfl rfl ?_
      repeat' (first | (with_reducible first | refine d_seq fun K hK => ?_ | (refine hK _ _ ?_; clear hK K) | (refine SG.p ?_; try intro b)) | refine i_c ?_ ?_ <;> intro hc <;> try simp only [push_cast, seval] at hc | refine i_x ?_ | clear hK K)
      refine i_ldn (e := e_api_Rec) (x := ⟨k1, k2, k3, k4, k5, k6, k7, k8, k9, k10, k11, k12, k13⟩) rfl rfl rfl ?_
      exact i_done (e := eT3 e_api_Rec eI eI) (⟨k1, k2, k3, k4, k5, k6, k7, k8, k9, k10, k11, k12, k13⟩, lsn + (m : Int), 0) [A, lgp G sb] rfl ⟨A, rfl, (by rw [← hB]; exact hr), (by rw [← hB])⟩
    · rw [if_neg e2] at hB
      repeat' (first | (with_reducible first | refine d_seq fun K hK => ?_ | (refine hK _ _ ?_; clear hK K) | (refine SG.p ?_; try intro b)) | refine i_c ?_ ?_ <;> intro hc <;> try simp only [push_cast, seval] at hc | refine i_x ?_ | clear hK K)
      all_goals try (first | contradiction | (simp only [ reduceCtorEq] at *; done) | (exfalso; omega))
      (refine i_ldn (e := e_api_Rec) (x := ⟨0, 0, 0, 0, 0, [], [], [], 0, (none, 0, 0), (none, 0, 0), 0, 0⟩) rfl rfl rfl ?_); exact i_done (e := eT3 e_api_Rec eI eI) (⟨0, 0, 0, 0, 0, [], [], [], 0, (none, 0, 0), (none, 0, 0), 0, 0⟩, 0, e) [A, lgp G sb] rfl ⟨A, rfl, (by rw [← hB]; exact RcAt_z A 0), (by rw [← hB])⟩
theorem lflush_ok {Z : Dk} (h : Z.ok) {G : Lg} (hG : G.ok Z.sure.length) : (Z.lflush G).2.1.ok ∧ (Z.lflush G).2.1.sb = Z.sb ∧ (Z.lflush G).2.1.sure.length = Z.sure.length ∧ (Z.lflush G).2.2.ok Z.sure.length ∧ (Z.lflush G).2.2.q = G.q := by
  have hdn : ∀ e, (G.down e).ok Z.sure.length ∧ (G.down e).q = G.q := fun e => by
    unfold Lg.down
    split
    · exact ⟨hG, rfl⟩
    · exact ⟨⟨hG.s1, hG.fit, hG.n1, hG.r1, hG.r2, hG.du, hG.le⟩, rfl⟩
  obtain ⟨a1, a2, a3⟩ := lws_ok G (G.sectors + 1) (G.durable / 58) h
  unfold Dk.lflush
  split
  · exact ⟨h, rfl, rfl, hG, rfl⟩
  · split
    · exact ⟨h, rfl, rfl, hG, rfl⟩
    · dsimp only
      split
      · split
        · exact ⟨Dk.sync_ok a1, (Dk.sync_sb _).trans a2, (Dk.sync_n _).trans a3, ⟨hG.s1, hG.fit, hG.n1, hG.r1, hG.r2, Nat.le_refl _, hG.le⟩, rfl⟩
        · exact ⟨Dk.sync_ok a1, (Dk.sync_sb _).trans a2, (Dk.sync_n _).trans a3, (hdn _).1, (hdn _).2⟩
      · exact ⟨a1, a2, a3, (hdn _).1, (hdn _).2⟩
theorem Rs.wide {A B : HP} {s : SlV} {sz : Nat} {cs : List Value} (h : Rs A s sz cs) (w : ∀ x, B x → ∃ a, sub a x ∧ A a) : Rs B s sz cs :=
  ⟨h.1, h.2.1, fun a ha x hx j v hj => by
    obtain ⟨y, hy, hA⟩ := w x hx
    exact pc_sub hy (h.2.2 a ha y hA j v hj)⟩
theorem RcAt.wide {A B : HP} {r : api_Rec} {c : Rc} (h : RcAt A r c) (w : ∀ x, B x → ∃ a, sub a x ∧ A a) : RcAt B r c := ⟨h.e, h.i.wide w, h.t.wide w, h.li, h.lt⟩
theorem two1 {A S : HP} : ∀ x, HS [A, S] x → ∃ a, sub a x ∧ A a := fun x ⟨a, b, d, sa, sb, pa, pb⟩ => ⟨a, sa, pa⟩
theorem two2 {A S : HP} : ∀ x, HS [A, S] x → ∃ a, sub a x ∧ S a := fun x ⟨a, b, d, sa, sb, pa, ⟨c, e, d2, sc, se, pc, pe⟩⟩ => ⟨c, sc.trans sb, pc⟩
structure RL (S : HP) (rs : List api_Rec) (cs : List Rc) : Prop where
  n : rs.length = cs.length
  g : ∀ (i : Nat) (r : api_Rec) (c : Rc), rs[i]? = some r → cs[i]? = some c → RcAt S r c
theorem RL.snoc {A S : HP} {rs : List api_Rec} {cs : List Rc} {r : api_Rec} {c : Rc} (h : RL S rs cs) (hr : RcAt A r c) : RL (HS [A, S]) (rs ++ [r]) (cs ++ [c]) := by
  refine ⟨by rw [List.length_append, List.length_append, h.n]; rfl, fun i r' c' h1 h2 => ?_⟩
  rcases Nat.lt_or_ge i rs.length with hi | hi
  · rw [List.getElem?_append_left hi] at h1
    rw [List.getElem?_append_left (by rw [← h.n]; exact hi)] at h2
    exact (h.g i r' c' h1 h2).wide two2
  · rw [List.getElem?_append_right hi] at h1
    rw [List.getElem?_append_right (by rw [← h.n]; exact hi)] at h2
    have e : i - rs.length = 0 := by
      rcases Nat.eq_zero_or_pos (i - rs.length) with h0 | h0
      · exact h0
      · rw [List.getElem?_eq_none (by simp; omega)] at h1; cases h1
    rw [e] at h1
    rw [← h.n, e] at h2
    simp only [List.getElem?_cons_zero, Option.some.injEq] at h1 h2
    subst h1 h2
    exact hr.wide two1
def frl (s : List UInt8) (most : Int) : Nat → Nat → List UInt8 × Int
  | 0, a => (s.take a, 0)
  | k + 1, a => if (opn s (a : Int)).2.2 = 0 then (if 0 < a ∧ most - (a : Int) < (opn s (a : Int)).2.1 then (s.take a, 0) else frl s most k (a + (opn s (a : Int)).2.1.toNat))
    else if a = 0 ∧ 0 < s.length then ([], 4) else (s.take a, 0)
def Lg.from (G : Lg) (lsn most : Int) : List UInt8 × Int :=
  if lsn < 1 ∨ (G.durable : Int) + 1 < lsn then ([], 6) else
  (fun s : List UInt8 => frl s (if most < 0 then 0 else most) (s.length + 1) 0) ((G.all.take G.durable).drop (lsn - 1).toNat)
def cm (n : Int) : Rc := { Rc.z 7 with txn := n, prev := 1 }
theorem cm_at (A : HP) (n : Int) : RcAt A ⟨7, n, 1, 0, 0, [], [], [], 0, (none, 0, 0), (none, 0, 0), 0, 0⟩ (cm n) := ⟨rfl, Rs_nil, Rs_nil, by simp [cm, Rc.z], by simp [cm, Rc.z]⟩
theorem cm_frame {n : Int} (h : fitN n 6) : ∃ f, (cm n).frame = (f, 0) ∧ f.length = 19 := by
  have hc : (cm n).clean = cm n := rfl
  have p1 : fitN 7 1 := ⟨by decide, by decide⟩
  have p6 : fitN 1 6 := ⟨by decide, by decide⟩
  have hb : (cm n).body = (lowb 7 1 ++ lowb n 6 ++ lowb 1 6, 0) := by
    have e : (cm n).body = bfin (layN (layN (layN ([], 0) 7 1) n 6) 1 6) 0 := rfl
    rw [e, layN_go p1, layN_go h, layN_go p6]
    unfold bfin
    rw [if_pos rfl, if_pos rfl, if_neg (by simp only [List.length_append, lowb_len, List.length_nil]; omega)]
    simp
  refine ⟨_, by unfold Rc.frame; rw [hc, hb, if_pos rfl], ?_⟩
  simp only [List.length_append, lowb_len]
end Go.Sp
namespace Go.Sp
open Go
set_option maxRecDepth 100000
set_option linter.unusedVariables false
open Go.Proofs
variable (K : Env → W) (k : Value → W) {e : Enc} {args : Array Value} {G : e.α → W} {L : List HP} {ρ : Env}
attribute [local instance] cI cB cP cA
end Go.Sp
namespace Go.Sp
open Go Go.Proofs
set_option linter.unusedSimpArgs false
set_option linter.unusedVariables false
set_option maxRecDepth 10000
def few (c : Rc) : Rc := { c with imgs := c.imgs.take 2, tbl := c.tbl.take 3 }
theorem calm_get {Z : Dk} {sb n : Nat} (h : Z.calm sb n) {i : Nat} (hi : i < n) {s : List UInt8} (hs : s.length ≤ 64) (j : Nat) : (Z.write (i : Int) s).2.get (j : Int) = if i = j then wh s else Z.get (j : Int) := by
  obtain ⟨_, _, w3, _, w5⟩ := h.write hi hs
  unfold Dk.get
  rw [w5, w3]
  by_cases e : i = j
  · subst e
    rw [if_pos rfl, if_pos rfl]
    rfl
  · rw [if_neg (by omega), if_neg e]
theorem sec_len (G : Lg) (i : Nat) : (G.sec i).length ≤ 64 := by
  have := part_le G.all i
  unfold Lg.sec
  simp only [List.length_append, lowb_len]
  omega
theorem lw_calm {Z : Dk} {sb n : Nat} (h : Z.calm sb n) {G : Lg} (hG : G.ok n) (i : Nat) : (Z.lw G i).1 = 0 ∧ (Z.lw G i).2.calm sb n ∧ ∀ j : Nat, (Z.lw G i).2.get (j : Int) = if i < G.sectors ∧ j = G.base + i then wh (G.sec i) else Z.get (j : Int) := by
  have hfit := hG.fit
  unfold Dk.lw
  by_cases h1 : G.sectors ≤ i
  · rw [if_pos h1]
    exact ⟨rfl, h, fun j => by rw [if_neg (by omega)]⟩
  · rw [if_neg h1]
    obtain ⟨w1, w2, _⟩ := h.write (i := G.base + i) (by omega) (sec_len G i)
    refine ⟨w1, w2, fun j => ?_⟩
    rw [calm_get h (by omega) (sec_len G i)]
    by_cases hj : G.base + i = j
    · rw [if_pos hj, if_pos ⟨by omega, hj.symm⟩]
    · rw [if_neg hj, if_neg (by omega)]
theorem lws_calm {sb n : Nat} {G : Lg} (hG : G.ok n) : ∀ (k i : Nat) {Z : Dk}, Z.calm sb n → G.sectors + 1 ≤ k + i → (lws G k i Z).1 = 0 ∧ (lws G k i Z).2.calm sb n ∧ ∀ j : Nat, (lws G k i Z).2.get (j : Int) = if G.base + i ≤ j ∧ 58 * (j - G.base) < G.all.length then wh (G.sec (j - G.base)) else Z.get (j : Int)
  | 0, i, Z, h, hk => by
    have := hG.le
    refine ⟨rfl, h, fun j => ?_⟩
    rw [if_neg (by omega)]
    rfl
  | k + 1, i, Z, h, hk => by
    have hle := hG.le
    by_cases hi : 58 * i < G.all.length
    · obtain ⟨a1, a2, a3⟩ := lw_calm h hG i
      obtain ⟨b1, b2, b3⟩ := lws_calm hG k (i + 1) a2 (by omega)
      have e : lws G (k + 1) i Z = lws G k (i + 1) (Z.lw G i).2 := by
        show (if 58 * i < G.all.length then _ else _) = _
        rw [if_pos hi, if_pos a1]
      rw [e]
      refine ⟨b1, b2, fun j => ?_⟩
      rw [b3, a3]
      by_cases hj : j = G.base + i
      · rw [if_neg (by omega), if_pos ⟨by omega, hj⟩, if_pos ⟨by omega, by rw [hj, Nat.add_sub_cancel_left]; exact hi⟩, hj, Nat.add_sub_cancel_left]
      · by_cases hm : G.base + (i + 1) ≤ j ∧ 58 * (j - G.base) < G.all.length
        · rw [if_pos hm, if_pos ⟨by omega, hm.2⟩]
        · rw [if_neg hm, if_neg (by omega), if_neg (by omega)]
    · have e : lws G (k + 1) i Z = (0, Z) := by
        show (if 58 * i < G.all.length then _ else _) = _
        rw [if_neg hi]
      rw [e]
      refine ⟨rfl, h, fun j => ?_⟩
      rw [if_neg (by omega)]
def secb (r : Nat) (p : List UInt8) : List UInt8 := lowb (r : Int) 4 ++ lowb (p.length : Int) 2 ++ p
theorem sec_b (G : Lg) (i : Nat) : G.sec i = secb G.run (part G.all i) := rfl
def at4 (v : List UInt8) : Nat := be (v.take 4)
def n2 (v : List UInt8) : Nat := be ((v.drop 4).take 2)
theorem secb_rd {r : Nat} {p : List UInt8} (hr : r < 4294967296) (hp : p.length ≤ 58) : at4 (wh (secb r p)) = r ∧ n2 (wh (secb r p)) = p.length ∧ ((wh (secb r p)).drop 6).take p.length = p := by
  have l4 := lowb_len (r : Int) 4
  have l2 := lowb_len (p.length : Int) 2
  have e : wh (secb r p) = lowb (r : Int) 4 ++ (lowb (p.length : Int) 2 ++ (p ++ List.replicate (64 - (secb r p).length) 0)) := by
    unfold wh secb
    simp
  have b4 : be (lowb (r : Int) 4) = r := nat_eq (be_fits (by omega) (by rw [show ((256 ^ 4 : Nat) : Int) = 4294967296 by decide]; omega))
  have b2 : be (lowb (p.length : Int) 2) = p.length := nat_eq (be_fits (by omega) (by rw [show ((256 ^ 2 : Nat) : Int) = 65536 by decide]; omega))
  generalize List.replicate (64 - (secb r p).length) (0 : UInt8) = Y at e
  unfold at4 n2
  rw [e]
  refine ⟨by rw [List.take_left' l4, b4], by rw [List.drop_left' l4, List.take_left' l2, b2], ?_⟩
  have e2 : (lowb (r : Int) 4 ++ (lowb (p.length : Int) 2 ++ (p ++ Y))).drop 6 = p ++ Y := by
    rw [← List.append_assoc]
    exact List.drop_left' (by rw [List.length_append, l4, l2])
  rw [e2]
  exact List.take_left' rfl
def prv (ρ : Nat → Nat) (i : Nat) : Nat := if i = 0 then 1 else ρ (i - 1)
structure Tells (Z : Dk) (base S : Nat) (all : List UInt8) (ρ : Nat → Nat) : Prop where
  secs : ∀ m, 58 * m < all.length → m < S → Z.get ((base + m : Nat) : Int) = wh (secb (ρ m) (part all m))
  mono : ∀ m, prv ρ m ≤ ρ m
  lt : ∀ m, ρ m < 4294967296
  stop : ∀ m, m < S → 58 * m = all.length → at4 (Z.get ((base + m : Nat) : Int)) < prv ρ m ∨ n2 (Z.get ((base + m : Nat) : Int)) = 0
  le : all.length ≤ 58 * S
theorem part_len (all : List UInt8) (i : Nat) : (part all i).length = min 58 (all.length - 58 * i) := by
  unfold part
  rw [List.length_take, List.length_drop]
def Frs (fs : List (List UInt8)) : Prop := ∀ f ∈ fs, ∃ c : Rc, c.short ∧ c.frame = (f, 0)
theorem whl_frs : ∀ (fs : List (List UInt8)) (s : List UInt8) (Y : List UInt8) (k a : Nat), Frs fs → a ≤ s.length → s.drop a = fs.flatten ++ Y → (opn0 Y).2.2 ≠ 0 → fs.length < k → whl s k a = a + fs.flatten.length
  | [], s, Y, k + 1, a, _, ha, hd, hY, _ => by
    unfold whl
    rw [opn_nat ha, hd]
    simp only [List.flatten_nil, List.nil_append, List.length_nil, Nat.add_zero]
    rw [if_neg hY]
  | f :: fs, s, Y, k + 1, a, hf, ha, hd, hY, hk => by
    obtain ⟨c, hs, hc⟩ := hf f (by simp)
    have e : s.drop a = f ++ (fs.flatten ++ Y) := by rw [hd]; simp
    have hl := congrArg List.length e
    rw [List.length_drop, List.length_append] at hl
    unfold whl
    rw [opn_nat ha, e, opn0_frame hs hc]
    dsimp only
    rw [if_pos rfl, Int.toNat_natCast]
    have e2 : s.drop (a + f.length) = fs.flatten ++ Y := by
      rw [← List.drop_drop, e]
      exact List.drop_left' rfl
    rw [whl_frs fs s Y k (a + f.length) (fun g hg => hf g (by simp [hg])) (by omega) e2 hY (by simp only [List.length_cons] at hk; omega)]
    simp only [List.flatten_cons, List.length_append]
    omega
theorem opn0_nil : (opn0 []).2.2 ≠ 0 := by decide
end Go.Sp
namespace Go.Sp
open Go
inductive Ln
  | f (l : Lf)
  | sl (sz : Nat) (ks : List Lf)
section
variable {H : Type} {enc : TypeId × Value → H} {P : Program} {w : World} {base : Nat} {spare : Nat → Bool} {held : Bool}
end
end Go.Sp
namespace Go.Sp
open Go
section
variable {α : Type} {cel : α → List Value} {sz : Nat}
theorem fset (hc : ∀ x, (cel x).length = sz) : ∀ (xs : List α) (i : Nat) (x x' : α) (_ : xs[i]? = some x) (j : Nat) (v : Value) (_ : j < sz) (_ : cel x' = (cel x).set j v), (xs.flatMap cel).set (i * sz + j) v = (xs.set i x').flatMap cel
  | y :: r, 0, x, x', hx, j, v, hj, he => by
    simp only [List.getElem?_cons_zero, Option.some.injEq] at hx
    subst hx
    simp only [Nat.zero_mul, Nat.zero_add, List.flatMap_cons, List.set_cons_zero]
    rw [List.set_append_left _ _ (by rw [hc]; exact hj), he]
  | y :: r, i + 1, x, x', hx, j, v, hj, he => by
    simp only [List.getElem?_cons_succ] at hx
    have ih := fset hc r i x x' hx j v hj he
    simp only [List.flatMap_cons, List.set_cons_succ]
    rw [List.set_append_right _ _ (by rw [hc, Nat.add_mul]; omega), hc, ← ih]
    congr 2
    rw [Nat.add_mul]; omega
  | [], i, x, x', hx, _, _, _, _ => by simp at hx
theorem flt (hc : ∀ x, (cel x).length = sz) {xs : List α} {i : Nat} {x : α} (hx : xs[i]? = some x) {j : Nat} (hj : j < sz) : i * sz + j < (xs.flatMap cel).length := by
  have hi : i < xs.length := by
    rcases Nat.lt_or_ge i xs.length with h' | h'
    · exact h'
    · rw [List.getElem?_eq_none h'] at hx; cases hx
  have hle : (i + 1) * sz ≤ xs.length * sz := Nat.mul_le_mul_right _ hi
  rw [Nat.add_mul] at hle
  rw [flat_len hc]
  omega
variable {L R : List HP} {b : Nat} {t : TypeId} {xs : List α} {i : Nat} {x : α}
theorem i_fl {e : Enc} {k : e.α → W} {y : e.α} [h : A1 L b t (xs.flatMap cel) R] (hc : ∀ x, (cel x).length = sz) (hx : xs[i]? = some x) {j : Nat} (hv : (cel x)[j]? = some (e.enc y)) (hk : E L (k y)) : E L (ld e ⟨b, i * sz + j, none⟩ k) := i_ld (flat_get hc xs i x hx j _ hv) hk
theorem i_flq {L' : List HP} {e : Enc} {k : e.α → W} {y : e.α} [h : A1 L' b t (xs.flatMap cel) R] (hc : ∀ x, (cel x).length = sz) (hx : xs[i]? = some x) {j : Nat} (hv : (cel x)[j]? = some (e.enc y)) (hk : E L (k y)) : E L (ldq (HW L') e ⟨b, i * sz + j, none⟩ k) := i_ldq (flat_get hc xs i x hx j _ hv) hk
theorem i_fs {k : W} {v : Value} [h : A1 L b t (xs.flatMap cel) R] (hc : ∀ x, (cel x).length = sz) (hx : xs[i]? = some x) (x' : α) {j : Nat} (hj : Nat.blt j sz = true) (he : cel x' = (cel x).set j v) (hv : one v = true) (hk : E (ar b t ((xs.set i x').flatMap cel) :: R) k) : E L (st ⟨b, i * sz + j, none⟩ v k) := by
  have hj' : j < sz := Nat.le_of_ble_eq_true hj
  have h1 := fset hc xs i x x' hx j v hj' he
  refine i_st (flt hc hx hj') hv ?_
  rw [h1]
  exact hk
theorem i_fl0q {L' : List HP} {e : Enc} {k : e.α → W} {y : e.α} [h : A1 L' b t (xs.flatMap cel) R] (hc : ∀ x, (cel x).length = sz) (hx : xs[i]? = some x) (hv : (cel x)[0]? = some (e.enc y)) (hk : E L (k y)) : E L (ldq (HW L') e ⟨b, i * sz, none⟩ k) := i_flq (j := 0) hc hx hv hk
theorem i_fs0 {k : W} {v : Value} [h : A1 L b t (xs.flatMap cel) R] (hc : ∀ x, (cel x).length = sz) (hx : xs[i]? = some x) (x' : α) (hj : Nat.blt 0 sz = true) (he : cel x' = (cel x).set 0 v) (hv : one v = true) (hk : E (ar b t ((xs.set i x').flatMap cel) :: R) k) : E L (st ⟨b, i * sz, none⟩ v k) := i_fs (j := 0) hc hx x' hj he hv hk
theorem spl_app (a l r : List Value) : ∀ (vs : List Value) (n : Nat), l.length = n + vs.length → spl (a ++ l ++ r) (a.length + n) vs = a ++ (l.take n ++ vs) ++ r
  | [], n, h => by
    have : l.take n = l := List.take_of_length_le (by simpa using Nat.le_of_eq h)
    rw [this, List.append_nil]
    rfl
  | v :: vs, n, h => by
    have h' : n < l.length := by rw [h]; simp
    show spl ((a ++ l ++ r).set (a.length + n) v) (a.length + n + 1) vs = _
    have e : (a ++ l ++ r).set (a.length + n) v = a ++ l.set n v ++ r := by
      rw [List.append_assoc, List.set_append_right _ _ (by omega), Nat.add_sub_cancel_left, List.set_append_left _ _ h', List.append_assoc]
    rw [e, Nat.add_assoc, spl_app a (l.set n v) r vs (n + 1) (by rw [List.length_set]; simp at h; omega)]
    have e2 : (l.set n v).take (n + 1) = l.take n ++ [v] := by
      rw [List.take_add_one, List.take_set_of_le (Nat.le_refl _)]
      simp [h']
    rw [e2]
    simp
theorem i_fsl {k : W} {vs : List Value} [h : A1 L b t (xs.flatMap cel) R] (hc : ∀ x, (cel x).length = sz) (hx : xs[i]? = some x) (x' : α) (he : cel x' = vs) (hv : vs.all one = true) (hk : E (ar b t ((xs.set i x').flatMap cel) :: R) k) : E L (stl vs ⟨b, i * sz, none⟩ 0 k) := by
  have hi : i < xs.length := by
    rcases Nat.lt_or_ge i xs.length with h' | h'
    · exact h'
    · rw [List.getElem?_eq_none h'] at hx; cases hx
  have hl : vs.length = sz := by rw [← he]; exact hc x'
  have hle : (i + 1) * sz ≤ xs.length * sz := Nat.mul_le_mul_right _ hi
  rw [Nat.add_mul] at hle
  refine i_stl (by rw [flat_len hc]; omega) hv ?_
  have ex : xs = xs.take i ++ x :: xs.drop (i + 1) := by
    have e1 := List.drop_eq_getElem_cons hi
    rw [List.getElem?_eq_getElem hi] at hx
    rw [Option.some.inj hx] at e1
    rw [← e1, List.take_append_drop]
  have e : spl (xs.flatMap cel) (i * sz) vs = (xs.set i x').flatMap cel := by
    have hlen : ((xs.take i).flatMap cel).length = i * sz := by rw [flat_len hc, List.length_take, Nat.min_eq_left (by omega)]
    have h1 : xs.flatMap cel = (xs.take i).flatMap cel ++ cel x ++ (xs.drop (i + 1)).flatMap cel := by
      conv => lhs; rw [ex]
      simp
    have h2 : xs.set i x' = xs.take i ++ x' :: xs.drop (i + 1) := List.set_eq_take_append_cons_drop .. |>.trans (if_pos hi)
    have h3 := spl_app ((xs.take i).flatMap cel) (cel x) ((xs.drop (i + 1)).flatMap cel) vs 0 (by rw [hc]; omega)
    rw [hlen, List.take_zero, List.nil_append, show i * sz + 0 = i * sz from rfl] at h3
    rw [h1, h3, h2, ← he]
    simp
  rw [e]
  exact hk
end
end Go.Sp
namespace Go.Sp
open Go
set_option maxRecDepth 100000
set_option linter.unusedVariables false
open Go.Proofs
variable (K : Env → W) (k : Value → W) {e : Enc} {args : Array Value} {G : e.α → W} {L : List HP} {ρ : Env}
attribute [local instance] cI cB cP cA
noncomputable def c42 := cf Tryz.f42 28 [(0, [0, 1, 2]), (1, [0, 1, 2]), (2, []), (3, [0, 1, 2])] [(0, [0, 1, 2]), (1, [0, 1, 2, 21]), (2, [6, 7]), (3, [6, 7]), (1000000, [6, 7])] [] []
@[go_sem] theorem c42_i : c42.li 0 = [0, 1, 2] ∧ c42.li 1 = [0, 1, 2] ∧ c42.li 2 = [] ∧ c42.li 3 = [0, 1, 2] := ⟨rfl, rfl, rfl, rfl⟩
@[go_sem] theorem c42_r0 (v0 v1 : Option Addr) (v2 : Int) : RP c42 0 [(0, v0), (1, v1), (2, v2)] K =
 (K [(0, v0), (1, v1), (2, v2)]) := by kernel_rfl
@[go_sem] theorem c42_r1 (v0 v1 : Option Addr) (v2 : Int) : RP c42 1 [(0, v0), (1, v1), (2, v2)] K =
 (cnd (v0.isNone) (K [(0, v0), (1, v1), (2, v2), (21, true)]) (cnd (v1.isNone) (K [(0, v0), (1, v1), (2, v2), (21, true)]) (cnd (decide (v2 < 2)) (K [(0, v0), (1, v1), (2, v2), (21, true)]) (K [(0, v0), (1, v1), (2, v2), (21, decide (64 < v2))])))) := by kernel_rfl
@[go_sem] theorem c42_r2 : RP c42 2 [] K =
 (K [(6, .pointer none), (7, .int .i64 1)]) := by kernel_rfl
@[go_sem] theorem c42_r3 (v0 v1 : Option Addr) (v2 : Int) : RP c42 3 [(0, v0), (1, v1), (2, v2)] K =
 (val eSl Tryz.prog (oMake 94 (v2) (v2)) fun (y1_ : (Option Addr × Nat × Nat)) => (nwc #[.pointer ((⟨v0, v1, (y1_.1, y1_.2.1, y1_.2.2), (0 : Int), (0 : Int), (0 : Int)⟩ : pool_Pool).store), .pointer ((⟨v0, v1, (y1_.1, y1_.2.1, y1_.2.2), (0 : Int), (0 : Int), (0 : Int)⟩ : pool_Pool).log), .slice (((⟨v0, v1, (y1_.1, y1_.2.1, y1_.2.2), (0 : Int), (0 : Int), (0 : Int)⟩ : pool_Pool).frames).1) (((⟨v0, v1, (y1_.1, y1_.2.1, y1_.2.2), (0 : Int), (0 : Int), (0 : Int)⟩ : pool_Pool).frames).2.1) (((⟨v0, v1, (y1_.1, y1_.2.1, y1_.2.2), (0 : Int), (0 : Int), (0 : Int)⟩ : pool_Pool).frames).2.2), .int .i64 ((⟨v0, v1, (y1_.1, y1_.2.1, y1_.2.2), (0 : Int), (0 : Int), (0 : Int)⟩ : pool_Pool).hand), .int .i64 ((⟨v0, v1, (y1_.1, y1_.2.1, y1_.2.2), (0 : Int), (0 : Int), (0 : Int)⟩ : pool_Pool).writes), .int .i64 ((⟨v0, v1, (y1_.1, y1_.2.1, y1_.2.2), (0 : Int), (0 : Int), (0 : Int)⟩ : pool_Pool).loads)] 96 fun y2_ => (K [(6, y2_), (7, .int .i64 0)]))) := by kernel_rfl
@[go_sem] theorem c42_o : c42.lo 1000000 = [6, 7] := rfl
@[go_sem] theorem c42_e (v6 : Option Addr) (v7 : Int) : RTp c42 [(6, v6), (7, v7)] k = (k (.tuple #[v6, v7])) := by kernel_rfl
theorem c42_ok : (c42.P.follows .mixedOrders && okc c42 c42.body) = true := by kernel_rfl
theorem c42_fn (hρ : envA 0 args.toList = ρ) (hs : Nat.ble args.size 28 = true) (h : E L (D c42 (.seq (.reg 0) (.seq (.seq (.reg 1) (.cond (.tmp 21) (.seq (.reg 2) (.ret)) (.skip))) (.seq (.reg 3) (.ret)))) (fnQ c42 e G) ρ)) : E L (cal e Tryz.prog 42 args G) :=
  d_fn (c := c42) Tryz.func42 (by kernel_rfl) (by kernel_rfl) (by kernel_rfl) c42_ok (by kernel_rfl) (by kernel_rfl) hρ hs h
noncomputable def c43 := cf Tryz.f43 52 [(0, [0, 1, 2, 3]), (1, [0, 1, 2, 3]), (2, []), (3, [0, 1, 2, 3]), (4, []), (5, [0, 1, 2, 3]), (6, []), (7, [0, 1, 2, 3]), (8, [2, 3, 9, 10]), (9, [10]), (10, [2, 3, 9]), (11, [2, 3, 9]), (12, [2, 3, 9]), (13, [])] [(0, [0, 1, 2, 3]), (1, [0, 1, 2, 3, 11]), (2, [8]), (3, [0, 1, 2, 3, 14]), (4, [8]), (5, [0, 1, 2, 3, 18]), (6, [8]), (7, [2, 3, 9, 10]), (8, [2, 3, 9, 10, 28]), (9, [8]), (10, [2, 3, 9, 34]), (11, [2, 3, 9]), (12, []), (13, [8]), (1000000, [8])] [] []
@[go_sem] theorem c43_i : c43.li 0 = [0, 1, 2, 3] ∧ c43.li 1 = [0, 1, 2, 3] ∧ c43.li 2 = [] ∧ c43.li 3 = [0, 1, 2, 3] ∧ c43.li 4 = [] ∧ c43.li 5 = [0, 1, 2, 3] ∧ c43.li 6 = [] ∧ c43.li 7 = [0, 1, 2, 3] ∧ c43.li 8 = [2, 3, 9, 10] ∧ c43.li 9 = [10] ∧ c43.li 10 = [2, 3, 9] ∧ c43.li 11 = [2, 3, 9] ∧ c43.li 12 = [2, 3, 9] ∧ c43.li 13 = [] := ⟨rfl, rfl, rfl, rfl, rfl, rfl, rfl, rfl, rfl, rfl, rfl, rfl, rfl, rfl⟩
@[go_sem] theorem c43_r0 (v0 : Option Addr) (v1 : Int) (v2 : List UInt8) (v3 : Int) : RP c43 0 [(0, v0), (1, v1), (2, str v2), (3, v3)] K =
 (K [(0, v0), (1, v1), (2, str v2), (3, v3)]) := by kernel_rfl
@[go_sem] theorem c43_r1 (v0 : Option Addr) (v1 : Int) (v2 : List UInt8) (v3 : Int) : RP c43 1 [(0, v0), (1, v1), (2, str v2), (3, v3)] K =
 (cal eB Tryz.prog 89 #[v0] fun (y1_ : Bool) => (K [(0, v0), (1, v1), (2, str v2), (3, v3), (11, y1_)])) := by kernel_rfl
@[go_sem] theorem c43_r2 : RP c43 2 [] K =
 (K [(8, .int .i64 11)]) := by kernel_rfl
@[go_sem] theorem c43_r3 (v0 : Option Addr) (v1 : Int) (v2 : List UInt8) (v3 : Int) : RP c43 3 [(0, v0), (1, v1), (2, str v2), (3, v3)] K =
 (K [(0, v0), (1, v1), (2, str v2), (3, v3), (14, .bool ((v2.length : Int) != 224))]) := by kernel_rfl
@[go_sem] theorem c43_r4 : RP c43 4 [] K =
 (K [(8, .int .i64 4)]) := by kernel_rfl
@[go_sem] theorem c43_r5 (v0 : Option Addr) (v1 : Int) (v2 : List UInt8) (v3 : Int) : RP c43 5 [(0, v0), (1, v1), (2, str v2), (3, v3)] K =
 (K [(0, v0), (1, v1), (2, str v2), (3, v3), (18, decide (v3 < 1))]) := by kernel_rfl
@[go_sem] theorem c43_r6 : RP c43 6 [] K =
 (K [(8, .int .i64 1)]) := by kernel_rfl
@[go_sem] theorem c43_r7 (v0 : Option Addr) (v1 : Int) (v2 : List UInt8) (v3 : Int) : RP c43 7 [(0, v0), (1, v1), (2, str v2), (3, v3)] K =
 (cal (eT2 eP eI) Tryz.prog 90 #[v0, v1] fun (y1_ : ((Option Addr) × Int)) => (K [(2, str v2), (3, v3), (9, y1_.1), (10, y1_.2)])) := by kernel_rfl
@[go_sem] theorem c43_r8 (v2 : List UInt8) (v3 : Int) (v9 : Option Addr) (v10 : Int) : RP c43 8 [(2, str v2), (3, v3), (9, v9), (10, v10)] K =
 (K [(2, str v2), (3, v3), (9, v9), (10, v10), (28, .bool (v10 != 0))]) := by kernel_rfl
@[go_sem] theorem c43_r9 (v10 : Int) : RP c43 9 [(10, v10)] K =
 (K [(8, v10)]) := by kernel_rfl
@[go_sem] theorem c43_r10 (v2 : List UInt8) (v3 : Int) (v9 : Option Addr) : RP c43 10 [(2, str v2), (3, v3), (9, v9)] K =
 (nn v9 fun y1_ => (ld eB (y1_.add 3) fun (y2_ : Bool) => (K [(2, str v2), (3, v3), (9, v9), (34, .bool (!y2_))]))) := by kernel_rfl
@[go_sem] theorem c43_r11 (v2 : List UInt8) (v3 : Int) (v9 : Option Addr) : RP c43 11 [(2, str v2), (3, v3), (9, v9)] K =
 (nn v9 fun y1_ => (st (y1_.add 3) (true) (nn v9 fun y2_ => (st (y2_.add 4) (v3) (K [(2, str v2), (3, v3), (9, v9)]))))) := by kernel_rfl
@[go_sem] theorem c43_r12 (v2 : List UInt8) (v3 : Int) (v9 : Option Addr) : RP c43 12 [(2, str v2), (3, v3), (9, v9)] K =
 (nn v9 fun y1_ => (st y1_ (str v2) (nn v9 fun y2_ => (st (y2_.add 1) (v3) (K []))))) := by kernel_rfl
@[go_sem] theorem c43_r13 : RP c43 13 [] K =
 (K [(8, .int .i64 0)]) := by kernel_rfl
@[go_sem] theorem c43_o : c43.lo 1000000 = [8] := rfl
@[go_sem] theorem c43_e (v8 : Int) : RTp c43 [(8, v8)] k = (k (v8)) := by kernel_rfl
theorem c43_ok : (c43.P.follows .mixedOrders && okc c43 c43.body) = true := by kernel_rfl
theorem c43_fn (hρ : envA 0 args.toList = ρ) (hs : Nat.ble args.size 52 = true) (h : E L (D c43 (.seq (.reg 0) (.seq (.block 0 (.seq (.reg 1) (.cond (.tmp 11) (.seq (.reg 2) (.ret)) (.seq (.reg 3) (.cond (.tmp 14) (.seq (.reg 4) (.ret)) (.seq (.reg 5) (.cond (.tmp 18) (.seq (.reg 6) (.ret)) (.skip)))))))) (.seq (.reg 7) (.seq (.seq (.reg 8) (.cond (.tmp 28) (.seq (.reg 9) (.ret)) (.skip))) (.seq (.seq (.reg 10) (.cond (.tmp 34) (.reg 11) (.skip))) (.seq (.reg 12) (.seq (.reg 13) (.ret)))))))) (fnQ c43 e G) ρ)) : E L (cal e Tryz.prog 43 args G) :=
  d_fn (c := c43) Tryz.func43 (by kernel_rfl) (by kernel_rfl) (by kernel_rfl) c43_ok (by kernel_rfl) (by kernel_rfl) hρ hs h
noncomputable def c45 := cf Tryz.f45 19 [(0, [0, 1]), (1, [0, 1]), (2, []), (3, [0, 1]), (4, [5])] [(0, [0, 1]), (1, [0, 1, 7]), (2, [4]), (3, [5]), (4, [4]), (1000000, [4])] [] []
@[go_sem] theorem c45_i : c45.li 0 = [0, 1] ∧ c45.li 1 = [0, 1] ∧ c45.li 2 = [] ∧ c45.li 3 = [0, 1] ∧ c45.li 4 = [5] := ⟨rfl, rfl, rfl, rfl, rfl⟩
@[go_sem] theorem c45_r0 (v0 : Option Addr) (v1 : Int) : RP c45 0 [(0, v0), (1, v1)] K =
 (K [(0, v0), (1, v1)]) := by kernel_rfl
@[go_sem] theorem c45_r1 (v0 : Option Addr) (v1 : Int) : RP c45 1 [(0, v0), (1, v1)] K =
 (cal eB Tryz.prog 89 #[v0] fun (y1_ : Bool) => (K [(0, v0), (1, v1), (7, y1_)])) := by kernel_rfl
@[go_sem] theorem c45_r2 : RP c45 2 [] K =
 (K [(4, false)]) := by kernel_rfl
@[go_sem] theorem c45_r3 (v0 : Option Addr) (v1 : Int) : RP c45 3 [(0, v0), (1, v1)] K =
 (cal eP Tryz.prog 91 #[v0, v1] fun (y1_ : Option Addr) => (K [(5, y1_)])) := by kernel_rfl
@[go_sem] theorem c45_r4 (v5 : Option Addr) : RP c45 4 [(5, v5)] K =
 (cnd (!v5.isNone) (nn v5 fun y1_ => (ld eB (y1_.add 3) fun (y2_ : Bool) => (K [(4, y2_)]))) (K [(4, false)])) := by kernel_rfl
@[go_sem] theorem c45_o : c45.lo 1000000 = [4] := rfl
@[go_sem] theorem c45_e (v4 : Bool) : RTp c45 [(4, v4)] k = (k (v4)) := by kernel_rfl
theorem c45_ok : (c45.P.follows .mixedOrders && okc c45 c45.body) = true := by kernel_rfl
theorem c45_fn (hρ : envA 0 args.toList = ρ) (hs : Nat.ble args.size 19 = true) (h : E L (D c45 (.seq (.reg 0) (.seq (.seq (.reg 1) (.cond (.tmp 7) (.seq (.reg 2) (.ret)) (.skip))) (.seq (.reg 3) (.seq (.reg 4) (.ret))))) (fnQ c45 e G) ρ)) : E L (cal e Tryz.prog 45 args G) :=
  d_fn (c := c45) Tryz.func45 (by kernel_rfl) (by kernel_rfl) (by kernel_rfl) c45_ok (by kernel_rfl) (by kernel_rfl) hρ hs h
noncomputable def c48 := cf Tryz.f48 25 [(0, [0, 1]), (1, [0, 1]), (2, []), (3, [0, 1]), (4, [5, 6]), (5, [6]), (6, [5]), (7, [])] [(0, [0, 1]), (1, [0, 1, 8]), (2, [4]), (3, [5, 6]), (4, [5, 6, 16]), (5, [4]), (6, []), (7, [4]), (1000000, [4])] [] []
@[go_sem] theorem c48_i : c48.li 0 = [0, 1] ∧ c48.li 1 = [0, 1] ∧ c48.li 2 = [] ∧ c48.li 3 = [0, 1] ∧ c48.li 4 = [5, 6] ∧ c48.li 5 = [6] ∧ c48.li 6 = [5] ∧ c48.li 7 = [] := ⟨rfl, rfl, rfl, rfl, rfl, rfl, rfl, rfl⟩
@[go_sem] theorem c48_r0 (v0 : Option Addr) (v1 : Int) : RP c48 0 [(0, v0), (1, v1)] K =
 (K [(0, v0), (1, v1)]) := by kernel_rfl
@[go_sem] theorem c48_r1 (v0 : Option Addr) (v1 : Int) : RP c48 1 [(0, v0), (1, v1)] K =
 (cal eB Tryz.prog 89 #[v0] fun (y1_ : Bool) => (K [(0, v0), (1, v1), (8, y1_)])) := by kernel_rfl
@[go_sem] theorem c48_r2 : RP c48 2 [] K =
 (K [(4, .int .i64 11)]) := by kernel_rfl
@[go_sem] theorem c48_r3 (v0 : Option Addr) (v1 : Int) : RP c48 3 [(0, v0), (1, v1)] K =
 (cal (eT2 eP eI) Tryz.prog 90 #[v0, v1] fun (y1_ : ((Option Addr) × Int)) => (K [(5, y1_.1), (6, y1_.2)])) := by kernel_rfl
@[go_sem] theorem c48_r4 (v5 : Option Addr) (v6 : Int) : RP c48 4 [(5, v5), (6, v6)] K =
 (K [(5, v5), (6, v6), (16, .bool (v6 != 0))]) := by kernel_rfl
@[go_sem] theorem c48_r5 (v6 : Int) : RP c48 5 [(6, v6)] K =
 (K [(4, v6)]) := by kernel_rfl
@[go_sem] theorem c48_r6 (v5 : Option Addr) : RP c48 6 [(5, v5)] K =
 (nn v5 fun y1_ => (ld eI (y1_.add 5) fun (y2_ : Int) => (nn v5 fun y3_ => (st (y3_.add 5) (IntKind.wrap .i64 (y2_ + 1)) (K []))))) := by kernel_rfl
@[go_sem] theorem c48_r7 : RP c48 7 [] K =
 (K [(4, .int .i64 0)]) := by kernel_rfl
@[go_sem] theorem c48_o : c48.lo 1000000 = [4] := rfl
@[go_sem] theorem c48_e (v4 : Int) : RTp c48 [(4, v4)] k = (k (v4)) := by kernel_rfl
theorem c48_ok : (c48.P.follows .mixedOrders && okc c48 c48.body) = true := by kernel_rfl
theorem c48_fn (hρ : envA 0 args.toList = ρ) (hs : Nat.ble args.size 25 = true) (h : E L (D c48 (.seq (.reg 0) (.seq (.seq (.reg 1) (.cond (.tmp 8) (.seq (.reg 2) (.ret)) (.skip))) (.seq (.reg 3) (.seq (.seq (.reg 4) (.cond (.tmp 16) (.seq (.reg 5) (.ret)) (.skip))) (.seq (.reg 6) (.seq (.reg 7) (.ret))))))) (fnQ c48 e G) ρ)) : E L (cal e Tryz.prog 48 args G) :=
  d_fn (c := c48) Tryz.func48 (by kernel_rfl) (by kernel_rfl) (by kernel_rfl) c48_ok (by kernel_rfl) (by kernel_rfl) hρ hs h
noncomputable def c49 := cf Tryz.f49 30 [(0, [0, 1]), (1, [0, 1]), (2, []), (3, [0, 1]), (4, [7, 8]), (5, [8]), (6, [7])] [(0, [0, 1]), (1, [0, 1, 10]), (2, [4, 5, 6]), (3, [7, 8]), (4, [7, 8, 18]), (5, [4, 5, 6]), (6, [4, 5, 6]), (1000000, [4, 5, 6])] [(6, (true, [(0, 1), (1, 1), (2, 1), (3, 1), (4, 0), (5, 1), (6, 1), (7, 1), (8, 1), (9, 0), (10, 1), (11, 1), (12, 1)]))] []
@[go_sem] theorem c49_i : c49.li 0 = [0, 1] ∧ c49.li 1 = [0, 1] ∧ c49.li 2 = [] ∧ c49.li 3 = [0, 1] ∧ c49.li 4 = [7, 8] ∧ c49.li 5 = [8] ∧ c49.li 6 = [7] := ⟨rfl, rfl, rfl, rfl, rfl, rfl, rfl⟩
@[go_sem] theorem c49_r0 (v0 : Option Addr) (v1 : Int) : RP c49 0 [(0, v0), (1, v1)] K =
 (K [(0, v0), (1, v1)]) := by kernel_rfl
@[go_sem] theorem c49_r1 (v0 : Option Addr) (v1 : Int) : RP c49 1 [(0, v0), (1, v1)] K =
 (cal eB Tryz.prog 89 #[v0] fun (y1_ : Bool) => (K [(0, v0), (1, v1), (10, y1_)])) := by kernel_rfl
@[go_sem] theorem c49_r2 : RP c49 2 [] K =
 (K [(4, str ([] : List UInt8)), (5, .int .i64 0), (6, .int .i64 11)]) := by kernel_rfl
@[go_sem] theorem c49_r3 (v0 : Option Addr) (v1 : Int) : RP c49 3 [(0, v0), (1, v1)] K =
 (cal (eT2 eP eI) Tryz.prog 90 #[v0, v1] fun (y1_ : ((Option Addr) × Int)) => (K [(7, y1_.1), (8, y1_.2)])) := by kernel_rfl
@[go_sem] theorem c49_r4 (v7 : Option Addr) (v8 : Int) : RP c49 4 [(7, v7), (8, v8)] K =
 (K [(7, v7), (8, v8), (18, .bool (v8 != 0))]) := by kernel_rfl
@[go_sem] theorem c49_r5 (v8 : Int) : RP c49 5 [(8, v8)] K =
 (K [(4, str ([] : List UInt8)), (5, .int .i64 0), (6, v8)]) := by kernel_rfl
@[go_sem] theorem c49_r6 (v7 : Option Addr) : RP c49 6 [(7, v7)] K =
 (ph fun S0 => (nn v7 fun y1_ => (ldq S0 eS y1_ fun (y2_ : List UInt8) => (nn v7 fun y3_ => (ldq S0 eI (y3_.add 1) fun (y4_ : Int) => (K [(4, str y2_), (5, y4_), (6, .int .i64 0)])))))) := by kernel_rfl
@[go_sem] theorem c49_o : c49.lo 1000000 = [4, 5, 6] := rfl
@[go_sem] theorem c49_e (v4 : List UInt8) (v5 v6 : Int) : RTp c49 [(4, str v4), (5, v5), (6, v6)] k = (k (.tuple #[str v4, v5, v6])) := by kernel_rfl
theorem c49_ok : (c49.P.follows .mixedOrders && okc c49 c49.body) = true := by kernel_rfl
theorem c49_fn (hρ : envA 0 args.toList = ρ) (hs : Nat.ble args.size 30 = true) (h : E L (D c49 (.seq (.reg 0) (.seq (.seq (.reg 1) (.cond (.tmp 10) (.seq (.reg 2) (.ret)) (.skip))) (.seq (.reg 3) (.seq (.seq (.reg 4) (.cond (.tmp 18) (.seq (.reg 5) (.ret)) (.skip))) (.seq (.reg 6) (.ret)))))) (fnQ c49 e G) ρ)) : E L (cal e Tryz.prog 49 args G) :=
  d_fn (c := c49) Tryz.func49 (by kernel_rfl) (by kernel_rfl) (by kernel_rfl) c49_ok (by kernel_rfl) (by kernel_rfl) hρ hs h
noncomputable def c50 := cf Tryz.f50 27 [(0, [0, 1]), (1, [0, 1]), (2, []), (3, [0, 1]), (4, [5]), (5, []), (6, [5]), (7, [])] [(0, [0, 1]), (1, [0, 1, 7]), (2, [4]), (3, [5]), (4, [5, 19]), (5, [4]), (6, []), (7, [4]), (1000000, [4])] [] []
@[go_sem] theorem c50_i : c50.li 0 = [0, 1] ∧ c50.li 1 = [0, 1] ∧ c50.li 2 = [] ∧ c50.li 3 = [0, 1] ∧ c50.li 4 = [5] ∧ c50.li 5 = [] ∧ c50.li 6 = [5] ∧ c50.li 7 = [] := ⟨rfl, rfl, rfl, rfl, rfl, rfl, rfl, rfl⟩
@[go_sem] theorem c50_r0 (v0 : Option Addr) (v1 : Int) : RP c50 0 [(0, v0), (1, v1)] K =
 (K [(0, v0), (1, v1)]) := by kernel_rfl
@[go_sem] theorem c50_r1 (v0 : Option Addr) (v1 : Int) : RP c50 1 [(0, v0), (1, v1)] K =
 (cal eB Tryz.prog 89 #[v0] fun (y1_ : Bool) => (K [(0, v0), (1, v1), (7, y1_)])) := by kernel_rfl
@[go_sem] theorem c50_r2 : RP c50 2 [] K =
 (K [(4, .int .i64 11)]) := by kernel_rfl
@[go_sem] theorem c50_r3 (v0 : Option Addr) (v1 : Int) : RP c50 3 [(0, v0), (1, v1)] K =
 (cal eP Tryz.prog 91 #[v0, v1] fun (y1_ : Option Addr) => (K [(5, y1_)])) := by kernel_rfl
@[go_sem] theorem c50_r4 (v5 : Option Addr) : RP c50 4 [(5, v5)] K =
 (cnd (v5.isNone) (K [(5, v5), (19, true)]) (nn v5 fun y1_ => (ld eI (y1_.add 5) fun (y2_ : Int) => (K [(5, v5), (19, .bool (y2_ == 0))])))) := by kernel_rfl
@[go_sem] theorem c50_r5 : RP c50 5 [] K =
 (K [(4, .int .i64 8)]) := by kernel_rfl
@[go_sem] theorem c50_r6 (v5 : Option Addr) : RP c50 6 [(5, v5)] K =
 (nn v5 fun y1_ => (ld eI (y1_.add 5) fun (y2_ : Int) => (nn v5 fun y3_ => (st (y3_.add 5) (IntKind.wrap .i64 (y2_ - 1)) (K []))))) := by kernel_rfl
@[go_sem] theorem c50_r7 : RP c50 7 [] K =
 (K [(4, .int .i64 0)]) := by kernel_rfl
@[go_sem] theorem c50_o : c50.lo 1000000 = [4] := rfl
@[go_sem] theorem c50_e (v4 : Int) : RTp c50 [(4, v4)] k = (k (v4)) := by kernel_rfl
theorem c50_ok : (c50.P.follows .mixedOrders && okc c50 c50.body) = true := by kernel_rfl
theorem c50_fn (hρ : envA 0 args.toList = ρ) (hs : Nat.ble args.size 27 = true) (h : E L (D c50 (.seq (.reg 0) (.seq (.seq (.reg 1) (.cond (.tmp 7) (.seq (.reg 2) (.ret)) (.skip))) (.seq (.reg 3) (.seq (.seq (.reg 4) (.cond (.tmp 19) (.seq (.reg 5) (.ret)) (.skip))) (.seq (.reg 6) (.seq (.reg 7) (.ret))))))) (fnQ c50 e G) ρ)) : E L (cal e Tryz.prog 50 args G) :=
  d_fn (c := c50) Tryz.func50 (by kernel_rfl) (by kernel_rfl) (by kernel_rfl) c50_ok (by kernel_rfl) (by kernel_rfl) hρ hs h
noncomputable def c56 := cf Tryz.f56 16 [(0, [0, 1]), (1, [0, 1]), (2, []), (3, [0, 1]), (4, [0, 5]), (5, []), (6, [0, 5])] [(0, [0, 1]), (1, [0, 1, 7]), (2, [4]), (3, [0, 5]), (4, [0, 5, 12]), (5, [4]), (6, [4]), (1000000, [4])] [] []
@[go_sem] theorem c56_i : c56.li 0 = [0, 1] ∧ c56.li 1 = [0, 1] ∧ c56.li 2 = [] ∧ c56.li 3 = [0, 1] ∧ c56.li 4 = [0, 5] ∧ c56.li 5 = [] ∧ c56.li 6 = [0, 5] := ⟨rfl, rfl, rfl, rfl, rfl, rfl, rfl⟩
@[go_sem] theorem c56_r0 (v0 : Option Addr) (v1 : Int) : RP c56 0 [(0, v0), (1, v1)] K =
 (K [(0, v0), (1, v1)]) := by kernel_rfl
@[go_sem] theorem c56_r1 (v0 : Option Addr) (v1 : Int) : RP c56 1 [(0, v0), (1, v1)] K =
 (cal eB Tryz.prog 89 #[v0] fun (y1_ : Bool) => (K [(0, v0), (1, v1), (7, y1_)])) := by kernel_rfl
@[go_sem] theorem c56_r2 : RP c56 2 [] K =
 (K [(4, .int .i64 11)]) := by kernel_rfl
@[go_sem] theorem c56_r3 (v0 : Option Addr) (v1 : Int) : RP c56 3 [(0, v0), (1, v1)] K =
 (cal eP Tryz.prog 91 #[v0, v1] fun (y1_ : Option Addr) => (K [(0, v0), (5, y1_)])) := by kernel_rfl
@[go_sem] theorem c56_r4 (v0 v5 : Option Addr) : RP c56 4 [(0, v0), (5, v5)] K =
 (K [(0, v0), (5, v5), (12, .bool (v5.isNone))]) := by kernel_rfl
@[go_sem] theorem c56_r5 : RP c56 5 [] K =
 (K [(4, .int .i64 8)]) := by kernel_rfl
@[go_sem] theorem c56_r6 (v0 v5 : Option Addr) : RP c56 6 [(0, v0), (5, v5)] K =
 (cal eI Tryz.prog 95 #[v0, v5] fun (y1_ : Int) => (K [(4, y1_)])) := by kernel_rfl
@[go_sem] theorem c56_o : c56.lo 1000000 = [4] := rfl
@[go_sem] theorem c56_e (v4 : Int) : RTp c56 [(4, v4)] k = (k (v4)) := by kernel_rfl
theorem c56_ok : (c56.P.follows .mixedOrders && okc c56 c56.body) = true := by kernel_rfl
theorem c56_fn (hρ : envA 0 args.toList = ρ) (hs : Nat.ble args.size 16 = true) (h : E L (D c56 (.seq (.reg 0) (.seq (.seq (.reg 1) (.cond (.tmp 7) (.seq (.reg 2) (.ret)) (.skip))) (.seq (.reg 3) (.seq (.seq (.reg 4) (.cond (.tmp 12) (.seq (.reg 5) (.ret)) (.skip))) (.seq (.reg 6) (.ret)))))) (fnQ c56 e G) ρ)) : E L (cal e Tryz.prog 56 args G) :=
  d_fn (c := c56) Tryz.func56 (by kernel_rfl) (by kernel_rfl) (by kernel_rfl) c56_ok (by kernel_rfl) (by kernel_rfl) hρ hs h
noncomputable def c57 := cf Tryz.f57 27 [(0, [0]), (1, [0]), (2, []), (3, [0]), (4, [0, 11, 12]), (5, [0, 11, 12]), (6, [0, 3, 11, 12]), (7, [0, 4, 11, 12]), (8, [4]), (9, [0, 11, 12]), (10, [])] [(0, [0]), (1, [0, 6]), (2, [2]), (3, [0, 11, 12]), (4, [0, 11, 12, 13]), (5, [0, 3, 11, 12]), (6, [0, 4, 11, 12]), (7, [0, 4, 11, 12, 24]), (8, [2]), (9, [0, 11, 12]), (10, [2]), (1000000, [2])] [] []
@[go_sem] theorem c57_i : c57.li 0 = [0] ∧ c57.li 1 = [0] ∧ c57.li 2 = [] ∧ c57.li 3 = [0] ∧ c57.li 4 = [0, 11, 12] ∧ c57.li 5 = [0, 11, 12] ∧ c57.li 6 = [0, 3, 11, 12] ∧ c57.li 7 = [0, 4, 11, 12] ∧ c57.li 8 = [4] ∧ c57.li 9 = [0, 11, 12] ∧ c57.li 10 = [] := ⟨rfl, rfl, rfl, rfl, rfl, rfl, rfl, rfl, rfl, rfl, rfl⟩
@[go_sem] theorem c57_r0 (v0 : Option Addr) : RP c57 0 [(0, v0)] K =
 (K [(0, v0)]) := by kernel_rfl
@[go_sem] theorem c57_r1 (v0 : Option Addr) : RP c57 1 [(0, v0)] K =
 (cal eB Tryz.prog 89 #[v0] fun (y1_ : Bool) => (K [(0, v0), (6, y1_)])) := by kernel_rfl
@[go_sem] theorem c57_r2 : RP c57 2 [] K =
 (K [(2, .int .i64 11)]) := by kernel_rfl
@[go_sem] theorem c57_r3 (v0 : Option Addr) : RP c57 3 [(0, v0)] K =
 (nn v0 fun y1_ => (ld eSl (y1_.add 2) fun (y2_ : (Option Addr × Nat × Nat)) => (K [(0, v0), (11, .int .i64 (y2_.2.1 : Int)), (12, .int .i64 0)]))) := by kernel_rfl
@[go_sem] theorem c57_r4 (v0 : Option Addr) (v11 v12 : Int) : RP c57 4 [(0, v0), (11, v11), (12, v12)] K =
 (K [(0, v0), (11, v11), (12, v12), (13, decide (v12 < v11))]) := by kernel_rfl
@[go_sem] theorem c57_r5 (v0 : Option Addr) (v11 v12 : Int) : RP c57 5 [(0, v0), (11, v11), (12, v12)] K =
 (K [(0, v0), (3, v12), (11, v11), (12, v12)]) := by kernel_rfl
@[go_sem] theorem c57_r6 (v0 : Option Addr) (v3 v11 v12 : Int) : RP c57 6 [(0, v0), (3, v3), (11, v11), (12, v12)] K =
 (nn v0 fun y1_ => (ld eSl (y1_.add 2) fun (y2_ : (Option Addr × Nat × Nat)) => (rq (0 ≤ v3 ∧ v3 < (y2_.2.1 : Int)) (nn y2_.1 fun y3_ => (cal eI Tryz.prog 95 #[v0, .pointer (some (Addr.add y3_ (v3.toNat * 8)))] fun (y4_ : Int) => (K [(0, v0), (4, y4_), (11, v11), (12, v12)])))))) := by kernel_rfl
@[go_sem] theorem c57_r7 (v0 : Option Addr) (v4 v11 v12 : Int) : RP c57 7 [(0, v0), (4, v4), (11, v11), (12, v12)] K =
 (K [(0, v0), (4, v4), (11, v11), (12, v12), (24, .bool (v4 != 0))]) := by kernel_rfl
@[go_sem] theorem c57_r8 (v4 : Int) : RP c57 8 [(4, v4)] K =
 (K [(2, v4)]) := by kernel_rfl
@[go_sem] theorem c57_r9 (v0 : Option Addr) (v11 v12 : Int) : RP c57 9 [(0, v0), (11, v11), (12, v12)] K =
 (K [(0, v0), (11, v11), (12, IntKind.wrap .i64 (v12 + 1))]) := by kernel_rfl
@[go_sem] theorem c57_r10 : RP c57 10 [] K =
 (K [(2, .int .i64 0)]) := by kernel_rfl
@[go_sem] theorem c57_o : c57.lo 1000000 = [2] := rfl
@[go_sem] theorem c57_e (v2 : Int) : RTp c57 [(2, v2)] k = (k (v2)) := by kernel_rfl
theorem c57_ok : (c57.P.follows .mixedOrders && okc c57 c57.body) = true := by kernel_rfl
theorem c57_fn (hρ : envA 0 args.toList = ρ) (hs : Nat.ble args.size 27 = true) (h : E L (D c57 (.seq (.reg 0) (.seq (.seq (.reg 1) (.cond (.tmp 6) (.seq (.reg 2) (.ret)) (.skip))) (.seq (.seq (.reg 3) (.block 0 (.loop (.seq (.reg 4) (.seq (.cond (.tmp 13) (.skip) (.exit 0)) (.seq (.block 1 (.seq (.reg 5) (.seq (.reg 6) (.seq (.reg 7) (.cond (.tmp 24) (.seq (.reg 8) (.ret)) (.skip)))))) (.reg 9))))))) (.seq (.reg 10) (.ret))))) (fnQ c57 e G) ρ)) : E L (cal e Tryz.prog 57 args G) :=
  d_fn (c := c57) Tryz.func57 (by kernel_rfl) (by kernel_rfl) (by kernel_rfl) c57_ok (by kernel_rfl) (by kernel_rfl) hρ hs h
noncomputable def c58 := cf Tryz.f58 38 [(0, [0]), (1, [0]), (2, []), (3, [0]), (4, [0, 3]), (5, [0, 3, 12, 13]), (6, [0, 3, 12, 13]), (7, [0, 3, 4, 12, 13]), (8, [0, 3, 4, 5, 12, 13]), (9, [0, 3, 4, 5, 12, 13]), (10, [0, 3, 12, 13]), (11, [3])] [(0, [0]), (1, [0, 7]), (2, [2]), (3, [0, 3]), (4, [0, 3, 12, 13]), (5, [0, 3, 12, 13, 14]), (6, [0, 3, 4, 12, 13]), (7, [0, 3, 4, 5, 12, 13]), (8, [0, 3, 4, 5, 12, 13, 26]), (9, [0, 3, 12, 13]), (10, [0, 3, 12, 13]), (11, [2]), (1000000, [2])] [] []
@[go_sem] theorem c58_i : c58.li 0 = [0] ∧ c58.li 1 = [0] ∧ c58.li 2 = [] ∧ c58.li 3 = [0] ∧ c58.li 4 = [0, 3] ∧ c58.li 5 = [0, 3, 12, 13] ∧ c58.li 6 = [0, 3, 12, 13] ∧ c58.li 7 = [0, 3, 4, 12, 13] ∧ c58.li 8 = [0, 3, 4, 5, 12, 13] ∧ c58.li 9 = [0, 3, 4, 5, 12, 13] ∧ c58.li 10 = [0, 3, 12, 13] ∧ c58.li 11 = [3] := ⟨rfl, rfl, rfl, rfl, rfl, rfl, rfl, rfl, rfl, rfl, rfl, rfl⟩
@[go_sem] theorem c58_r0 (v0 : Option Addr) : RP c58 0 [(0, v0)] K =
 (K [(0, v0)]) := by kernel_rfl
@[go_sem] theorem c58_r1 (v0 : Option Addr) : RP c58 1 [(0, v0)] K =
 (cal eB Tryz.prog 89 #[v0] fun (y1_ : Bool) => (K [(0, v0), (7, y1_)])) := by kernel_rfl
@[go_sem] theorem c58_r2 : RP c58 2 [] K =
 (K [(2, .slice none 0 0)]) := by kernel_rfl
@[go_sem] theorem c58_r3 (v0 : Option Addr) : RP c58 3 [(0, v0)] K =
 (K [(0, v0), (3, .slice none 0 0)]) := by kernel_rfl
@[go_sem] theorem c58_r4 (v0 v3p : Option Addr) (v3n v3c : Nat) : RP c58 4 [(0, v0), (3, .slice v3p v3n v3c)] K =
 (nn v0 fun y1_ => (ld eP y1_ fun (y2_ : Option Addr) => (cal eI Tryz.prog 92 #[y2_] fun (y3_ : Int) => (K [(0, v0), (3, .slice v3p v3n v3c), (12, y3_), (13, .int .i64 0)])))) := by kernel_rfl
@[go_sem] theorem c58_r5 (v0 v3p : Option Addr) (v3n v3c : Nat) (v12 v13 : Int) : RP c58 5 [(0, v0), (3, .slice v3p v3n v3c), (12, v12), (13, v13)] K =
 (K [(0, v0), (3, .slice v3p v3n v3c), (12, v12), (13, v13), (14, decide (v13 < v12))]) := by kernel_rfl
@[go_sem] theorem c58_r6 (v0 v3p : Option Addr) (v3n v3c : Nat) (v12 v13 : Int) : RP c58 6 [(0, v0), (3, .slice v3p v3n v3c), (12, v12), (13, v13)] K =
 (K [(0, v0), (3, .slice v3p v3n v3c), (4, v13), (12, v12), (13, v13)]) := by kernel_rfl
@[go_sem] theorem c58_r7 (v0 v3p : Option Addr) (v3n v3c : Nat) (v4 v12 v13 : Int) : RP c58 7 [(0, v0), (3, .slice v3p v3n v3c), (4, v4), (12, v12), (13, v13)] K =
 (cal eP Tryz.prog 91 #[v0, v4] fun (y1_ : Option Addr) => (K [(0, v0), (3, .slice v3p v3n v3c), (4, v4), (5, y1_), (12, v12), (13, v13)])) := by kernel_rfl
@[go_sem] theorem c58_r8 (v0 v3p : Option Addr) (v3n v3c : Nat) (v4 : Int) (v5 : Option Addr) (v12 v13 : Int) : RP c58 8 [(0, v0), (3, .slice v3p v3n v3c), (4, v4), (5, v5), (12, v12), (13, v13)] K =
 (cnd (!v5.isNone) (nn v5 fun y1_ => (ld eB (y1_.add 3) fun (y2_ : Bool) => (K [(0, v0), (3, .slice v3p v3n v3c), (4, v4), (5, v5), (12, v12), (13, v13), (26, y2_)]))) (K [(0, v0), (3, .slice v3p v3n v3c), (4, v4), (5, v5), (12, v12), (13, v13), (26, false)])) := by kernel_rfl
@[go_sem] theorem c58_r9 (v0 v3p : Option Addr) (v3n v3c : Nat) (v4 : Int) (v5 : Option Addr) (v12 v13 : Int) : RP c58 9 [(0, v0), (3, .slice v3p v3n v3c), (4, v4), (5, v5), (12, v12), (13, v13)] K =
 (nn v5 fun y1_ => (ld eI (y1_.add 4) fun (y2_ : Int) => (nwc #[.int .i64 ((⟨v4, y2_⟩ : api_Dirty).Page), .int .i64 ((⟨v4, y2_⟩ : api_Dirty).Rec)] 137 fun y3_ => (val eSl Tryz.prog (oB_append #[99, 99] 99 #[.slice v3p v3n v3c, .slice (some y3_) 1 1]) fun (y4_ : (Option Addr × Nat × Nat)) => (K [(0, v0), (3, .slice y4_.1 y4_.2.1 y4_.2.2), (12, v12), (13, v13)]))))) := by kernel_rfl
@[go_sem] theorem c58_r10 (v0 v3p : Option Addr) (v3n v3c : Nat) (v12 v13 : Int) : RP c58 10 [(0, v0), (3, .slice v3p v3n v3c), (12, v12), (13, v13)] K =
 (K [(0, v0), (3, .slice v3p v3n v3c), (12, v12), (13, IntKind.wrap .i64 (v13 + 1))]) := by kernel_rfl
@[go_sem] theorem c58_r11 (v3p : Option Addr) (v3n v3c : Nat) : RP c58 11 [(3, .slice v3p v3n v3c)] K =
 (K [(2, .slice v3p v3n v3c)]) := by kernel_rfl
@[go_sem] theorem c58_o : c58.lo 1000000 = [2] := rfl
@[go_sem] theorem c58_e (v2p : Option Addr) (v2n v2c : Nat) : RTp c58 [(2, .slice v2p v2n v2c)] k = (k (.slice v2p v2n v2c)) := by kernel_rfl
theorem c58_ok : (c58.P.follows .mixedOrders && okc c58 c58.body) = true := by kernel_rfl
theorem c58_fn (hρ : envA 0 args.toList = ρ) (hs : Nat.ble args.size 38 = true) (h : E L (D c58 (.seq (.reg 0) (.seq (.seq (.reg 1) (.cond (.tmp 7) (.seq (.reg 2) (.ret)) (.skip))) (.seq (.reg 3) (.seq (.seq (.reg 4) (.block 0 (.loop (.seq (.reg 5) (.seq (.cond (.tmp 14) (.skip) (.exit 0)) (.seq (.block 1 (.seq (.reg 6) (.seq (.reg 7) (.seq (.reg 8) (.cond (.tmp 26) (.reg 9) (.skip)))))) (.reg 10))))))) (.seq (.reg 11) (.ret)))))) (fnQ c58 e G) ρ)) : E L (cal e Tryz.prog 58 args G) :=
  d_fn (c := c58) Tryz.func58 (by kernel_rfl) (by kernel_rfl) (by kernel_rfl) c58_ok (by kernel_rfl) (by kernel_rfl) hρ hs h
noncomputable def c89 := cf Tryz.f89 13 [(0, [0]), (1, [0])] [(0, [0]), (1, [2]), (1000000, [2])] [] []
@[go_sem] theorem c89_i : c89.li 0 = [0] ∧ c89.li 1 = [0] := ⟨rfl, rfl⟩
@[go_sem] theorem c89_r0 (v0 : Option Addr) : RP c89 0 [(0, v0)] K =
 (K [(0, v0)]) := by kernel_rfl
@[go_sem] theorem c89_r1 (v0 : Option Addr) : RP c89 1 [(0, v0)] K =
 (cnd (v0.isNone) (K [(2, true)]) (nn v0 fun y1_ => (ld eSl (y1_.add 2) fun (y2_ : (Option Addr × Nat × Nat)) => (K [(2, .bool ((y2_.2.1 : Int) == 0))])))) := by kernel_rfl
@[go_sem] theorem c89_o : c89.lo 1000000 = [2] := rfl
@[go_sem] theorem c89_e (v2 : Bool) : RTp c89 [(2, v2)] k = (k (v2)) := by kernel_rfl
theorem c89_ok : (c89.P.follows .mixedOrders && okc c89 c89.body) = true := by kernel_rfl
theorem c89_fn (hρ : envA 0 args.toList = ρ) (hs : Nat.ble args.size 13 = true) (h : E L (D c89 (.seq (.reg 0) (.seq (.reg 1) (.ret))) (fnQ c89 e G) ρ)) : E L (cal e Tryz.prog 89 args G) :=
  d_fn (c := c89) Tryz.func89 (by kernel_rfl) (by kernel_rfl) (by kernel_rfl) c89_ok (by kernel_rfl) (by kernel_rfl) hρ hs h
noncomputable def c90 := cf Tryz.f90 75 [(0, [0, 1]), (1, [0, 1]), (2, [0, 1, 6]), (3, [6]), (4, [6]), (5, [0, 1]), (6, [0, 1, 7, 8, 9]), (7, [9]), (8, [0, 1, 7, 8]), (9, [0, 1, 7, 8, 9, 10]), (10, [9]), (11, [0, 1, 7, 8, 10]), (12, [0, 1, 7, 8, 10]), (13, [0, 1, 7, 8, 10, 11]), (14, [11]), (15, [0, 1, 7, 8, 10]), (16, [0, 10]), (17, [10])] [(0, [0, 1]), (1, [0, 1, 6]), (2, [0, 1, 6, 16]), (3, [6]), (4, [4, 5]), (5, [0, 1, 7, 8, 9]), (6, [0, 1, 7, 8, 9, 40]), (7, [4, 5]), (8, [0, 1, 7, 8, 9, 10]), (9, [0, 1, 7, 8, 9, 10, 48]), (10, [4, 5]), (11, [0, 1, 7, 8, 10, 53]), (12, [0, 1, 7, 8, 10, 11]), (13, [0, 1, 7, 8, 10, 11, 58]), (14, [4, 5]), (15, [0, 10]), (16, [10]), (17, [4, 5]), (1000000, [4, 5])] [] []
@[go_sem] theorem c90_i : c90.li 0 = [0, 1] ∧ c90.li 1 = [0, 1] ∧ c90.li 2 = [0, 1, 6] ∧ c90.li 3 = [6] ∧ c90.li 4 = [6] ∧ c90.li 5 = [0, 1] ∧ c90.li 6 = [0, 1, 7, 8, 9] ∧ c90.li 7 = [9] ∧ c90.li 8 = [0, 1, 7, 8] ∧ c90.li 9 = [0, 1, 7, 8, 9, 10] ∧ c90.li 10 = [9] ∧ c90.li 11 = [0, 1, 7, 8, 10] ∧ c90.li 12 = [0, 1, 7, 8, 10] ∧ c90.li 13 = [0, 1, 7, 8, 10, 11] ∧ c90.li 14 = [11] ∧ c90.li 15 = [0, 1, 7, 8, 10] ∧ c90.li 16 = [0, 10] ∧ c90.li 17 = [10] := ⟨rfl, rfl, rfl, rfl, rfl, rfl, rfl, rfl, rfl, rfl, rfl, rfl, rfl, rfl, rfl, rfl, rfl, rfl⟩
@[go_sem] theorem c90_r0 (v0 : Option Addr) (v1 : Int) : RP c90 0 [(0, v0), (1, v1)] K =
 (K [(0, v0), (1, v1)]) := by kernel_rfl
@[go_sem] theorem c90_r1 (v0 : Option Addr) (v1 : Int) : RP c90 1 [(0, v0), (1, v1)] K =
 (cal eP Tryz.prog 91 #[v0, v1] fun (y1_ : Option Addr) => (K [(0, v0), (1, v1), (6, y1_)])) := by kernel_rfl
@[go_sem] theorem c90_r2 (v0 : Option Addr) (v1 : Int) (v6 : Option Addr) : RP c90 2 [(0, v0), (1, v1), (6, v6)] K =
 (K [(0, v0), (1, v1), (6, v6), (16, .bool (!v6.isNone))]) := by kernel_rfl
@[go_sem] theorem c90_r3 (v6 : Option Addr) : RP c90 3 [(6, v6)] K =
 (nn v6 fun y1_ => (st (y1_.add 6) (true) (K [(6, v6)]))) := by kernel_rfl
@[go_sem] theorem c90_r4 (v6 : Option Addr) : RP c90 4 [(6, v6)] K =
 (K [(4, v6), (5, .int .i64 0)]) := by kernel_rfl
@[go_sem] theorem c90_r5 (v0 : Option Addr) (v1 : Int) : RP c90 5 [(0, v0), (1, v1)] K =
 (nn v0 fun y1_ => (ld eP y1_ fun (y2_ : Option Addr) => (cal (eT3 eS eI eI) Tryz.prog 65 #[y2_, v1] fun (y3_ : ((List UInt8) × Int × Int)) => (K [(0, v0), (1, v1), (7, str y3_.1), (8, .int .i64 y3_.2.1), (9, .int .i64 y3_.2.2)])))) := by kernel_rfl
@[go_sem] theorem c90_r6 (v0 : Option Addr) (v1 : Int) (v7 : List UInt8) (v8 v9 : Int) : RP c90 6 [(0, v0), (1, v1), (7, str v7), (8, v8), (9, v9)] K =
 (cnd (v9 != 0) (cnd (v9 != 8) (K [(0, v0), (1, v1), (7, str v7), (8, v8), (9, v9), (40, .bool (v9 != 10))]) (K [(0, v0), (1, v1), (7, str v7), (8, v8), (9, v9), (40, false)])) (K [(0, v0), (1, v1), (7, str v7), (8, v8), (9, v9), (40, false)])) := by kernel_rfl
@[go_sem] theorem c90_r7 (v9 : Int) : RP c90 7 [(9, v9)] K =
 (K [(4, .pointer none), (5, v9)]) := by kernel_rfl
@[go_sem] theorem c90_r8 (v0 : Option Addr) (v1 : Int) (v7 : List UInt8) (v8 : Int) : RP c90 8 [(0, v0), (1, v1), (7, str v7), (8, v8)] K =
 (cal (eT2 eP eI) Tryz.prog 120 #[v0] fun (y1_ : ((Option Addr) × Int)) => (K [(0, v0), (1, v1), (7, str v7), (8, v8), (9, y1_.2), (10, y1_.1)])) := by kernel_rfl
@[go_sem] theorem c90_r9 (v0 : Option Addr) (v1 : Int) (v7 : List UInt8) (v8 v9 : Int) (v10 : Option Addr) : RP c90 9 [(0, v0), (1, v1), (7, str v7), (8, v8), (9, v9), (10, v10)] K =
 (K [(0, v0), (1, v1), (7, str v7), (8, v8), (9, v9), (10, v10), (48, .bool (v9 != 0))]) := by kernel_rfl
@[go_sem] theorem c90_r10 (v9 : Int) : RP c90 10 [(9, v9)] K =
 (K [(4, .pointer none), (5, v9)]) := by kernel_rfl
@[go_sem] theorem c90_r11 (v0 : Option Addr) (v1 : Int) (v7 : List UInt8) (v8 : Int) (v10 : Option Addr) : RP c90 11 [(0, v0), (1, v1), (7, str v7), (8, v8), (10, v10)] K =
 (nn v10 fun y1_ => (ld eB (y1_.add 7) fun (y2_ : Bool) => (K [(0, v0), (1, v1), (7, str v7), (8, v8), (10, v10), (53, y2_)]))) := by kernel_rfl
@[go_sem] theorem c90_r12 (v0 : Option Addr) (v1 : Int) (v7 : List UInt8) (v8 : Int) (v10 : Option Addr) : RP c90 12 [(0, v0), (1, v1), (7, str v7), (8, v8), (10, v10)] K =
 (cal eI Tryz.prog 95 #[v0, v10] fun (y1_ : Int) => (K [(0, v0), (1, v1), (7, str v7), (8, v8), (10, v10), (11, y1_)])) := by kernel_rfl
@[go_sem] theorem c90_r13 (v0 : Option Addr) (v1 : Int) (v7 : List UInt8) (v8 : Int) (v10 : Option Addr) (v11 : Int) : RP c90 13 [(0, v0), (1, v1), (7, str v7), (8, v8), (10, v10), (11, v11)] K =
 (K [(0, v0), (1, v1), (7, str v7), (8, v8), (10, v10), (11, v11), (58, .bool (v11 != 0))]) := by kernel_rfl
@[go_sem] theorem c90_r14 (v11 : Int) : RP c90 14 [(11, v11)] K =
 (K [(4, .pointer none), (5, v11)]) := by kernel_rfl
@[go_sem] theorem c90_r15 (v0 : Option Addr) (v1 : Int) (v7 : List UInt8) (v8 : Int) (v10 : Option Addr) : RP c90 15 [(0, v0), (1, v1), (7, str v7), (8, v8), (10, v10)] K =
 (nn v10 fun y1_ => (stl [str (((⟨(⟨v7, v8⟩ : pool_content), v1, false, (0 : Int), (0 : Int), true, true⟩ : pool_frame).content).text), .int .i64 (((⟨(⟨v7, v8⟩ : pool_content), v1, false, (0 : Int), (0 : Int), true, true⟩ : pool_frame).content).lsn), .int .i64 ((⟨(⟨v7, v8⟩ : pool_content), v1, false, (0 : Int), (0 : Int), true, true⟩ : pool_frame).id), .bool ((⟨(⟨v7, v8⟩ : pool_content), v1, false, (0 : Int), (0 : Int), true, true⟩ : pool_frame).dirty), .int .i64 ((⟨(⟨v7, v8⟩ : pool_content), v1, false, (0 : Int), (0 : Int), true, true⟩ : pool_frame).first), .int .i64 ((⟨(⟨v7, v8⟩ : pool_content), v1, false, (0 : Int), (0 : Int), true, true⟩ : pool_frame).pins), .bool ((⟨(⟨v7, v8⟩ : pool_content), v1, false, (0 : Int), (0 : Int), true, true⟩ : pool_frame).used), .bool ((⟨(⟨v7, v8⟩ : pool_content), v1, false, (0 : Int), (0 : Int), true, true⟩ : pool_frame).filled)] y1_ 0 (K [(0, v0), (10, v10)]))) := by kernel_rfl
@[go_sem] theorem c90_r16 (v0 v10 : Option Addr) : RP c90 16 [(0, v0), (10, v10)] K =
 (nn v0 fun y1_ => (ld eI (y1_.add 5) fun (y2_ : Int) => (nn v0 fun y3_ => (st (y3_.add 5) (IntKind.wrap .i64 (y2_ + 1)) (K [(10, v10)]))))) := by kernel_rfl
@[go_sem] theorem c90_r17 (v10 : Option Addr) : RP c90 17 [(10, v10)] K =
 (K [(4, v10), (5, .int .i64 0)]) := by kernel_rfl
@[go_sem] theorem c90_o : c90.lo 1000000 = [4, 5] := rfl
@[go_sem] theorem c90_e (v4 : Option Addr) (v5 : Int) : RTp c90 [(4, v4), (5, v5)] k = (k (.tuple #[v4, v5])) := by kernel_rfl
theorem c90_ok : (c90.P.follows .mixedOrders && okc c90 c90.body) = true := by kernel_rfl
theorem c90_fn (hρ : envA 0 args.toList = ρ) (hs : Nat.ble args.size 75 = true) (h : E L (D c90 (.seq (.reg 0) (.seq (.seq (.reg 1) (.seq (.reg 2) (.cond (.tmp 16) (.seq (.reg 3) (.seq (.reg 4) (.ret))) (.skip)))) (.seq (.reg 5) (.seq (.seq (.reg 6) (.cond (.tmp 40) (.seq (.reg 7) (.ret)) (.skip))) (.seq (.reg 8) (.seq (.seq (.reg 9) (.cond (.tmp 48) (.seq (.reg 10) (.ret)) (.skip))) (.seq (.seq (.reg 11) (.cond (.tmp 53) (.seq (.reg 12) (.seq (.reg 13) (.cond (.tmp 58) (.seq (.reg 14) (.ret)) (.skip)))) (.skip))) (.seq (.reg 15) (.seq (.reg 16) (.seq (.reg 17) (.ret))))))))))) (fnQ c90 e G) ρ)) : E L (cal e Tryz.prog 90 args G) :=
  d_fn (c := c90) Tryz.func90 (by kernel_rfl) (by kernel_rfl) (by kernel_rfl) c90_ok (by kernel_rfl) (by kernel_rfl) hρ hs h
noncomputable def c91 := cf Tryz.f91 35 [(0, [0, 1]), (1, [0, 1]), (2, [0, 1, 11, 12]), (3, [0, 1, 11, 12]), (4, [0, 1, 5, 11, 12]), (5, [0, 1, 6, 11, 12]), (6, [6]), (7, [0, 1, 11, 12]), (8, [])] [(0, [0, 1]), (1, [0, 1, 11, 12]), (2, [0, 1, 11, 12, 13]), (3, [0, 1, 5, 11, 12]), (4, [0, 1, 6, 11, 12]), (5, [0, 1, 6, 11, 12, 32]), (6, [4]), (7, [0, 1, 11, 12]), (8, [4]), (1000000, [4])] [] []
@[go_sem] theorem c91_i : c91.li 0 = [0, 1] ∧ c91.li 1 = [0, 1] ∧ c91.li 2 = [0, 1, 11, 12] ∧ c91.li 3 = [0, 1, 11, 12] ∧ c91.li 4 = [0, 1, 5, 11, 12] ∧ c91.li 5 = [0, 1, 6, 11, 12] ∧ c91.li 6 = [6] ∧ c91.li 7 = [0, 1, 11, 12] ∧ c91.li 8 = [] := ⟨rfl, rfl, rfl, rfl, rfl, rfl, rfl, rfl, rfl⟩
@[go_sem] theorem c91_r0 (v0 : Option Addr) (v1 : Int) : RP c91 0 [(0, v0), (1, v1)] K =
 (K [(0, v0), (1, v1)]) := by kernel_rfl
@[go_sem] theorem c91_r1 (v0 : Option Addr) (v1 : Int) : RP c91 1 [(0, v0), (1, v1)] K =
 (nn v0 fun y1_ => (ld eSl (y1_.add 2) fun (y2_ : (Option Addr × Nat × Nat)) => (K [(0, v0), (1, v1), (11, .int .i64 (y2_.2.1 : Int)), (12, .int .i64 0)]))) := by kernel_rfl
@[go_sem] theorem c91_r2 (v0 : Option Addr) (v1 v11 v12 : Int) : RP c91 2 [(0, v0), (1, v1), (11, v11), (12, v12)] K =
 (K [(0, v0), (1, v1), (11, v11), (12, v12), (13, decide (v12 < v11))]) := by kernel_rfl
@[go_sem] theorem c91_r3 (v0 : Option Addr) (v1 v11 v12 : Int) : RP c91 3 [(0, v0), (1, v1), (11, v11), (12, v12)] K =
 (K [(0, v0), (1, v1), (5, v12), (11, v11), (12, v12)]) := by kernel_rfl
@[go_sem] theorem c91_r4 (v0 : Option Addr) (v1 v5 v11 v12 : Int) : RP c91 4 [(0, v0), (1, v1), (5, v5), (11, v11), (12, v12)] K =
 (nn v0 fun y1_ => (ld eSl (y1_.add 2) fun (y2_ : (Option Addr × Nat × Nat)) => (rq (0 ≤ v5 ∧ v5 < (y2_.2.1 : Int)) (nn y2_.1 fun y3_ => (K [(0, v0), (1, v1), (6, .pointer (some (Addr.add y3_ (v5.toNat * 8)))), (11, v11), (12, v12)]))))) := by kernel_rfl
@[go_sem] theorem c91_r5 (v0 : Option Addr) (v1 : Int) (v6 : Addr) (v11 v12 : Int) : RP c91 5 [(0, v0), (1, v1), (6, v6), (11, v11), (12, v12)] K =
 (ld eB (v6.add 7) fun (y1_ : Bool) => (cnd y1_ (ld eI (v6.add 2) fun (y2_ : Int) => (K [(0, v0), (1, v1), (6, v6), (11, v11), (12, v12), (32, .bool (y2_ == v1))])) (K [(0, v0), (1, v1), (6, v6), (11, v11), (12, v12), (32, false)]))) := by kernel_rfl
@[go_sem] theorem c91_r6 (v6 : Addr) : RP c91 6 [(6, v6)] K =
 (K [(4, v6)]) := by kernel_rfl
@[go_sem] theorem c91_r7 (v0 : Option Addr) (v1 v11 v12 : Int) : RP c91 7 [(0, v0), (1, v1), (11, v11), (12, v12)] K =
 (K [(0, v0), (1, v1), (11, v11), (12, IntKind.wrap .i64 (v12 + 1))]) := by kernel_rfl
@[go_sem] theorem c91_r8 : RP c91 8 [] K =
 (K [(4, .pointer none)]) := by kernel_rfl
@[go_sem] theorem c91_o : c91.lo 1000000 = [4] := rfl
@[go_sem] theorem c91_e (v4 : Option Addr) : RTp c91 [(4, v4)] k = (k (v4)) := by kernel_rfl
theorem c91_ok : (c91.P.follows .mixedOrders && okc c91 c91.body) = true := by kernel_rfl
theorem c91_fn (hρ : envA 0 args.toList = ρ) (hs : Nat.ble args.size 35 = true) (h : E L (D c91 (.seq (.reg 0) (.seq (.seq (.reg 1) (.block 0 (.loop (.seq (.reg 2) (.seq (.cond (.tmp 13) (.skip) (.exit 0)) (.seq (.block 1 (.seq (.reg 3) (.seq (.reg 4) (.seq (.reg 5) (.cond (.tmp 32) (.seq (.reg 6) (.ret)) (.skip)))))) (.reg 7))))))) (.seq (.reg 8) (.ret)))) (fnQ c91 e G) ρ)) : E L (cal e Tryz.prog 91 args G) :=
  d_fn (c := c91) Tryz.func91 (by kernel_rfl) (by kernel_rfl) (by kernel_rfl) c91_ok (by kernel_rfl) (by kernel_rfl) hρ hs h
noncomputable def c95 := cf Tryz.f95 69 [(0, [0, 1]), (1, [0, 1]), (2, []), (3, [0, 1]), (4, [0, 1, 5]), (5, [5]), (6, [0, 1]), (7, [0, 1, 6]), (8, [6]), (9, [0, 1]), (10, [0, 1, 7]), (11, [7]), (12, [0, 1]), (13, [0]), (14, [])] [(0, [0, 1]), (1, [0, 1, 12]), (2, [4]), (3, [0, 1, 5]), (4, [0, 1, 5, 24]), (5, [4]), (6, [0, 1, 6]), (7, [0, 1, 6, 46]), (8, [4]), (9, [0, 1, 7]), (10, [0, 1, 7, 54]), (11, [4]), (12, [0]), (13, []), (14, [4]), (1000000, [4])] [(3, (true, [(0, 1), (1, 1), (2, 1), (3, 0), (4, 1), (5, 1), (6, 1), (7, 1), (8, 0), (9, 4), (10, 1)])), (6, (true, [(0, 1), (1, 1), (2, 1), (3, 0), (4, 1), (5, 1), (6, 1), (7, 0), (8, 1), (9, 1), (10, 1), (11, 1), (12, 0), (13, 1), (14, 1), (15, 1), (16, 1), (17, 0), (18, 4), (19, 1)]))] []
@[go_sem] theorem c95_i : c95.li 0 = [0, 1] ∧ c95.li 1 = [0, 1] ∧ c95.li 2 = [] ∧ c95.li 3 = [0, 1] ∧ c95.li 4 = [0, 1, 5] ∧ c95.li 5 = [5] ∧ c95.li 6 = [0, 1] ∧ c95.li 7 = [0, 1, 6] ∧ c95.li 8 = [6] ∧ c95.li 9 = [0, 1] ∧ c95.li 10 = [0, 1, 7] ∧ c95.li 11 = [7] ∧ c95.li 12 = [0, 1] ∧ c95.li 13 = [0] ∧ c95.li 14 = [] := ⟨rfl, rfl, rfl, rfl, rfl, rfl, rfl, rfl, rfl, rfl, rfl, rfl, rfl, rfl, rfl⟩
@[go_sem] theorem c95_r0 (v0 v1 : Option Addr) : RP c95 0 [(0, v0), (1, v1)] K =
 (K [(0, v0), (1, v1)]) := by kernel_rfl
@[go_sem] theorem c95_r1 (v0 v1 : Option Addr) : RP c95 1 [(0, v0), (1, v1)] K =
 (nn v1 fun y1_ => (ld eB (y1_.add 3) fun (y2_ : Bool) => (K [(0, v0), (1, v1), (12, .bool (!y2_))]))) := by kernel_rfl
@[go_sem] theorem c95_r2 : RP c95 2 [] K =
 (K [(4, .int .i64 0)]) := by kernel_rfl
@[go_sem] theorem c95_r3 (v0 v1 : Option Addr) : RP c95 3 [(0, v0), (1, v1)] K =
 (ph fun S0 => (nn v0 fun y1_ => (ldq S0 eP (y1_.add 1) fun (y2_ : Option Addr) => (nn v1 fun y3_ => (ldq S0 eI (y3_.add 1) fun (y4_ : Int) => (cal eI Tryz.prog 40 #[y2_, y4_] fun (y5_ : Int) => (K [(0, v0), (1, v1), (5, y5_)]))))))) := by kernel_rfl
@[go_sem] theorem c95_r4 (v0 v1 : Option Addr) (v5 : Int) : RP c95 4 [(0, v0), (1, v1), (5, v5)] K =
 (K [(0, v0), (1, v1), (5, v5), (24, .bool (v5 != 0))]) := by kernel_rfl
@[go_sem] theorem c95_r5 (v5 : Int) : RP c95 5 [(5, v5)] K =
 (K [(4, v5)]) := by kernel_rfl
@[go_sem] theorem c95_r6 (v0 v1 : Option Addr) : RP c95 6 [(0, v0), (1, v1)] K =
 (ph fun S0 => (nn v0 fun y1_ => (ldq S0 eP y1_ fun (y2_ : Option Addr) => (nn v1 fun y3_ => (ldq S0 eI (y3_.add 2) fun (y4_ : Int) => (nn v1 fun y5_ => (ldq S0 eS y5_ fun (y6_ : List UInt8) => (nn v1 fun y7_ => (ldq S0 eI (y7_.add 1) fun (y8_ : Int) => (cal eI Tryz.prog 121 #[y2_, y4_, str y6_, y8_] fun (y9_ : Int) => (K [(0, v0), (1, v1), (6, y9_)]))))))))))) := by kernel_rfl
@[go_sem] theorem c95_r7 (v0 v1 : Option Addr) (v6 : Int) : RP c95 7 [(0, v0), (1, v1), (6, v6)] K =
 (K [(0, v0), (1, v1), (6, v6), (46, .bool (v6 != 0))]) := by kernel_rfl
@[go_sem] theorem c95_r8 (v6 : Int) : RP c95 8 [(6, v6)] K =
 (K [(4, v6)]) := by kernel_rfl
@[go_sem] theorem c95_r9 (v0 v1 : Option Addr) : RP c95 9 [(0, v0), (1, v1)] K =
 (nn v0 fun y1_ => (ld eP y1_ fun (y2_ : Option Addr) => (cal eI Tryz.prog 122 #[y2_] fun (y3_ : Int) => (K [(0, v0), (1, v1), (7, y3_)])))) := by kernel_rfl
@[go_sem] theorem c95_r10 (v0 v1 : Option Addr) (v7 : Int) : RP c95 10 [(0, v0), (1, v1), (7, v7)] K =
 (K [(0, v0), (1, v1), (7, v7), (54, .bool (v7 != 0))]) := by kernel_rfl
@[go_sem] theorem c95_r11 (v7 : Int) : RP c95 11 [(7, v7)] K =
 (K [(4, v7)]) := by kernel_rfl
@[go_sem] theorem c95_r12 (v0 v1 : Option Addr) : RP c95 12 [(0, v0), (1, v1)] K =
 (nn v1 fun y1_ => (st (y1_.add 3) (false) (nn v1 fun y2_ => (st (y2_.add 4) (.int .i64 0) (K [(0, v0)]))))) := by kernel_rfl
@[go_sem] theorem c95_r13 (v0 : Option Addr) : RP c95 13 [(0, v0)] K =
 (nn v0 fun y1_ => (ld eI (y1_.add 4) fun (y2_ : Int) => (nn v0 fun y3_ => (st (y3_.add 4) (IntKind.wrap .i64 (y2_ + 1)) (K []))))) := by kernel_rfl
@[go_sem] theorem c95_r14 : RP c95 14 [] K =
 (K [(4, .int .i64 0)]) := by kernel_rfl
@[go_sem] theorem c95_o : c95.lo 1000000 = [4] := rfl
@[go_sem] theorem c95_e (v4 : Int) : RTp c95 [(4, v4)] k = (k (v4)) := by kernel_rfl
theorem c95_ok : (c95.P.follows .mixedOrders && okc c95 c95.body) = true := by kernel_rfl
theorem c95_fn (hρ : envA 0 args.toList = ρ) (hs : Nat.ble args.size 69 = true) (h : E L (D c95 (.seq (.reg 0) (.seq (.seq (.reg 1) (.cond (.tmp 12) (.seq (.reg 2) (.ret)) (.skip))) (.seq (.seq (.reg 3) (.seq (.reg 4) (.cond (.tmp 24) (.seq (.reg 5) (.ret)) (.skip)))) (.seq (.seq (.reg 6) (.seq (.reg 7) (.cond (.tmp 46) (.seq (.reg 8) (.ret)) (.skip)))) (.seq (.seq (.reg 9) (.seq (.reg 10) (.cond (.tmp 54) (.seq (.reg 11) (.ret)) (.skip)))) (.seq (.reg 12) (.seq (.reg 13) (.seq (.reg 14) (.ret))))))))) (fnQ c95 e G) ρ)) : E L (cal e Tryz.prog 95 args G) :=
  d_fn (c := c95) Tryz.func95 (by kernel_rfl) (by kernel_rfl) (by kernel_rfl) c95_ok (by kernel_rfl) (by kernel_rfl) hρ hs h
noncomputable def c120 := cf Tryz.f120 60 [(0, [0]), (1, [0]), (2, [0, 11, 12]), (3, [0, 11, 12]), (4, [0, 4, 11, 12]), (5, [4]), (6, [0, 4, 11, 12]), (7, [4]), (8, [0, 4, 11, 12]), (9, [0, 4, 11, 12]), (10, [0, 4, 11, 12]), (11, [0, 11, 12]), (12, [])] [(0, [0]), (1, [0, 11, 12]), (2, [0, 11, 12, 13]), (3, [0, 4, 11, 12]), (4, [0, 4, 11, 12]), (5, [2, 3]), (6, [0, 4, 11, 12, 38]), (7, [2, 3]), (8, [0, 4, 11, 12, 45]), (9, [0, 4, 11, 12, 51]), (10, [0, 11, 12]), (11, [0, 11, 12]), (12, [2, 3]), (1000000, [2, 3])] [(3, (true, [(0, 1), (1, 1), (2, 1), (3, 0), (4, 1), (5, 1), (6, 1), (7, 0), (8, 1), (9, 1)])), (4, (true, [(0, 1), (1, 1), (2, 1), (3, 1), (4, 0), (5, 1), (6, 1), (7, 1), (8, 1), (9, 0), (10, 1), (11, 1), (12, 1), (13, 1), (14, 4)]))] []
@[go_sem] theorem c120_i : c120.li 0 = [0] ∧ c120.li 1 = [0] ∧ c120.li 2 = [0, 11, 12] ∧ c120.li 3 = [0, 11, 12] ∧ c120.li 4 = [0, 4, 11, 12] ∧ c120.li 5 = [4] ∧ c120.li 6 = [0, 4, 11, 12] ∧ c120.li 7 = [4] ∧ c120.li 8 = [0, 4, 11, 12] ∧ c120.li 9 = [0, 4, 11, 12] ∧ c120.li 10 = [0, 4, 11, 12] ∧ c120.li 11 = [0, 11, 12] ∧ c120.li 12 = [] := ⟨rfl, rfl, rfl, rfl, rfl, rfl, rfl, rfl, rfl, rfl, rfl, rfl, rfl⟩
@[go_sem] theorem c120_r0 (v0 : Option Addr) : RP c120 0 [(0, v0)] K =
 (K [(0, v0)]) := by kernel_rfl
@[go_sem] theorem c120_r1 (v0 : Option Addr) : RP c120 1 [(0, v0)] K =
 (nn v0 fun y1_ => (ld eSl (y1_.add 2) fun (y2_ : (Option Addr × Nat × Nat)) => (K [(0, v0), (11, IntKind.wrap .i64 ((IntKind.wrap .i64 ((2 : Int) * (y2_.2.1 : Int))) + 1)), (12, .int .i64 0)]))) := by kernel_rfl
@[go_sem] theorem c120_r2 (v0 : Option Addr) (v11 v12 : Int) : RP c120 2 [(0, v0), (11, v11), (12, v12)] K =
 (K [(0, v0), (11, v11), (12, v12), (13, decide (v12 < v11))]) := by kernel_rfl
@[go_sem] theorem c120_r3 (v0 : Option Addr) (v11 v12 : Int) : RP c120 3 [(0, v0), (11, v11), (12, v12)] K =
 (ph fun S0 => (nn v0 fun y1_ => (ldq S0 eSl (y1_.add 2) fun (y2_ : (Option Addr × Nat × Nat)) => (nn v0 fun y3_ => (ldq S0 eI (y3_.add 3) fun (y4_ : Int) => (rq (0 ≤ y4_ ∧ y4_ < (y2_.2.1 : Int)) (nn y2_.1 fun y5_ => (K [(0, v0), (4, .pointer (some (Addr.add y5_ (y4_.toNat * 8)))), (11, v11), (12, v12)])))))))) := by kernel_rfl
@[go_sem] theorem c120_r4 (v0 : Option Addr) (v4 : Addr) (v11 v12 : Int) : RP c120 4 [(0, v0), (4, v4), (11, v11), (12, v12)] K =
 (ph fun S0 => (nn v0 fun y1_ => (ldq S0 eI (y1_.add 3) fun (y2_ : Int) => (nn v0 fun y3_ => (ldq S0 eSl (y3_.add 2) fun (y4_ : (Option Addr × Nat × Nat)) => (rq ((y4_.2.1 : Int) ≠ 0) (nn v0 fun y5_ => (st (y5_.add 3) (.int .i64 ((IntKind.wrap .i64 (y2_ + 1)).tmod (y4_.2.1 : Int))) (K [(0, v0), (4, v4), (11, v11), (12, v12)]))))))))) := by kernel_rfl
@[go_sem] theorem c120_r5 (v4 : Addr) : RP c120 5 [(4, v4)] K =
 (K [(2, v4), (3, .int .i64 0)]) := by kernel_rfl
@[go_sem] theorem c120_r6 (v0 : Option Addr) (v4 : Addr) (v11 v12 : Int) : RP c120 6 [(0, v0), (4, v4), (11, v11), (12, v12)] K =
 (ld eB (v4.add 7) fun (y1_ : Bool) => (K [(0, v0), (4, v4), (11, v11), (12, v12), (38, .bool (!y1_))])) := by kernel_rfl
@[go_sem] theorem c120_r7 (v4 : Addr) : RP c120 7 [(4, v4)] K =
 (K [(2, v4), (3, .int .i64 0)]) := by kernel_rfl
@[go_sem] theorem c120_r8 (v0 : Option Addr) (v4 : Addr) (v11 v12 : Int) : RP c120 8 [(0, v0), (4, v4), (11, v11), (12, v12)] K =
 (ld eI (v4.add 5) fun (y1_ : Int) => (K [(0, v0), (4, v4), (11, v11), (12, v12), (45, decide (0 < y1_))])) := by kernel_rfl
@[go_sem] theorem c120_r9 (v0 : Option Addr) (v4 : Addr) (v11 v12 : Int) : RP c120 9 [(0, v0), (4, v4), (11, v11), (12, v12)] K =
 (ld eB (v4.add 6) fun (y1_ : Bool) => (K [(0, v0), (4, v4), (11, v11), (12, v12), (51, y1_)])) := by kernel_rfl
@[go_sem] theorem c120_r10 (v0 : Option Addr) (v4 : Addr) (v11 v12 : Int) : RP c120 10 [(0, v0), (4, v4), (11, v11), (12, v12)] K =
 (st (v4.add 6) (false) (K [(0, v0), (11, v11), (12, v12)])) := by kernel_rfl
@[go_sem] theorem c120_r11 (v0 : Option Addr) (v11 v12 : Int) : RP c120 11 [(0, v0), (11, v11), (12, v12)] K =
 (K [(0, v0), (11, v11), (12, IntKind.wrap .i64 (v12 + 1))]) := by kernel_rfl
@[go_sem] theorem c120_r12 : RP c120 12 [] K =
 (K [(2, .pointer none), (3, .int .i64 7)]) := by kernel_rfl
@[go_sem] theorem c120_o : c120.lo 1000000 = [2, 3] := rfl
@[go_sem] theorem c120_e (v2 : Option Addr) (v3 : Int) : RTp c120 [(2, v2), (3, v3)] k = (k (.tuple #[v2, v3])) := by kernel_rfl
theorem c120_ok : (c120.P.follows .mixedOrders && okc c120 c120.body) = true := by kernel_rfl
theorem c120_fn (hρ : envA 0 args.toList = ρ) (hs : Nat.ble args.size 60 = true) (h : E L (D c120 (.seq (.reg 0) (.seq (.seq (.reg 1) (.block 0 (.loop (.seq (.reg 2) (.seq (.cond (.tmp 13) (.skip) (.exit 0)) (.seq (.block 1 (.seq (.reg 3) (.seq (.reg 4) (.block 2 (.seq (.reg 6) (.cond (.tmp 38) (.seq (.reg 7) (.ret)) (.seq (.reg 8) (.cond (.tmp 45) (.skip) (.seq (.reg 9) (.cond (.tmp 51) (.reg 10) (.seq (.reg 5) (.ret)))))))))))) (.reg 11))))))) (.seq (.reg 12) (.ret)))) (fnQ c120 e G) ρ)) : E L (cal e Tryz.prog 120 args G) :=
  d_fn (c := c120) Tryz.func120 (by kernel_rfl) (by kernel_rfl) (by kernel_rfl) c120_ok (by kernel_rfl) (by kernel_rfl) hρ hs h
end Go.Sp
namespace Go.Sp
open Go Go.Proofs
set_option linter.unusedSimpArgs false
set_option linter.unusedVariables false
set_option maxRecDepth 10000
structure Fr where
  text : List UInt8
  lsn : Int
  id : Int
  dirty : Bool
  first : Int
  pins : Int
  used : Bool
  filled : Bool
abbrev cFr (f : Fr) : List Value := [str f.text, .int .i64 f.lsn, .int .i64 f.id, .bool f.dirty, .int .i64 f.first, .int .i64 f.pins, .bool f.used, .bool f.filled]
theorem cFr_len (f : Fr) : (cFr f).length = 8 := rfl
structure Po where
  q : Nat
  fb : Nat
  st : Nat
  lg : Nat
  fs : List Fr
  hand : Nat
  writes : Int
  loads : Int
abbrev ppt (P : Po) : HP := ar P.q 96 [.pointer (some ⟨P.st, 0, none⟩), .pointer (some ⟨P.lg, 0, none⟩), .slice (some ⟨P.fb, 0, none⟩) P.fs.length P.fs.length, .int .i64 (P.hand : Int), .int .i64 P.writes, .int .i64 P.loads]
abbrev pfs (P : Po) : HP := ar P.fb 134 (P.fs.flatMap cFr)
abbrev Po.p (P : Po) : Value := .pointer (some ⟨P.q, 0, none⟩)
abbrev Po.f (P : Po) (i : Nat) : Addr := ⟨P.fb, i * 8, none⟩
structure Po.ok (P : Po) : Prop where
  n2 : 2 ≤ P.fs.length
  n64 : P.fs.length ≤ 64
  h : P.hand < P.fs.length
theorem g89 (P : Po) (h : P.ok) : Fp eB Tryz.prog 89 #[P.p] [ppt P] false := fun L => by
  have := h.n2
  refine c89_fn rfl rfl ?_
  repeat' (first | (with_reducible first | refine d_seq fun K hK => ?_ | (refine hK _ _ ?_; clear hK K) | (refine SG.p ?_; try intro b)) | refine i_c ?_ ?_ <;> intro hc <;> try simp only [push_cast, seval] at hc | refine i_x ?_ | clear hK K)
  (with_reducible first | apply i_ret0 | apply i_ret2 | apply i_ret3 | apply i_ret); exact rfl
  rw [beq_eq_false_iff_ne]
  omega
def fndf (id : Int) : List Fr → Nat → Option Nat
  | [], _ => none
  | f :: r, i => if f.filled = true ∧ f.id = id then some i else fndf id r (i + 1)
def Po.find (P : Po) (id : Int) : Option Nat := fndf id P.fs 0
set_option maxHeartbeats 1000000 in
theorem g91 (P : Po) (h : P.ok) (id : Int) : Fp eP Tryz.prog 91 #[P.p, .int .i64 id] [ppt P, pfs P] ((P.find id).map P.f) := fun L => by
  have h64 := h.n64
  refine c91_fn rfl rfl ?_
  generalize hB : P.find id = B
  repeat' (first | (with_reducible first | refine d_seq fun K hK => ?_ | (refine hK _ _ ?_; clear hK K) | (refine SG.p ?_; try intro b)) | refine i_c ?_ ?_ <;> intro hc <;> try simp only [push_cast, seval] at hc | refine i_x ?_ | clear hK K)
  refine d_lp [0, 1, 11, 12] (fun i : Nat => [(0, .pointer (some ⟨P.q, 0, none⟩)), (1, .int .i64 id), (11, .int .i64 (P.fs.length : Int)), (12, .int .i64 (i : Int))])
    (fun _ => ppt P :: pfs P :: L) (fun i => i ≤ P.fs.length ∧ fndf id (P.fs.drop i) i = B) (fun i => P.fs.length - i) 0 rfl SX.p ⟨Nat.zero_le _, hB⟩ ?_
  rintro i ⟨hi, hf⟩
  by_cases hil : i < P.fs.length
  · have hx : P.fs[i]? = some P.fs[i] := List.getElem?_eq_getElem hil
    rw [List.drop_eq_getElem_cons hil] at hf
    generalize P.fs[i] = f at *
    unfold fndf at hf
    by_cases hc0 : f.filled = true ∧ f.id = id
    · rw [if_pos hc0] at hf
      subst hf
      repeat' (first | (with_reducible first | refine d_seq fun K hK => ?_ | (refine hK _ _ ?_; clear hK K) | (refine SG.p ?_; try intro b)) | refine i_c ?_ ?_ <;> intro hc <;> try simp only [push_cast, seval] at hc | refine i_x ?_ | clear hK K)
      all_goals try (exfalso; omega)
      refine i_fl (e := eB) (y := f.filled) cFr_len hx rfl ?_
      rw [hc0.1]
      repeat' (first | (with_reducible first | refine d_seq fun K hK => ?_ | (refine hK _ _ ?_; clear hK K) | (refine SG.p ?_; try intro b)) | refine i_c ?_ ?_ <;> intro hc <;> try simp only [push_cast, seval] at hc | refine i_x ?_ | clear hK K)
      all_goals try contradiction
      refine i_fl (e := eI) (y := f.id) cFr_len hx rfl ?_
      rw [hc0.2]
      repeat' (first | (with_reducible first | refine d_seq fun K hK => ?_ | (refine hK _ _ ?_; clear hK K) | (refine SG.p ?_; try intro b)) | refine i_c ?_ ?_ <;> intro hc <;> try simp only [push_cast, seval] at hc | refine i_x ?_ | clear hK K)
      all_goals try contradiction
      (with_reducible first | apply i_ret0 | apply i_ret2 | apply i_ret3 | apply i_ret); exact rfl
      rfl
    · rw [if_neg hc0] at hf
      repeat' (first | (with_reducible first | refine d_seq fun K hK => ?_ | (refine hK _ _ ?_; clear hK K) | (refine SG.p ?_; try intro b)) | refine i_c ?_ ?_ <;> intro hc <;> try simp only [push_cast, seval] at hc | refine i_x ?_ | clear hK K)
      all_goals try (exfalso; omega)
      refine i_fl (e := eB) (y := f.filled) cFr_len hx rfl ?_
      repeat' (first | (with_reducible first | refine d_seq fun K hK => ?_ | (refine hK _ _ ?_; clear hK K) | (refine SG.p ?_; try intro b)) | refine i_c ?_ ?_ <;> intro hc <;> try simp only [push_cast, seval] at hc | refine i_x ?_ | clear hK K)
      · refine i_fl (e := eI) (y := f.id) cFr_len hx rfl ?_
        repeat' (first | (with_reducible first | refine d_seq fun K hK => ?_ | (refine hK _ _ ?_; clear hK K) | (refine SG.p ?_; try intro b)) | refine i_c ?_ ?_ <;> intro hc <;> try simp only [push_cast, seval] at hc | refine i_x ?_ | clear hK K)
        · exact absurd ⟨by assumption, by assumption⟩ hc0
        · rw [w64 (by omega) (by omega)]
          exact i_bk (i + 1) rfl ⟨by omega, hf⟩ (by omega)
      · rw [w64 (by omega) (by omega)]
        exact i_bk (i + 1) rfl ⟨by omega, hf⟩ (by omega)
  · rw [List.drop_eq_nil_of_le (by omega)] at hf
    unfold fndf at hf
    subst hf
    repeat' (first | (with_reducible first | refine d_seq fun K hK => ?_ | (refine hK _ _ ?_; clear hK K) | (refine SG.p ?_; try intro b)) | refine i_c ?_ ?_ <;> intro hc <;> try simp only [push_cast, seval] at hc | refine i_x ?_ | clear hK K)
    all_goals try (exfalso; omega)
    (with_reducible first | apply i_ret0 | apply i_ret2 | apply i_ret3 | apply i_ret); exact rfl
    rfl
def Po.turn (P : Po) : Po := { P with hand := (P.hand + 1) % P.fs.length }
def Po.at (P : Po) (i : Nat) : Fr := P.fs.getD i ⟨[], 0, 0, false, 0, 0, false, false⟩
def vic : Nat → Po → Option Nat × Po
  | 0, P => (none, P)
  | k + 1, P => if (P.at P.hand).filled = false then (some P.hand, P.turn) else if 0 < (P.at P.hand).pins then vic k P.turn
    else if (P.at P.hand).used = true then vic k { P.turn with fs := P.fs.set P.hand { P.at P.hand with used := false } } else (some P.hand, P.turn)
theorem turn_ok {P : Po} (h : P.ok) : P.turn.ok := ⟨h.n2, h.n64, Nat.mod_lt _ (by have := h.n2; show 0 < P.fs.length; omega)⟩
abbrev Po.wi (P : Po) (fs : List Fr) (h : Nat) : Po := { P with fs := fs, hand := h }
theorem vic_step {P : Po} {fs : List Fr} {h : Nat} {f : Fr} (hx : fs[h]? = some f) (k : Nat) : vic (k + 1) (P.wi fs h) = if f.filled = false then (some h, P.wi fs ((h + 1) % fs.length)) else if 0 < f.pins then vic k (P.wi fs ((h + 1) % fs.length))
    else if f.used = true then vic k (P.wi (fs.set h { f with used := false }) ((h + 1) % fs.length)) else (some h, P.wi fs ((h + 1) % fs.length)) := by
  have e : (P.wi fs h).at h = f := by
    unfold Po.at
    rw [List.getD_eq_getElem?_getD]
    show fs[h]?.getD _ = f
    rw [hx]
    rfl
  show (if ((P.wi fs h).at h).filled = false then _ else _) = _
  rw [e]
  rfl
set_option maxHeartbeats 2000000 in
theorem g120 (P : Po) (h : P.ok) : Fq (eT2 eP eI) Tryz.prog 120 #[P.p] [ppt P, pfs P] [ppt (vic (2 * P.fs.length + 1) P).2, pfs (vic (2 * P.fs.length + 1) P).2] ((vic (2 * P.fs.length + 1) P).1.map P.f, if (vic (2 * P.fs.length + 1) P).1.isSome then 0 else 7) := fun L => by
  have h64 := h.n64
  have h2 := h.n2
  generalize hB : vic (2 * P.fs.length + 1) P = B
  refine c120_fn rfl rfl ?_
  have e11 : IntKind.wrap .i64 (IntKind.wrap .i64 (2 * (P.fs.length : Int)) + 1) = ((2 * P.fs.length + 1 : Nat) : Int) := by rw [w64 (n := 2 * (P.fs.length : Int)) (by omega) (by omega), w64 (by omega) (by omega)]; omega
  repeat' (first | rw [e11] | first | (with_reducible first | refine d_seq fun K hK => ?_ | (refine hK _ _ ?_; clear hK K) | (refine SG.p ?_; try intro b)) | refine i_c ?_ ?_ <;> intro hc <;> try simp only [push_cast, seval] at hc | refine i_x ?_ | clear hK K)
  refine d_lp [0, 11, 12] (fun t : Nat × List Fr × Nat => [(0, .pointer (some ⟨P.q, 0, none⟩)), (11, .int .i64 ((2 * P.fs.length + 1 : Nat) : Int)), (12, .int .i64 (t.1 : Int))])
    (fun t => ppt (P.wi t.2.1 t.2.2) :: pfs (P.wi t.2.1 t.2.2) :: L) (fun t => t.1 ≤ 2 * P.fs.length + 1 ∧ t.2.1.length = P.fs.length ∧ t.2.2 < P.fs.length ∧ vic (2 * P.fs.length + 1 - t.1) (P.wi t.2.1 t.2.2) = B) (fun t => 2 * P.fs.length + 1 - t.1) (0, P.fs, P.hand) rfl SX.p ⟨Nat.zero_le _, rfl, h.h, hB⟩ ?_
  clear hB e11
  rintro ⟨i, fs, hd⟩ ⟨i1, i2, i3, i4⟩
  dsimp only at i1 i2 i3 i4 ⊢
  by_cases hi : i < 2 * P.fs.length + 1
  · obtain ⟨k, hk⟩ : ∃ k, 2 * P.fs.length + 1 - i = k + 1 := ⟨2 * P.fs.length - i, by omega⟩
    have hx : fs[hd]? = some fs[hd] := List.getElem?_eq_getElem (by omega)
    generalize fs[hd] = f at *
    rw [hk, vic_step hx] at i4
    have hm : (hd + 1) % fs.length < P.fs.length := by rw [i2]; exact Nat.mod_lt _ (by omega)
    have e1 : (IntKind.wrap .i64 ((hd : Int) + 1)).tmod (fs.length : Int) = (((hd + 1) % fs.length : Nat) : Int) := by
      rw [w64 (by omega) (by omega), tm (by omega)]
      push_cast
      rfl
    have hk2 : 2 * P.fs.length + 1 - (i + 1) = k := by omega
    by_cases c1 : f.filled = false
    · rw [if_pos c1] at i4
      subst i4
      repeat' (first | rw [e1] | first | (with_reducible first | refine d_seq fun K hK => ?_ | (refine hK _ _ ?_; clear hK K) | (refine SG.p ?_; try intro b)) | refine i_c ?_ ?_ <;> intro hc <;> try simp only [push_cast, seval] at hc | refine i_x ?_ | clear hK K)
      all_goals try (exfalso; omega)
      refine r_ph0 ?_
      repeat' (first | rw [e1] | first | (with_reducible first | refine d_seq fun K hK => ?_ | (refine hK _ _ ?_; clear hK K) | (refine SG.p ?_; try intro b)) | refine i_c ?_ ?_ <;> intro hc <;> try simp only [push_cast, seval] at hc | refine i_x ?_ | clear hK K)
      refine r_ph0 ?_
      repeat' (first | rw [e1] | first | (with_reducible first | refine d_seq fun K hK => ?_ | (refine hK _ _ ?_; clear hK K) | (refine SG.p ?_; try intro b)) | refine i_c ?_ ?_ <;> intro hc <;> try simp only [push_cast, seval] at hc | refine i_x ?_ | clear hK K)
      refine i_fl (e := eB) (y := f.filled) cFr_len hx rfl ?_
      rw [c1]
      repeat' (first | (with_reducible first | refine d_seq fun K hK => ?_ | (refine hK _ _ ?_; clear hK K) | (refine SG.p ?_; try intro b)) | refine i_c ?_ ?_ <;> intro hc <;> try simp only [push_cast, seval] at hc | refine i_x ?_ | clear hK K)
      all_goals try contradiction
      (with_reducible first | apply i_ret0 | apply i_ret2 | apply i_ret3 | apply i_ret); exact rfl
      rfl
    · rw [if_neg c1] at i4
      have c1' : f.filled = true := by simpa using c1
      by_cases c2 : 0 < f.pins
      · rw [if_pos c2] at i4
        repeat' (first | rw [e1] | first | (with_reducible first | refine d_seq fun K hK => ?_ | (refine hK _ _ ?_; clear hK K) | (refine SG.p ?_; try intro b)) | refine i_c ?_ ?_ <;> intro hc <;> try simp only [push_cast, seval] at hc | refine i_x ?_ | clear hK K)
        all_goals try (exfalso; omega)
        refine r_ph0 ?_
        repeat' (first | rw [e1] | first | (with_reducible first | refine d_seq fun K hK => ?_ | (refine hK _ _ ?_; clear hK K) | (refine SG.p ?_; try intro b)) | refine i_c ?_ ?_ <;> intro hc <;> try simp only [push_cast, seval] at hc | refine i_x ?_ | clear hK K)
        refine r_ph0 ?_
        repeat' (first | rw [e1] | first | (with_reducible first | refine d_seq fun K hK => ?_ | (refine hK _ _ ?_; clear hK K) | (refine SG.p ?_; try intro b)) | refine i_c ?_ ?_ <;> intro hc <;> try simp only [push_cast, seval] at hc | refine i_x ?_ | clear hK K)
        refine i_fl (e := eB) (y := f.filled) cFr_len hx rfl ?_
        rw [c1']
        repeat' (first | (with_reducible first | refine d_seq fun K hK => ?_ | (refine hK _ _ ?_; clear hK K) | (refine SG.p ?_; try intro b)) | refine i_c ?_ ?_ <;> intro hc <;> try simp only [push_cast, seval] at hc | refine i_x ?_ | clear hK K)
        all_goals try contradiction
        refine i_fl (e := eI) (y := f.pins) cFr_len hx rfl ?_
        repeat' (first | (with_reducible first | refine d_seq fun K hK => ?_ | (refine hK _ _ ?_; clear hK K) | (refine SG.p ?_; try intro b)) | refine i_c ?_ ?_ <;> intro hc <;> try simp only [push_cast, seval] at hc | refine i_x ?_ | clear hK K)
        all_goals try (exfalso; omega)
        rw [w64 (by omega) (by omega)]
        exact i_bk (i + 1, fs, (hd + 1) % fs.length) rfl ⟨by dsimp only; omega, i2, hm, by dsimp only; rw [hk2]; exact i4⟩ (by dsimp only; omega)
      · rw [if_neg c2] at i4
        by_cases c3 : f.used = true
        · rw [if_pos c3] at i4
          repeat' (first | rw [e1] | first | (with_reducible first | refine d_seq fun K hK => ?_ | (refine hK _ _ ?_; clear hK K) | (refine SG.p ?_; try intro b)) | refine i_c ?_ ?_ <;> intro hc <;> try simp only [push_cast, seval] at hc | refine i_x ?_ | clear hK K)
          all_goals try (exfalso; omega)
          refine r_ph0 ?_
          repeat' (first | rw [e1] | first | (with_reducible first | refine d_seq fun K hK => ?_ | (refine hK _ _ ?_; clear hK K) | (refine SG.p ?_; try intro b)) | refine i_c ?_ ?_ <;> intro hc <;> try simp only [push_cast, seval] at hc | refine i_x ?_ | clear hK K)
          refine r_ph0 ?_
          repeat' (first | rw [e1] | first | (with_reducible first | refine d_seq fun K hK => ?_ | (refine hK _ _ ?_; clear hK K) | (refine SG.p ?_; try intro b)) | refine i_c ?_ ?_ <;> intro hc <;> try simp only [push_cast, seval] at hc | refine i_x ?_ | clear hK K)
          refine i_fl (e := eB) (y := f.filled) cFr_len hx rfl ?_
          rw [c1']
          repeat' (first | (with_reducible first | refine d_seq fun K hK => ?_ | (refine hK _ _ ?_; clear hK K) | (refine SG.p ?_; try intro b)) | refine i_c ?_ ?_ <;> intro hc <;> try simp only [push_cast, seval] at hc | refine i_x ?_ | clear hK K)
          all_goals try contradiction
          refine i_fl (e := eI) (y := f.pins) cFr_len hx rfl ?_
          repeat' (first | (with_reducible first | refine d_seq fun K hK => ?_ | (refine hK _ _ ?_; clear hK K) | (refine SG.p ?_; try intro b)) | refine i_c ?_ ?_ <;> intro hc <;> try simp only [push_cast, seval] at hc | refine i_x ?_ | clear hK K)
          all_goals try (exfalso; omega)
          refine i_fl (e := eB) (y := f.used) cFr_len hx rfl ?_
          rw [c3]
          repeat' (first | (with_reducible first | refine d_seq fun K hK => ?_ | (refine hK _ _ ?_; clear hK K) | (refine SG.p ?_; try intro b)) | refine i_c ?_ ?_ <;> intro hc <;> try simp only [push_cast, seval] at hc | refine i_x ?_ | clear hK K)
          all_goals try contradiction
          refine i_fs (j := 6) (v := .bool false) cFr_len hx { f with used := false } rfl rfl rfl ?_
          repeat' (first | (with_reducible first | refine d_seq fun K hK => ?_ | (refine hK _ _ ?_; clear hK K) | (refine SG.p ?_; try intro b)) | refine i_c ?_ ?_ <;> intro hc <;> try simp only [push_cast, seval] at hc | refine i_x ?_ | clear hK K)
          rw [w64 (by omega) (by omega)]
          have hl : (fs.set hd { f with used := false }).length = fs.length := List.length_set
          generalize fs.set hd { f with used := false } = fs' at *
          rw [← hl] at i4 ⊢
          exact i_bk (i + 1, fs', (hd + 1) % fs'.length) rfl ⟨by dsimp only; omega, by dsimp only; omega, by dsimp only; rw [hl]; exact hm, by dsimp only; rw [hk2]; exact i4⟩ (by dsimp only; omega)
        · rw [if_neg c3] at i4
          have c3' : f.used = false := by simpa using c3
          subst i4
          repeat' (first | rw [e1] | first | (with_reducible first | refine d_seq fun K hK => ?_ | (refine hK _ _ ?_; clear hK K) | (refine SG.p ?_; try intro b)) | refine i_c ?_ ?_ <;> intro hc <;> try simp only [push_cast, seval] at hc | refine i_x ?_ | clear hK K)
          all_goals try (exfalso; omega)
          refine r_ph0 ?_
          repeat' (first | rw [e1] | first | (with_reducible first | refine d_seq fun K hK => ?_ | (refine hK _ _ ?_; clear hK K) | (refine SG.p ?_; try intro b)) | refine i_c ?_ ?_ <;> intro hc <;> try simp only [push_cast, seval] at hc | refine i_x ?_ | clear hK K)
          refine r_ph0 ?_
          repeat' (first | rw [e1] | first | (with_reducible first | refine d_seq fun K hK => ?_ | (refine hK _ _ ?_; clear hK K) | (refine SG.p ?_; try intro b)) | refine i_c ?_ ?_ <;> intro hc <;> try simp only [push_cast, seval] at hc | refine i_x ?_ | clear hK K)
          refine i_fl (e := eB) (y := f.filled) cFr_len hx rfl ?_
          rw [c1']
          repeat' (first | (with_reducible first | refine d_seq fun K hK => ?_ | (refine hK _ _ ?_; clear hK K) | (refine SG.p ?_; try intro b)) | refine i_c ?_ ?_ <;> intro hc <;> try simp only [push_cast, seval] at hc | refine i_x ?_ | clear hK K)
          all_goals try contradiction
          refine i_fl (e := eI) (y := f.pins) cFr_len hx rfl ?_
          repeat' (first | (with_reducible first | refine d_seq fun K hK => ?_ | (refine hK _ _ ?_; clear hK K) | (refine SG.p ?_; try intro b)) | refine i_c ?_ ?_ <;> intro hc <;> try simp only [push_cast, seval] at hc | refine i_x ?_ | clear hK K)
          all_goals try (exfalso; omega)
          refine i_fl (e := eB) (y := f.used) cFr_len hx rfl ?_
          rw [c3']
          repeat' (first | (with_reducible first | refine d_seq fun K hK => ?_ | (refine hK _ _ ?_; clear hK K) | (refine SG.p ?_; try intro b)) | refine i_c ?_ ?_ <;> intro hc <;> try simp only [push_cast, seval] at hc | refine i_x ?_ | clear hK K)
          all_goals try contradiction
          (with_reducible first | apply i_ret0 | apply i_ret2 | apply i_ret3 | apply i_ret); exact rfl
          rfl
  · rw [show 2 * P.fs.length + 1 - i = 0 by omega] at i4
    unfold vic at i4
    subst i4
    repeat' (first | (with_reducible first | refine d_seq fun K hK => ?_ | (refine hK _ _ ?_; clear hK K) | (refine SG.p ?_; try intro b)) | refine i_c ?_ ?_ <;> intro hc <;> try simp only [push_cast, seval] at hc | refine i_x ?_ | clear hK K)
    all_goals try (exfalso; omega)
    (with_reducible first | apply i_ret0 | apply i_ret2 | apply i_ret3 | apply i_ret); exact rfl
    rfl
theorem lneed_ok {Z : Dk} (h : Z.ok) {G : Lg} (hG : G.ok Z.sure.length) (lsn : Int) : (Z.lneed G lsn).2.1.ok ∧ (Z.lneed G lsn).2.1.sb = Z.sb ∧ (Z.lneed G lsn).2.1.sure.length = Z.sure.length ∧ (Z.lneed G lsn).2.2.ok Z.sure.length ∧ (Z.lneed G lsn).2.2.q = G.q := by
  unfold Dk.lneed
  split
  · exact ⟨h, rfl, rfl, hG, rfl⟩
  · split
    · exact ⟨h, rfl, rfl, hG, rfl⟩
    · exact lflush_ok h hG
structure Wo where
  P : Po
  G : Lg
  Z : Dk
def Po.cln (P : Po) (i : Nat) : Po := { P with fs := P.fs.set i { P.at i with dirty := false, first := 0 }, writes := IntKind.wrap .i64 (P.writes + 1) }
def svp (S : St) (w : Wo) (i : Nat) : Int × Wo :=
  if (w.P.at i).dirty = false then (0, w) else
  if (w.Z.lneed w.G (w.P.at i).lsn).1 ≠ 0 then ((w.Z.lneed w.G (w.P.at i).lsn).1, ⟨w.P, (w.Z.lneed w.G (w.P.at i).lsn).2.2, (w.Z.lneed w.G (w.P.at i).lsn).2.1⟩) else
  (fun b : Int × Dk => if b.1 ≠ 0 then (b.1, ⟨w.P, (w.Z.lneed w.G (w.P.at i).lsn).2.2, b.2⟩) else if b.2.sync.1 ≠ 0 then (b.2.sync.1, ⟨w.P, (w.Z.lneed w.G (w.P.at i).lsn).2.2, b.2.sync.2⟩) else (0, ⟨w.P.cln i, (w.Z.lneed w.G (w.P.at i).lsn).2.2, b.2.sync.2⟩))
    ((w.Z.lneed w.G (w.P.at i).lsn).2.1.wpg S (w.P.at i).id (w.P.at i).text (w.P.at i).lsn)
abbrev wos (S : St) (sb : Nat) (w : Wo) : List HP := [ppt w.P, pfs w.P, lgp w.G sb, spt S sb, dk w.Z]
structure Wo.ok (S : St) (sb n : Nat) (w : Wo) : Prop where
  p : w.P.ok
  z : w.Z.ok
  sb : w.Z.sb = sb
  nn : w.Z.sure.length = n
  g : w.G.ok n
  s : S.ok n
  st : w.P.st = S.q
  lg : w.P.lg = w.G.q
set_option maxHeartbeats 2000000 in
theorem g95 (S : St) (sb n : Nat) (w : Wo) (h : w.ok S sb n) (i : Nat) (hi : i < w.P.fs.length) : Fq eI Tryz.prog 95 #[w.P.p, .pointer (some (w.P.f i))] (wos S sb w) (wos S sb (svp S w i).2) (svp S w i).1 := fun L => by
  obtain ⟨P, G, Z⟩ := w
  obtain ⟨hp, hz, hsb, hn, hg, hs, hst, hlg⟩ := h
  dsimp only at hp hz hsb hn hg hst hlg hi
  have hx : P.fs[i]? = some (P.at i) := by
    unfold Po.at
    rw [List.getD_eq_getElem?_getD, List.getElem?_eq_getElem hi]
    rfl
  have hcl : P.cln i = { P with fs := P.fs.set i { P.at i with dirty := false, first := 0 }, writes := IntKind.wrap .i64 (P.writes + 1) } := rfl
  have hg' := hg
  rw [← hn] at hg' hs
  generalize hR : svp S ⟨P, G, Z⟩ i = R
  unfold svp at hR
  dsimp only at hR
  generalize P.at i = f at *
  have ND := g40 G Z hz hg' f.lsn
  rw [hsb] at ND
  obtain ⟨o1, o2, o3, o4, o5⟩ := lneed_ok hz hg' f.lsn
  rw [← o3] at hs
  rw [hsb] at o2
  unfold wos
  dsimp only
  refine c95_fn rfl rfl ?_
  by_cases c1 : f.dirty = false
  · rw [if_pos c1] at hR
    subst hR
    repeat' (first | (with_reducible first | refine d_seq fun K hK => ?_ | (refine hK _ _ ?_; clear hK K) | (refine SG.p ?_; try intro b)) | refine i_c ?_ ?_ <;> intro hc <;> try simp only [push_cast, seval] at hc | refine i_x ?_ | clear hK K)
    refine i_fl (e := eB) (y := f.dirty) cFr_len hx rfl ?_
    rw [c1]
    repeat' (first | (with_reducible first | refine d_seq fun K hK => ?_ | (refine hK _ _ ?_; clear hK K) | (refine SG.p ?_; try intro b)) | refine i_c ?_ ?_ <;> intro hc <;> try simp only [push_cast, seval] at hc | refine i_x ?_ | clear hK K)
    all_goals try contradiction
    (with_reducible first | apply i_ret0 | apply i_ret2 | apply i_ret3 | apply i_ret); exact rfl
    rfl
  · rw [if_neg c1] at hR
    have c1' : f.dirty = true := by simpa using c1
    generalize Z.lneed G f.lsn = a at *
    obtain ⟨ea, Za, Ga⟩ := a
    dsimp only at hR ND o1 o2 o3 o4 o5 hs
    by_cases c2 : ea = 0
    · subst c2
      rw [if_neg (by simp)] at hR
      have WR := f46 S Za o1 hs f.id f.text f.lsn
      rw [o2] at WR
      obtain ⟨p1, p2, p3⟩ := Dk.wpg_same o1 S f.id f.text f.lsn
      rw [o2] at p2
      generalize Za.wpg S f.id f.text f.lsn = b at *
      obtain ⟨eb, Zb⟩ := b
      dsimp only at hR WR p1 p2 p3
      have SY := f48 S Zb p1
      rw [p2] at SY
      generalize Zb.sync = c at *
      obtain ⟨ec, Zc⟩ := c
      dsimp only at hR SY
      have hgq : Ga.q = G.q := o5
      repeat' (first | (with_reducible first | refine d_seq fun K hK => ?_ | (refine hK _ _ ?_; clear hK K) | (refine SG.p ?_; try intro b)) | refine i_c ?_ ?_ <;> intro hc <;> try simp only [push_cast, seval] at hc | refine i_x ?_ | clear hK K)
      refine i_fl (e := eB) (y := f.dirty) cFr_len hx rfl ?_
      rw [c1']
      repeat' (first | (with_reducible first | refine d_seq fun K hK => ?_ | (refine hK _ _ ?_; clear hK K) | (refine SG.p ?_; try intro b)) | refine i_c ?_ ?_ <;> intro hc <;> try simp only [push_cast, seval] at hc | refine i_x ?_ | clear hK K)
      all_goals try contradiction
      refine r_ph0 ?_
      repeat' (first | (with_reducible first | refine d_seq fun K hK => ?_ | (refine hK _ _ ?_; clear hK K) | (refine SG.p ?_; try intro b)) | refine i_c ?_ ?_ <;> intro hc <;> try simp only [push_cast, seval] at hc | refine i_x ?_ | clear hK K)
      refine i_flq (e := eI) (y := f.lsn) cFr_len hx rfl ?_
      rw [hlg]
      refine i_clq ND ?_
      repeat' (first | (with_reducible first | refine d_seq fun K hK => ?_ | (refine hK _ _ ?_; clear hK K) | (refine SG.p ?_; try intro b)) | refine i_c ?_ ?_ <;> intro hc <;> try simp only [push_cast, seval] at hc | refine i_x ?_ | clear hK K)
      all_goals try contradiction
      refine r_ph0 ?_
      repeat' (first | (with_reducible first | refine d_seq fun K hK => ?_ | (refine hK _ _ ?_; clear hK K) | (refine SG.p ?_; try intro b)) | refine i_c ?_ ?_ <;> intro hc <;> try simp only [push_cast, seval] at hc | refine i_x ?_ | clear hK K)
      refine i_flq (e := eI) (y := f.id) cFr_len hx rfl ?_
      refine i_fl0q (e := eS) (y := f.text) cFr_len hx rfl ?_
      refine i_flq (e := eI) (y := f.lsn) cFr_len hx rfl ?_
      rw [hst]
      refine i_clq WR ?_
      by_cases c3 : eb = 0
      · subst c3
        rw [if_neg (by simp)] at hR
        repeat' (first | (with_reducible first | refine d_seq fun K hK => ?_ | (refine hK _ _ ?_; clear hK K) | (refine SG.p ?_; try intro b)) | refine i_c ?_ ?_ <;> intro hc <;> try simp only [push_cast, seval] at hc | refine i_x ?_ | clear hK K)
        all_goals try contradiction
        rw [hst]
        refine i_clq SY ?_
        by_cases c4 : ec = 0
        · subst c4
          rw [if_neg (by simp)] at hR
          subst hR
          repeat' (first | (with_reducible first | refine d_seq fun K hK => ?_ | (refine hK _ _ ?_; clear hK K) | (refine SG.p ?_; try intro b)) | refine i_c ?_ ?_ <;> intro hc <;> try simp only [push_cast, seval] at hc | refine i_x ?_ | clear hK K)
          all_goals try contradiction
          have hx1 : (P.fs.set i { f with dirty := false })[i]? = some { f with dirty := false } := by simp [hi]
          refine i_fs (j := 3) (v := .bool false) cFr_len hx { f with dirty := false } rfl rfl rfl ?_
          refine i_fs (j := 4) (v := .int .i64 0) cFr_len hx1 { f with dirty := false, first := 0 } rfl rfl rfl ?_
          rw [List.set_set]
          repeat' (first | (with_reducible first | refine d_seq fun K hK => ?_ | (refine hK _ _ ?_; clear hK K) | (refine SG.p ?_; try intro b)) | refine i_c ?_ ?_ <;> intro hc <;> try simp only [push_cast, seval] at hc | refine i_x ?_ | clear hK K)
          rw [hcl]
          have hl : (P.fs.set i { f with dirty := false, first := 0 }).length = P.fs.length := List.length_set
          generalize P.fs.set i { f with dirty := false, first := 0 } = fs' at *
          rw [← hl]
          (with_reducible first | apply i_ret0 | apply i_ret2 | apply i_ret3 | apply i_ret); exact rfl
          rfl
        · rw [if_pos c4] at hR
          subst hR
          repeat' (first | (with_reducible first | refine d_seq fun K hK => ?_ | (refine hK _ _ ?_; clear hK K) | (refine SG.p ?_; try intro b)) | refine i_c ?_ ?_ <;> intro hc <;> try simp only [push_cast, seval] at hc | refine i_x ?_ | clear hK K)
          all_goals try contradiction
          (with_reducible first | apply i_ret0 | apply i_ret2 | apply i_ret3 | apply i_ret); exact rfl
          rfl
      · rw [if_pos c3] at hR
        subst hR
        repeat' (first | (with_reducible first | refine d_seq fun K hK => ?_ | (refine hK _ _ ?_; clear hK K) | (refine SG.p ?_; try intro b)) | refine i_c ?_ ?_ <;> intro hc <;> try simp only [push_cast, seval] at hc | refine i_x ?_ | clear hK K)
        all_goals try contradiction
        (with_reducible first | apply i_ret0 | apply i_ret2 | apply i_ret3 | apply i_ret); exact rfl
        rfl
    · rw [if_pos c2] at hR
      subst hR
      repeat' (first | (with_reducible first | refine d_seq fun K hK => ?_ | (refine hK _ _ ?_; clear hK K) | (refine SG.p ?_; try intro b)) | refine i_c ?_ ?_ <;> intro hc <;> try simp only [push_cast, seval] at hc | refine i_x ?_ | clear hK K)
      refine i_fl (e := eB) (y := f.dirty) cFr_len hx rfl ?_
      rw [c1']
      repeat' (first | (with_reducible first | refine d_seq fun K hK => ?_ | (refine hK _ _ ?_; clear hK K) | (refine SG.p ?_; try intro b)) | refine i_c ?_ ?_ <;> intro hc <;> try simp only [push_cast, seval] at hc | refine i_x ?_ | clear hK K)
      all_goals try contradiction
      refine r_ph0 ?_
      repeat' (first | (with_reducible first | refine d_seq fun K hK => ?_ | (refine hK _ _ ?_; clear hK K) | (refine SG.p ?_; try intro b)) | refine i_c ?_ ?_ <;> intro hc <;> try simp only [push_cast, seval] at hc | refine i_x ?_ | clear hK K)
      refine i_flq (e := eI) (y := f.lsn) cFr_len hx rfl ?_
      rw [hlg]
      refine i_clq ND ?_
      repeat' (first | (with_reducible first | refine d_seq fun K hK => ?_ | (refine hK _ _ ?_; clear hK K) | (refine SG.p ?_; try intro b)) | refine i_c ?_ ?_ <;> intro hc <;> try simp only [push_cast, seval] at hc | refine i_x ?_ | clear hK K)
      all_goals try contradiction
      (with_reducible first | apply i_ret0 | apply i_ret2 | apply i_ret3 | apply i_ret); exact rfl
      rfl
structure Po.like (P P' : Po) : Prop where
  q : P'.q = P.q
  fb : P'.fb = P.fb
  st : P'.st = P.st
  lg : P'.lg = P.lg
  n : P'.fs.length = P.fs.length
theorem Po.like.rfl' {P : Po} : P.like P := ⟨rfl, rfl, rfl, rfl, rfl⟩
theorem Po.like.tr {P P' P2 : Po} (a : P.like P') (b : P'.like P2) : P.like P2 := ⟨b.q.trans a.q, b.fb.trans a.fb, b.st.trans a.st, b.lg.trans a.lg, b.n.trans a.n⟩
theorem Po.like.ok {P P' : Po} (a : P.like P') (h : P.ok) (hh : P'.hand < P.fs.length) : P'.ok := ⟨by rw [a.n]; exact h.n2, by rw [a.n]; exact h.n64, by rw [a.n]; exact hh⟩
theorem vic_like : ∀ (k : Nat) (P : Po), P.ok → P.like (vic k P).2 ∧ (vic k P).2.ok ∧ ∀ i, (vic k P).1 = some i → i < P.fs.length
  | 0, P, h => ⟨.rfl', h, fun i e => by cases e⟩
  | k + 1, P, h => by
    have t1 : P.like P.turn := ⟨rfl, rfl, rfl, rfl, rfl⟩
    unfold vic
    split
    · exact ⟨t1, turn_ok h, fun i e => by cases e; exact h.h⟩
    · split
      · obtain ⟨a, b, c⟩ := vic_like k P.turn (turn_ok h)
        exact ⟨t1.tr a, b, c⟩
      · split
        · have t2 : P.like { P.turn with fs := P.fs.set P.hand { P.at P.hand with used := false } } := ⟨rfl, rfl, rfl, rfl, List.length_set⟩
          have o2 := t2.ok h (turn_ok h).h
          obtain ⟨a, b, c⟩ := vic_like k _ o2
          exact ⟨t2.tr a, b, fun i e => by have := c i e; rw [t2.n] at this; exact this⟩
        · exact ⟨t1, turn_ok h, fun i e => by cases e; exact h.h⟩
theorem fndf_lt (id : Int) : ∀ (fs : List Fr) (a i : Nat), fndf id fs a = some i → a ≤ i ∧ i < a + fs.length ∧ ∃ f, fs[i - a]? = some f ∧ f.filled = true ∧ f.id = id
  | [], a, i, h => by cases h
  | f :: r, a, i, h => by
    unfold fndf at h
    by_cases hc : f.filled = true ∧ f.id = id
    · rw [if_pos hc] at h
      cases h
      exact ⟨Nat.le_refl _, by simp, f, by simp, hc⟩
    · rw [if_neg hc] at h
      obtain ⟨h1, h2, g, h3, h4⟩ := fndf_lt id r (a + 1) i h
      refine ⟨by omega, by simp; omega, g, ?_, h4⟩
      rw [show i - a = (i - (a + 1)) + 1 by omega]
      simpa using h3
theorem find_lt {P : Po} {id : Int} {i : Nat} (h : P.find id = some i) : i < P.fs.length := by
  have := (fndf_lt id P.fs 0 i h).2.1
  omega
theorem at_get {P : Po} {i : Nat} (hi : i < P.fs.length) : P.fs[i]? = some (P.at i) := by
  unfold Po.at
  rw [List.getD_eq_getElem?_getD, List.getElem?_eq_getElem hi]
  rfl
theorem svp_ok {S : St} {sb n : Nat} {w : Wo} (h : w.ok S sb n) {i : Nat} (hi : i < w.P.fs.length) : (svp S w i).2.ok S sb n ∧ w.P.like (svp S w i).2.P ∧ (svp S w i).2.G.q = w.G.q := by
  have hg := h.g
  have hn := h.nn
  rw [← hn] at hg
  obtain ⟨o1, o2, o3, o4, o5⟩ := lneed_ok h.z hg (w.P.at i).lsn
  have hl : w.P.like (w.P.cln i) := ⟨rfl, rfl, rfl, rfl, List.length_set⟩
  unfold svp
  split
  · exact ⟨h, .rfl', rfl⟩
  · split
    · exact ⟨⟨h.p, o1, o2.trans h.sb, o3.trans hn, by rw [← hn]; exact o4, h.s, h.st, h.lg.trans o5.symm⟩, .rfl', o5⟩
    · obtain ⟨p1, p2, p3⟩ := Dk.wpg_same o1 S (w.P.at i).id (w.P.at i).text (w.P.at i).lsn
      generalize (w.Z.lneed w.G (w.P.at i).lsn).2.1.wpg S (w.P.at i).id (w.P.at i).text (w.P.at i).lsn = b at *
      dsimp only
      have s1 := Dk.sync_ok p1
      have s2 := Dk.sync_sb b.2
      have s3 := Dk.sync_n b.2
      split
      · exact ⟨⟨h.p, p1, p2.trans (o2.trans h.sb), p3.trans (o3.trans hn), by rw [← hn]; exact o4, h.s, h.st, h.lg.trans o5.symm⟩, .rfl', o5⟩
      · split
        · exact ⟨⟨h.p, s1, s2.trans (p2.trans (o2.trans h.sb)), s3.trans (p3.trans (o3.trans hn)), by rw [← hn]; exact o4, h.s, h.st, h.lg.trans o5.symm⟩, .rfl', o5⟩
        · exact ⟨⟨hl.ok h.p h.p.h, s1, s2.trans (p2.trans (o2.trans h.sb)), s3.trans (p3.trans (o3.trans hn)), by rw [← hn]; exact o4, h.s, h.st, h.lg.trans o5.symm⟩, hl, o5⟩
def Po.use (P : Po) (i : Nat) : Po := { P with fs := P.fs.set i { P.at i with used := true } }
def Po.put (P : Po) (i : Nat) (f : Fr) : Po := { P with fs := P.fs.set i f, loads := IntKind.wrap .i64 (P.loads + 1) }
abbrev nfr (r : List UInt8 × Int × Int) (id : Int) : Fr := ⟨r.1, r.2.1, id, false, 0, 0, true, true⟩
def hl2 (S : St) (w : Wo) (id : Int) (r : List UInt8 × Int × Int) (v : Option Nat × Po) : (Option Nat × Int) × Wo := match v.1 with
  | none => ((none, 7), ⟨v.2, w.G, w.Z⟩)
  | some i => if (v.2.at i).filled = true then
      (if (svp S ⟨v.2, w.G, w.Z⟩ i).1 = 0 then ((some i, 0), ⟨(svp S ⟨v.2, w.G, w.Z⟩ i).2.P.put i (nfr r id), (svp S ⟨v.2, w.G, w.Z⟩ i).2.G, (svp S ⟨v.2, w.G, w.Z⟩ i).2.Z⟩) else ((none, (svp S ⟨v.2, w.G, w.Z⟩ i).1), (svp S ⟨v.2, w.G, w.Z⟩ i).2))
    else ((some i, 0), ⟨v.2.put i (nfr r id), w.G, w.Z⟩)
def hl1 (S : St) (w : Wo) (id : Int) (r : List UInt8 × Int × Int) : (Option Nat × Int) × Wo := if r.2.2 ≠ 0 ∧ r.2.2 ≠ 8 ∧ r.2.2 ≠ 10 then ((none, r.2.2), w) else hl2 S w id r (vic (2 * w.P.fs.length + 1) w.P)
def hld (S : St) (w : Wo) (id : Int) : (Option Nat × Int) × Wo := match w.P.find id with
  | some i => ((some i, 0), ⟨w.P.use i, w.G, w.Z⟩)
  | none => hl1 S w id (w.Z.rpg S id)
theorem lmend_calm {Z : Dk} {sb n : Nat} (h : Z.calm sb n) {G : Lg} (hG : G.ok n) : (Z.lmend G).1 = 0 ∧ (Z.lmend G).2.2 = G ∧ (Z.lmend G).2.1.calm sb n ∧ (Z.lmend G).2.1.es = [] ∧ ∀ j : Nat, j < n → (Z.lmend G).2.1.get (j : Int) = if G.durable / 58 < G.sectors ∧ j = G.base + G.durable / 58 then wh (G.sec (G.durable / 58)) else Z.get (j : Int) := by
  have hn : 0 < n := by have := hG.fit; have := hG.s1; omega
  obtain ⟨a1, a2, a3⟩ := lw_calm h hG (G.durable / 58)
  obtain ⟨b1, b2, b3, _, b5⟩ := a2.sync hn
  unfold Dk.lmend
  rw [if_pos a1]
  dsimp only
  refine ⟨b1, by rw [b1]; exact down_0 G, b2, b3, fun j hj => ?_⟩
  rw [b5 j hj, a3]
theorem lflush_calm {Z : Dk} {sb n : Nat} (h : Z.calm sb n) {G : Lg} (hG : G.ok n) (hd : G.dead = false) : (Z.lflush G).1 = 0 ∧ (Z.lflush G).2.2 = { G with durable := G.all.length } ∧ (Z.lflush G).2.1.calm sb n ∧ (G.durable < G.all.length → (Z.lflush G).2.1.es = []) ∧
    (G.durable = G.all.length → (Z.lflush G).2.1 = Z) ∧ ∀ j : Nat, j < n → (Z.lflush G).2.1.get (j : Int) = if G.durable < G.all.length ∧ G.base + G.durable / 58 ≤ j ∧ 58 * (j - G.base) < G.all.length then wh (G.sec (j - G.base)) else Z.get (j : Int) := by
  have hn : 0 < n := by have := hG.fit; have := hG.s1; omega
  have hdu := hG.du
  unfold Dk.lflush
  rw [if_neg (by rw [hd]; decide)]
  by_cases hq : G.durable = G.all.length
  · rw [if_pos hq]
    refine ⟨rfl, ?_, h, fun hlt => by omega, fun _ => rfl, fun j hj => by rw [if_neg (by omega)]⟩
    dsimp only
    rw [← hq]
  · rw [if_neg hq]
    obtain ⟨a1, a2, a3⟩ := lws_calm hG (G.sectors + 1) (G.durable / 58) h (by omega)
    obtain ⟨b1, b2, b3, _, b5⟩ := a2.sync hn
    dsimp only
    rw [if_pos a1, if_pos b1]
    refine ⟨rfl, rfl, b2, fun _ => b3, fun e => absurd e hq, fun j hj => ?_⟩
    dsimp only
    rw [b5 j hj, a3]
    by_cases hj2 : G.base + G.durable / 58 ≤ j ∧ 58 * (j - G.base) < G.all.length
    · rw [if_pos hj2, if_pos ⟨by omega, hj2⟩]
    · rw [if_neg hj2, if_neg (fun hx => hj2 hx.2)]
structure Wi (Z : Dk) (sb n : Nat) (G : Lg) (ρ : Nat → Nat) : Prop where
  calm : Z.calm sb n
  ok : G.ok n
  dead : G.dead = false
  tells : Tells Z G.base G.sectors (G.all.take G.durable) ρ
  top : ∀ m, 58 * m < G.durable → ρ m ≤ G.run
  fresh : ∀ m, m < G.sectors → G.durable < 58 * m → at4 (Z.get ((G.base + m : Nat) : Int)) < G.run
  edge : ∀ m, m < G.sectors → G.durable = 58 * m → at4 (Z.get ((G.base + m : Nat) : Int)) < G.run ∨ (at4 (Z.get ((G.base + m : Nat) : Int)) = G.run ∧ n2 (Z.get ((G.base + m : Nat) : Int)) = 0)
theorem Wi.append {Z : Dk} {sb n : Nat} {G : Lg} {ρ : Nat → Nat} (h : Wi Z sb n G ρ) {s : List UInt8} (hs : G.all.length + s.length ≤ 58 * G.sectors) : Wi Z sb n { G with all := G.all ++ s } ρ := by
  obtain ⟨a1, a2, a3, a4, a5, a6, a7⟩ := h
  have hdu := a2.du
  have e : (G.all ++ s).take G.durable = G.all.take G.durable := List.take_append_of_le_length hdu
  refine ⟨a1, ⟨a2.s1, a2.fit, a2.n1, a2.r1, a2.r2, by dsimp only; rw [List.length_append]; omega, by dsimp only; rw [List.length_append]; exact hs⟩, a3, ?_, a5, a6, a7⟩
  dsimp only
  rw [e]
  exact a4
theorem part_take {all : List UInt8} {d m : Nat} (h : 58 * m + 58 ≤ d) : part (all.take d) m = part all m := by
  unfold part
  rw [List.drop_take, List.take_take, show min 58 (d - 58 * m) = 58 by omega]
theorem Wi.flush {Z : Dk} {sb n : Nat} {G : Lg} {ρ : Nat → Nat} (h : Wi Z sb n G ρ) : ∃ ρ', Wi (Z.lflush G).2.1 sb n { G with durable := G.all.length } ρ' := by
  obtain ⟨a1, a2, a3, a4, a5, a6, a7⟩ := h
  have hdu := a2.du
  have hle := a2.le
  have hfit := a2.fit
  obtain ⟨l1, l2, l3, l4, l5, l6⟩ := lflush_calm a1 a2 a3
  by_cases hq : G.durable = G.all.length
  · refine ⟨ρ, ?_⟩
    rw [l5 hq, ← hq]
    exact ⟨a1, a2, a3, a4, a5, a6, a7⟩
  · have hget : ∀ m, m < G.sectors → (Z.lflush G).2.1.get ((G.base + m : Nat) : Int) = if G.durable / 58 ≤ m ∧ 58 * m < G.all.length then wh (G.sec m) else Z.get ((G.base + m : Nat) : Int) := fun m hm => by
      rw [l6 (G.base + m) (by omega)]
      have e : G.base + m - G.base = m := by omega
      rw [e]
      by_cases hc : G.durable / 58 ≤ m ∧ 58 * m < G.all.length
      · rw [if_pos hc, if_pos ⟨by omega, by omega, hc.2⟩]
      · rw [if_neg hc, if_neg (by omega)]
    refine ⟨fun m => if m < G.durable / 58 then ρ m else G.run, l3, ⟨a2.s1, a2.fit, a2.n1, a2.r1, a2.r2, Nat.le_refl _, hle⟩, a3, ?_, ?_, ?_, ?_⟩
    · dsimp only
      rw [List.take_length]
      refine ⟨fun m m1 m2 => ?_, fun m => ?_, fun m => ?_, fun m m1 m2 => ?_, hle⟩
      · rw [hget m m2]
        by_cases hm : m < G.durable / 58
        · rw [if_neg (by omega), if_pos hm, a4.secs m (by rw [List.length_take]; omega) m2, part_take (by omega)]
        · rw [if_pos ⟨by omega, m1⟩, if_neg hm]
          rfl
      · have hm0 := a4.mono m
        have hr := a2.r1
        unfold prv at hm0 ⊢
        by_cases m0 : m = 0
        · rw [if_pos m0] at hm0 ⊢
          split <;> omega
        · rw [if_neg m0] at hm0 ⊢
          dsimp only
          by_cases h1 : m < G.durable / 58
          · rw [if_pos (by omega), if_pos h1]; exact hm0
          · rw [if_neg h1]
            split
            · exact a5 (m - 1) (by omega)
            · exact Nat.le_refl _
      · split
        · exact a4.lt m
        · exact a2.r2
      · left
        rw [hget m m1, if_neg (by omega)]
        have hf := a6 m m1 (by omega)
        have hm0 : ¬ m = 0 := by omega
        unfold prv
        rw [if_neg hm0]
        dsimp only
        rw [if_neg (by omega)]
        exact hf
    · intro m hm
      dsimp only
      split
      · exact a5 m (by omega)
      · exact Nat.le_refl _
    · intro m m1 m2
      dsimp only at m1 m2 ⊢
      rw [hget m m1, if_neg (by omega)]
      exact a6 m m1 (by omega)
    · intro m m1 m2
      dsimp only at m1 m2 ⊢
      left
      rw [hget m m1, if_neg (by omega)]
      exact a6 m m1 (by omega)
theorem mend_wi {Z : Dk} {sb n : Nat} {G : Lg} {ρ : Nat → Nat} (hc : Z.calm sb n) (hG : G.ok n) (hd : G.dead = false) (hdur : G.durable = G.all.length)
    (secs : ∀ m, 58 * m < G.durable → m < G.sectors → m < G.durable / 58 → Z.get ((G.base + m : Nat) : Int) = wh (secb (ρ m) (part G.all m)))
    (mono : ∀ m, prv ρ m ≤ ρ m) (lt : ∀ m, ρ m < 4294967296) (top : ∀ m, m < G.durable / 58 → ρ m ≤ G.run)
    (fresh : ∀ m, m < G.sectors → G.durable / 58 < m → at4 (Z.get ((G.base + m : Nat) : Int)) < G.run) :
    ∃ ρ', Wi (Z.lmend G).2.1 sb n G ρ' ∧ (Z.lmend G).1 = 0 ∧ (Z.lmend G).2.2 = G ∧ (Z.lmend G).2.1.es = [] := by
  obtain ⟨m1, m2, m3, m4, m5⟩ := lmend_calm hc hG
  have hfit := hG.fit
  have hle := hG.le
  have hget : ∀ m, m < G.sectors → (Z.lmend G).2.1.get ((G.base + m : Nat) : Int) = if m = G.durable / 58 then wh (G.sec m) else Z.get ((G.base + m : Nat) : Int) := fun m hm => by
    rw [m5 (G.base + m) (by omega)]
    by_cases e : m = G.durable / 58
    · rw [if_pos e, if_pos ⟨by omega, by omega⟩, e]
    · rw [if_neg e, if_neg (by omega)]
  have hr2 := hG.r2
  refine ⟨fun m => if m < G.durable / 58 then ρ m else G.run, ⟨m3, hG, hd, ?_, ?_, ?_, ?_⟩, m1, m2, m4⟩
  · rw [hdur, List.take_length, ← hdur]
    refine ⟨fun m a b => ?_, fun m => ?_, fun m => ?_, fun m a b => ?_, by omega⟩
    · rw [hget m b]
      by_cases hm : m < G.durable / 58
      · rw [if_neg (by omega), if_pos hm]
        exact secs m (by omega) b hm
      · have : m = G.durable / 58 := by omega
        rw [if_pos this, if_neg hm]
        rfl
    · have hm0 := mono m
      have hr := hG.r1
      unfold prv at hm0 ⊢
      by_cases m0 : m = 0
      · rw [if_pos m0] at hm0 ⊢
        split <;> omega
      · rw [if_neg m0] at hm0 ⊢
        dsimp only
        by_cases h1 : m < G.durable / 58
        · rw [if_pos (by omega), if_pos h1]; exact hm0
        · rw [if_neg h1]
          split
          · exact top (m - 1) (by omega)
          · exact Nat.le_refl _
    · split
      · exact lt m
      · exact hG.r2
    · right
      rw [hget m a, if_pos (by omega)]
      obtain ⟨_, b2, _⟩ := secb_rd (r := G.run) (p := part G.all m) hr2 (part_le G.all m)
      rw [sec_b, b2, part_len]
      omega
  · intro m hm
    split
    · exact top m (by omega)
    · exact Nat.le_refl _
  · intro m a b
    rw [hget m a, if_neg (by omega)]
    exact fresh m a (by omega)
  · intro m a b
    right
    rw [hget m a, if_pos (by omega)]
    obtain ⟨b1, b2, _⟩ := secb_rd (r := G.run) (p := part G.all m) hr2 (part_le G.all m)
    rw [sec_b]
    exact ⟨b1, by rw [b2, part_len]; omega⟩
theorem Wi.mv {Z Y : Dk} {sb n : Nat} {G : Lg} {ρ : Nat → Nat} (h : Wi Z sb n G ρ) (hc : Y.calm sb n) (hg : ∀ j : Nat, j < n → Y.get (j : Int) = Z.get (j : Int)) : Wi Y sb n G ρ := by
  have hfit := h.ok.fit
  refine ⟨hc, h.ok, h.dead, ⟨fun m a b => ?_, h.tells.mono, h.tells.lt, fun m a b => ?_, h.tells.le⟩, h.top, fun m a b => ?_, fun m a b => ?_⟩
  · rw [hg _ (by omega)]; exact h.tells.secs m a b
  · rw [hg _ (by omega)]; exact h.tells.stop m a b
  · rw [hg _ (by omega)]; exact h.fresh m a b
  · rw [hg _ (by omega)]; exact h.edge m a b
theorem off_get {Z : Dk} {sb n : Nat} (h : Z.calm sb n) (he : Z.es = []) (keep : Int) (j : Nat) : (Z.off keep).on.get (j : Int) = Z.get (j : Int) := by
  obtain ⟨_, _, _, _, h5⟩ := h.off keep
  rcases h5 j with h6 | ⟨v, h6, _⟩
  · rw [h6]
    unfold Dk.get
    rw [he]
    simp [gk]
  · rw [he] at h6
    cases h6
theorem Wi.off {Z : Dk} {sb n : Nat} {G : Lg} {ρ : Nat → Nat} (h : Wi Z sb n G ρ) (he : Z.es = []) (keep : Int) : Wi (Z.off keep).on sb n G ρ :=
  h.mv (h.calm.off keep).1 fun j _ => off_get h.calm he keep j
theorem mend_zero {Z : Dk} {sb n q base S run : Nat} (hc : Z.calm sb n) (hz : ∀ m, m < S → at4 (Z.get ((base + m : Nat) : Int)) = 0) (hS : 1 ≤ S) (hf : base + S ≤ n) (hn : n ≤ 8192) (r1 : 1 ≤ run) (r2 : run < 4294967296) :
    ∃ ρ', Wi (Z.lmend ⟨q, base, S, run, [], 0, false⟩).2.1 sb n ⟨q, base, S, run, [], 0, false⟩ ρ' ∧ (Z.lmend ⟨q, base, S, run, [], 0, false⟩).1 = 0 ∧ (Z.lmend ⟨q, base, S, run, [], 0, false⟩).2.2 = ⟨q, base, S, run, [], 0, false⟩ ∧ (Z.lmend ⟨q, base, S, run, [], 0, false⟩).2.1.es = [] := by
  refine mend_wi (ρ := fun _ => 1) hc ⟨hS, hf, hn, r1, r2, Nat.le_refl _, by simp⟩ rfl rfl (fun m a => ?_) (fun m => ?_) (fun m => by decide) (fun m _ => r1) (fun m a _ => ?_)
  · simp at a
  · unfold prv; split <;> exact Nat.le_refl _
  · show at4 (Z.get ((base + m : Nat) : Int)) < run
    rw [hz m a]
    exact r1
theorem at4_nil : at4 (wh []) = 0 := by decide
theorem new_get {sb bb mb n j : Nat} (h : j < n) : (Dk.new sb bb mb n).get (j : Int) = wh [] := by
  unfold Dk.get Dk.new
  simp [gk, h]
theorem append_is {G : Lg} (hd : G.dead = false) (c : Rc) : G.append c = if c.frame.2 = 0 then (if G.all.length + c.frame.1.length ≤ 58 * G.sectors then ((((G.all.length + 1 : Nat) : Int), 0), { G with all := G.all ++ c.frame.1 }) else ((0, 7), G)) else ((0, c.frame.2), G) := by
  unfold Lg.append Lg.add
  rw [if_neg (by rw [hd]; decide)]
  by_cases h0 : c.frame.2 = 0
  · rw [if_pos h0, if_pos h0]
    by_cases hq : G.all.length + c.frame.1.length ≤ 58 * G.sectors
    · rw [if_pos hq, if_neg (by omega)]
    · rw [if_neg hq, if_pos (by omega)]
  · rw [if_neg h0, if_neg h0]
theorem Wi.app {Z : Dk} {sb n : Nat} {G : Lg} {ρ : Nat → Nat} (h : Wi Z sb n G ρ) (c : Rc) : Wi Z sb n (G.append c).2 ρ := by
  rw [append_is h.dead]
  split
  · split
    · exact h.append (by assumption)
    · exact h
  · exact h
theorem Wi.mvl {Z Y : Dk} {sb n : Nat} {G : Lg} {ρ : Nat → Nat} (h : Wi Z sb n G ρ) (hc : Y.calm sb n) (hg : ∀ m, m < G.sectors → Y.get ((G.base + m : Nat) : Int) = Z.get ((G.base + m : Nat) : Int)) : Wi Y sb n G ρ := by
  refine ⟨hc, h.ok, h.dead, ⟨fun m a b => ?_, h.tells.mono, h.tells.lt, fun m a b => ?_, h.tells.le⟩, h.top, fun m a b => ?_, fun m a b => ?_⟩
  · rw [hg _ b]; exact h.tells.secs m a b
  · rw [hg _ a]; exact h.tells.stop m a b
  · rw [hg _ a]; exact h.fresh m a b
  · rw [hg _ a]; exact h.edge m a b
theorem lneed_calm {Z : Dk} {sb n : Nat} {G : Lg} {ρ : Nat → Nat} (h : Wi Z sb n G ρ) (lsn : Int) : ∃ (Y : Dk) (ρ' : Nat → Nat) (d : Nat), Z.lneed G lsn = (0, Y, { G with durable := d }) ∧ Wi Y sb n { G with durable := d } ρ' ∧ G.durable ≤ d ∧ d ≤ G.all.length ∧ (lsn ≤ (G.all.length : Int) → lsn ≤ (d : Int)) ∧
    ∀ j, G.base + G.sectors ≤ j → j < n → Y.get ((j : Nat) : Int) = Z.get ((j : Nat) : Int) := by
  have hdu := h.ok.du
  have hle := h.ok.le
  unfold Dk.lneed
  rw [if_neg (by rw [h.dead]; decide)]
  by_cases hc : lsn < (G.durable : Int) + 1
  · rw [if_pos hc]
    exact ⟨Z, ρ, G.durable, rfl, h, Nat.le_refl _, hdu, fun _ => by omega, fun j _ _ => rfl⟩
  · rw [if_neg hc]
    obtain ⟨ρ', hW⟩ := h.flush
    obtain ⟨l1, l2, l3, l4, l5, l6⟩ := lflush_calm h.calm h.ok h.dead
    refine ⟨(Z.lflush G).2.1, ρ', G.all.length, Prod.ext l1 (Prod.ext rfl l2), hW, hdu, Nat.le_refl _, fun x => x, fun j h1 h2 => ?_⟩
    rw [l6 j h2, if_neg (by omega)]
theorem wpg_calm {Z : Dk} {sb n : Nat} (h : Z.calm sb n) {S : St} (hS : S.ok n) {p : Nat} (hp : p < S.pages) {text : List UInt8} (ht : text.length = 224) {lsn : Int} (h0 : 0 ≤ lsn) (h1 : lsn < 281474976710656) :
    (Z.wpg S (p : Int) text lsn).1 = 0 ∧ (Z.wpg S (p : Int) text lsn).2.calm sb n ∧ ∀ j : Nat, (Z.wpg S (p : Int) text lsn).2.get (j : Int) = if S.base + 4 * p ≤ j ∧ j < S.base + 4 * p + 4 then mk8 S.gen lsn ++ pt text (j - (S.base + 4 * p)) else Z.get (j : Int) := by
  have hc : S.chk (p : Int) = 0 := by unfold St.chk; rw [if_neg (by omega)]
  have hfit := hS.fit
  obtain ⟨a1, a2, a3, a4⟩ := h.wp (a := S.base + 4 * p) (by omega) (mk8_len S.gen lsn) ht 4 (Nat.le_refl _)
  have e : Z.wpg S (p : Int) text lsn = Z.wp (S.base + 4 * p) (mk8 S.gen lsn) text 4 := by
    unfold Dk.wpg
    rw [if_pos hc, if_pos ht, if_neg (by omega), Int.toNat_natCast]
  rw [e]
  refine ⟨a1, a2, fun j => ?_⟩
  unfold Dk.get
  rw [a4, a3]
  by_cases hj : S.base + 4 * p ≤ j ∧ j < S.base + 4 * p + 4
  · rw [if_pos hj, if_pos hj]
    rfl
  · rw [if_neg hj, if_neg hj]
theorem rpg_same {Z Y : Dk} {S : St} {n p : Nat} (hS : S.ok n) (hp : p < S.pages) (hu : Y.up = Z.up) (hg : ∀ i, i < 4 → Y.get ((S.base + 4 * p + i : Nat) : Int) = Z.get ((S.base + 4 * p + i : Nat) : Int)) : Y.rpg S (p : Int) = Z.rpg S (p : Int) := by
  have h0 : Y.sc (S.base + 4 * p) 0 = Z.sc (S.base + 4 * p) 0 := hg 0 (by decide)
  have h1 : Y.sc (S.base + 4 * p) 1 = Z.sc (S.base + 4 * p) 1 := hg 1 (by decide)
  have h2 : Y.sc (S.base + 4 * p) 2 = Z.sc (S.base + 4 * p) 2 := hg 2 (by decide)
  have h3 : Y.sc (S.base + 4 * p) 3 = Z.sc (S.base + 4 * p) 3 := hg 3 (by decide)
  have e1 : Y.rsm (S.base + 4 * p) S.gen 4 = Z.rsm (S.base + 4 * p) S.gen 4 := by simp only [Dk.rsm, h0, h1, h2, h3]
  have e2 : Y.rwh (S.base + 4 * p) 4 = Z.rwh (S.base + 4 * p) 4 := by simp only [Dk.rwh, h0, h1, h2, h3]
  have e3 : Y.rtx (S.base + 4 * p) 4 = Z.rtx (S.base + 4 * p) 4 := by simp only [Dk.rtx, h0, h1, h2, h3]
  unfold Dk.rpg
  rw [Int.toNat_natCast, e1, e2, e3, h0, hu]
theorem rpg_none {Z : Dk} {S : St} {n p : Nat} (hS : S.ok n) (hp : p < S.pages) (hu : Z.up = true) (hg : ∀ i, i < 4 → Z.get ((S.base + 4 * p + i : Nat) : Int) = wh []) : Z.rpg S (p : Int) = ([], 0, 8) := by
  have hc : S.chk (p : Int) = 0 := by unfold St.chk; rw [if_neg (by omega)]
  have hg1 := hS.g1
  have h0 : Z.sc (S.base + 4 * p) 0 = wh [] := hg 0 (by decide)
  have h1 : Z.sc (S.base + 4 * p) 1 = wh [] := hg 1 (by decide)
  have h2 : Z.sc (S.base + 4 * p) 2 = wh [] := hg 2 (by decide)
  have h3 : Z.sc (S.base + 4 * p) 3 = wh [] := hg 3 (by decide)
  have e : be ((wh []).take 2) = 0 := by decide
  have e1 : Z.rsm (S.base + 4 * p) S.gen 4 = false := by
    simp only [Dk.rsm, h0, h1, h2, h3, e]
    simp
    omega
  unfold Dk.rpg
  rw [if_pos hc, hu, if_pos rfl, Int.toNat_natCast, e1, if_neg (by decide)]
theorem svp_calm {S : St} {sb : Nat} {w : Wo} {ρ : Nat → Nat} (h : w.ok S sb 80) (hw : Wi w.Z sb 80 w.G ρ) (hb : w.G.base + w.G.sectors ≤ S.base) {i : Nat} (hi : i < w.P.fs.length) {p : Nat} (hid : (w.P.at i).id = (p : Int)) (hp : p < S.pages)
    (hd : (w.P.at i).dirty = true) (ht : (w.P.at i).text.length = 224) (h0 : 1 ≤ (w.P.at i).lsn) (h1 : (w.P.at i).lsn ≤ (w.G.all.length : Int)) :
    ∃ (Y : Dk) (ρ' : Nat → Nat) (d : Nat), svp S w i = (0, ⟨w.P.cln i, { w.G with durable := d }, Y⟩) ∧ Wi Y sb 80 { w.G with durable := d } ρ' ∧ w.G.durable ≤ d ∧ (w.P.at i).lsn ≤ (d : Int) ∧ Y.rpg S (p : Int) = ((w.P.at i).text, (w.P.at i).lsn, 0) ∧
      ∀ q, q < S.pages → q ≠ p → Y.rpg S (q : Int) = w.Z.rpg S (q : Int) := by
  obtain ⟨P, G, Z⟩ := w
  dsimp only at hw hb hi hid hd ht h0 h1 ⊢
  have hS := h.s
  have hfit := hS.fit
  have hle := hw.ok.le
  have hf2 := hw.ok.fit
  obtain ⟨Y1, ρ1, d, e1, W1, d1, d2, d3, g1⟩ := lneed_calm hw (P.at i).lsn
  obtain ⟨a1, a2, a3⟩ := wpg_calm W1.calm hS hp ht (lsn := (P.at i).lsn) (by omega) (by omega)
  obtain ⟨b1, b2, b3, _, b5⟩ := a2.sync (by decide)
  have W2 : Wi (Y1.wpg S (p : Int) (P.at i).text (P.at i).lsn).2.sync.2 sb 80 { G with durable := d } ρ1 := by
    refine W1.mvl b2 fun m hm => ?_
    dsimp only at hm ⊢
    rw [b5 _ (by omega), a3, if_neg (by omega)]
  refine ⟨_, ρ1, d, ?_, W2, d1, d3 h1, ?_, fun q hq hne => ?_⟩
  · unfold svp
    dsimp only
    rw [if_neg (by rw [hd]; decide), e1]
    dsimp only
    rw [if_neg (by simp), hid]
    generalize hV : Y1.wpg S (p : Int) (P.at i).text (P.at i).lsn = V at *
    rw [if_neg (by rw [a1]; simp), if_neg (by rw [b1]; simp)]
  · refine rpg_of hS hp b2.up ht (by omega) (by omega) fun k hk => ?_
    show Dk.get _ _ = _
    rw [b5 _ (by omega), a3, if_pos (by omega), show S.base + 4 * p + k - (S.base + 4 * p) = k by omega]
  · refine rpg_same hS hq (b2.up.trans hw.calm.up.symm) fun k hk => ?_
    rw [b5 _ (by omega), a3, if_neg (by omega), g1 _ (by omega) (by omega)]
theorem ppt_fs (P : Po) (fs : List Fr) (hl : fs.length = P.fs.length) : ppt { P with fs := fs } = ppt P := by
  show ar P.q 96 [_, _, .slice (some ⟨P.fb, 0, none⟩) fs.length fs.length, _, _, _] = _
  rw [hl]
set_option maxHeartbeats 4000000 in
theorem g90 (S : St) (sb n : Nat) (w : Wo) (h : w.ok S sb n) (id : Int) : Fq (eT2 eP eI) Tryz.prog 90 #[w.P.p, .int .i64 id] (wos S sb w) (wos S sb (hld S w id).2) ((hld S w id).1.1.map w.P.f, (hld S w id).1.2) := fun L => by
  have FN := g91 w.P h.p id
  have RD := f49 S w.Z h.z (by rw [h.nn]; exact h.s) id
  have VC := g120 w.P h.p
  have VL := vic_like (2 * w.P.fs.length + 1) w.P h.p
  rw [h.sb] at RD
  generalize hR : hld S w id = R
  unfold hld at hR
  obtain ⟨P, G, Z⟩ := w
  obtain ⟨hp, hz, hsb, hn, hg, hs, hst, hlg⟩ := h
  dsimp only at hp hz hsb hn hg hst hlg FN RD VC VL hR
  unfold wos
  dsimp only
  refine c90_fn rfl rfl ?_
  cases hf : P.find id with
  | some i =>
    rw [hf] at FN hR
    dsimp only [Option.map] at FN hR
    have hi := find_lt hf
    have hx := at_get hi
    have hu : P.use i = { P with fs := P.fs.set i { P.at i with used := true } } := rfl
    generalize P.at i = f at *
    rw [hu] at hR
    subst hR
    repeat' (first | (with_reducible first | refine d_seq fun K hK => ?_ | (refine hK _ _ ?_; clear hK K) | (refine SG.p ?_; try intro b)) | refine i_c ?_ ?_ <;> intro hc <;> try simp only [push_cast, seval] at hc | refine i_x ?_ | clear hK K)
    refine i_clp FN ?_
    repeat' (first | (with_reducible first | refine d_seq fun K hK => ?_ | (refine hK _ _ ?_; clear hK K) | (refine SG.p ?_; try intro b)) | refine i_c ?_ ?_ <;> intro hc <;> try simp only [push_cast, seval] at hc | refine i_x ?_ | clear hK K)
    all_goals try contradiction
    refine i_fs (j := 6) (v := .bool true) cFr_len hx { f with used := true } rfl rfl rfl ?_
    repeat' (first | (with_reducible first | refine d_seq fun K hK => ?_ | (refine hK _ _ ?_; clear hK K) | (refine SG.p ?_; try intro b)) | refine i_c ?_ ?_ <;> intro hc <;> try simp only [push_cast, seval] at hc | refine i_x ?_ | clear hK K)
    have hl : (P.fs.set i { f with used := true }).length = P.fs.length := List.length_set
    generalize P.fs.set i { f with used := true } = fs' at *
    rw [ppt_fs P fs' hl]
    (with_reducible first | apply i_ret0 | apply i_ret2 | apply i_ret3 | apply i_ret); exact rfl
    rfl
  | none =>
    rw [hf] at FN hR
    dsimp only [Option.map] at FN hR
    generalize Z.rpg S id = r at *
    obtain ⟨text, lsn, e⟩ := r
    unfold hl1 at hR
    dsimp only at hR
    by_cases hc0 : e ≠ 0 ∧ e ≠ 8 ∧ e ≠ 10
    · rw [if_pos hc0] at hR
      subst hR
      repeat' (first | (with_reducible first | refine d_seq fun K hK => ?_ | (refine hK _ _ ?_; clear hK K) | (refine SG.p ?_; try intro b)) | refine i_c ?_ ?_ <;> intro hc <;> try simp only [push_cast, seval] at hc | refine i_x ?_ | clear hK K)
      refine i_clp FN ?_
      repeat' (first | (with_reducible first | refine d_seq fun K hK => ?_ | (refine hK _ _ ?_; clear hK K) | (refine SG.p ?_; try intro b)) | refine i_c ?_ ?_ <;> intro hc <;> try simp only [push_cast, seval] at hc | refine i_x ?_ | clear hK K)
      all_goals try contradiction
      rw [hst]
      refine i_clp RD ?_
      repeat' (first | (with_reducible first | refine d_seq fun K hK => ?_ | (refine hK _ _ ?_; clear hK K) | (refine SG.p ?_; try intro b)) | refine i_c ?_ ?_ <;> intro hc <;> try simp only [push_cast, seval] at hc | refine i_x ?_ | clear hK K)
      all_goals try (exfalso; omega)
      all_goals try contradiction
      (with_reducible first | apply i_ret0 | apply i_ret2 | apply i_ret3 | apply i_ret); exact rfl
      rfl
    · rw [if_neg hc0] at hR
      generalize vic (2 * P.fs.length + 1) P = v at *
      obtain ⟨o, ⟨vq, vfb, vst, vlg, vfs, vhd, vwr, vld⟩⟩ := v
      obtain ⟨⟨q1, q2, q3, q4, q5⟩, vok, vlt⟩ := VL
      dsimp only at q1 q2 q3 q4 q5 vlt VC
      subst q1 q2 q3 q4
      unfold hl2 at hR
      dsimp only at hR
      cases o with
      | none =>
        dsimp only [Option.map, Option.isSome] at hR VC
        subst hR
        repeat' (first | (with_reducible first | refine d_seq fun K hK => ?_ | (refine hK _ _ ?_; clear hK K) | (refine SG.p ?_; try intro b)) | refine i_c ?_ ?_ <;> intro hc <;> try simp only [push_cast, seval] at hc | refine i_x ?_ | clear hK K)
        refine i_clp FN ?_
        repeat' (first | (with_reducible first | refine d_seq fun K hK => ?_ | (refine hK _ _ ?_; clear hK K) | (refine SG.p ?_; try intro b)) | refine i_c ?_ ?_ <;> intro hc <;> try simp only [push_cast, seval] at hc | refine i_x ?_ | clear hK K)
        all_goals try contradiction
        rw [hst]
        refine i_clp RD ?_
        repeat' (first | (with_reducible first | refine d_seq fun K hK => ?_ | (refine hK _ _ ?_; clear hK K) | (refine SG.p ?_; try intro b)) | refine i_c ?_ ?_ <;> intro hc <;> try simp only [push_cast, seval] at hc | refine i_x ?_ | clear hK K)
        all_goals try (exfalso; omega)
        all_goals try contradiction
        all_goals
          refine i_clq VC ?_
          repeat' (first | (with_reducible first | refine d_seq fun K hK => ?_ | (refine hK _ _ ?_; clear hK K) | (refine SG.p ?_; try intro b)) | refine i_c ?_ ?_ <;> intro hc <;> try simp only [push_cast, seval] at hc | refine i_x ?_ | clear hK K)
          all_goals try contradiction
          (with_reducible first | apply i_ret0 | apply i_ret2 | apply i_ret3 | apply i_ret); exact rfl
          rfl
      | some i =>
        dsimp only [Option.map, Option.isSome] at hR VC
        have hi := vlt i rfl
        generalize hV : (⟨P.q, P.fb, P.st, P.lg, vfs, vhd, vwr, vld⟩ : Po) = V at *
        have hVq : V.q = P.q := by rw [← hV]
        have hVb : V.fb = P.fb := by rw [← hV]
        have hVf : V.fs = vfs := by rw [← hV]
        have hVs : V.st = P.st := by rw [← hV]
        have hVl : V.lg = P.lg := by rw [← hV]
        have hiV : i < V.fs.length := by rw [hVf]; omega
        have hfi : P.f i = V.f i := by show (⟨P.fb, _, _⟩ : Addr) = ⟨V.fb, _, _⟩; rw [hVb]
        rw [hfi] at VC
        have hx := at_get hiV
        have SV := g95 S sb n ⟨V, G, Z⟩ ⟨vok, hz, hsb, hn, hg, hs, hVs.trans hst, hVl.trans hlg⟩ i hiV
        obtain ⟨sok, slk, sg⟩ := svp_ok (w := ⟨V, G, Z⟩) ⟨vok, hz, hsb, hn, hg, hs, hVs.trans hst, hVl.trans hlg⟩ hiV
        generalize svp S ⟨V, G, Z⟩ i = sv at *
        obtain ⟨e2, ⟨P2, G2, Z2⟩⟩ := sv
        dsimp only at hR SV sok slk sg
        repeat' (first | (with_reducible first | refine d_seq fun K hK => ?_ | (refine hK _ _ ?_; clear hK K) | (refine SG.p ?_; try intro b)) | refine i_c ?_ ?_ <;> intro hc <;> try simp only [push_cast, seval] at hc | refine i_x ?_ | clear hK K)
        refine i_clp FN ?_
        repeat' (first | (with_reducible first | refine d_seq fun K hK => ?_ | (refine hK _ _ ?_; clear hK K) | (refine SG.p ?_; try intro b)) | refine i_c ?_ ?_ <;> intro hc <;> try simp only [push_cast, seval] at hc | refine i_x ?_ | clear hK K)
        all_goals try contradiction
        rw [hst]
        refine i_clp RD ?_
        repeat' (first | (with_reducible first | refine d_seq fun K hK => ?_ | (refine hK _ _ ?_; clear hK K) | (refine SG.p ?_; try intro b)) | refine i_c ?_ ?_ <;> intro hc <;> try simp only [push_cast, seval] at hc | refine i_x ?_ | clear hK K)
        all_goals try (exfalso; omega)
        all_goals try contradiction
        all_goals
          refine i_clq VC ?_
          rw [← hVq]
          repeat' (first | (with_reducible first | refine d_seq fun K hK => ?_ | (refine hK _ _ ?_; clear hK K) | (refine SG.p ?_; try intro b)) | refine i_c ?_ ?_ <;> intro hc <;> try simp only [push_cast, seval] at hc | refine i_x ?_ | clear hK K)
          all_goals try contradiction
          refine i_fl (e := eB) (y := (V.at i).filled) cFr_len hx rfl ?_
          by_cases c5 : (V.at i).filled = true
          · rw [c5]
            rw [if_pos c5] at hR
            repeat' (first | (with_reducible first | refine d_seq fun K hK => ?_ | (refine hK _ _ ?_; clear hK K) | (refine SG.p ?_; try intro b)) | refine i_c ?_ ?_ <;> intro hc <;> try simp only [push_cast, seval] at hc | refine i_x ?_ | clear hK K)
            all_goals try contradiction
            refine i_clq SV ?_
            by_cases c6 : e2 = 0
            · subst c6
              rw [if_pos rfl] at hR
              have hi2 : i < P2.fs.length := by rw [slk.n]; exact hiV
              have hx2 := at_get hi2
              have hfi2 : V.f i = P2.f i := by show (⟨V.fb, _, _⟩ : Addr) = ⟨P2.fb, _, _⟩; rw [slk.fb]
              have hu : P2.put i (nfr (text, lsn, e) id) = { P2 with fs := P2.fs.set i (nfr (text, lsn, e) id), loads := IntKind.wrap .i64 (P2.loads + 1) } := rfl
              rw [hu] at hR
              subst hR
              rw [← slk.q, hfi2]
              dsimp only
              repeat' (first | (with_reducible first | refine d_seq fun K hK => ?_ | (refine hK _ _ ?_; clear hK K) | (refine SG.p ?_; try intro b)) | refine i_c ?_ ?_ <;> intro hc <;> try simp only [push_cast, seval] at hc | refine i_x ?_ | clear hK K)
              all_goals try contradiction
              refine i_fsl (vs := cFr (nfr (text, lsn, e) id)) cFr_len hx2 (nfr (text, lsn, e) id) rfl rfl ?_
              repeat' (first | (with_reducible first | refine d_seq fun K hK => ?_ | (refine hK _ _ ?_; clear hK K) | (refine SG.p ?_; try intro b)) | refine i_c ?_ ?_ <;> intro hc <;> try simp only [push_cast, seval] at hc | refine i_x ?_ | clear hK K)
              have hl : (P2.fs.set i (nfr (text, lsn, e) id)).length = P2.fs.length := List.length_set
              generalize P2.fs.set i (nfr (text, lsn, e) id) = fs' at *
              rw [← hl]
              (with_reducible first | apply i_ret0 | apply i_ret2 | apply i_ret3 | apply i_ret); exact rfl
              dsimp only [Option.map]
              rw [hfi, hfi2]
            · rw [if_neg c6] at hR
              subst hR
              repeat' (first | (with_reducible first | refine d_seq fun K hK => ?_ | (refine hK _ _ ?_; clear hK K) | (refine SG.p ?_; try intro b)) | refine i_c ?_ ?_ <;> intro hc <;> try simp only [push_cast, seval] at hc | refine i_x ?_ | clear hK K)
              all_goals try contradiction
              (with_reducible first | apply i_ret0 | apply i_ret2 | apply i_ret3 | apply i_ret); exact rfl
              rfl
          · have c5' : (V.at i).filled = false := by simpa using c5
            rw [c5']
            rw [if_neg c5] at hR
            have hu : V.put i (nfr (text, lsn, e) id) = { V with fs := V.fs.set i (nfr (text, lsn, e) id), loads := IntKind.wrap .i64 (V.loads + 1) } := rfl
            rw [hu] at hR
            subst hR
            repeat' (first | (with_reducible first | refine d_seq fun K hK => ?_ | (refine hK _ _ ?_; clear hK K) | (refine SG.p ?_; try intro b)) | refine i_c ?_ ?_ <;> intro hc <;> try simp only [push_cast, seval] at hc | refine i_x ?_ | clear hK K)
            all_goals try contradiction
            refine i_fsl (vs := cFr (nfr (text, lsn, e) id)) cFr_len hx (nfr (text, lsn, e) id) rfl rfl ?_
            repeat' (first | (with_reducible first | refine d_seq fun K hK => ?_ | (refine hK _ _ ?_; clear hK K) | (refine SG.p ?_; try intro b)) | refine i_c ?_ ?_ <;> intro hc <;> try simp only [push_cast, seval] at hc | refine i_x ?_ | clear hK K)
            have hl : (V.fs.set i (nfr (text, lsn, e) id)).length = V.fs.length := List.length_set
            generalize V.fs.set i (nfr (text, lsn, e) id) = fs' at *
            rw [← hl]
            (with_reducible first | apply i_ret0 | apply i_ret2 | apply i_ret3 | apply i_ret); exact rfl
            dsimp only [Option.map]
            rw [hfi]
theorem Wo.ok.mvP {S : St} {sb n : Nat} {w : Wo} (h : w.ok S sb n) {P' : Po} (l : w.P.like P') (hh : P'.hand < w.P.fs.length) : (⟨P', w.G, w.Z⟩ : Wo).ok S sb n := ⟨l.ok h.p hh, h.z, h.sb, h.nn, h.g, h.s, l.st.trans h.st, l.lg.trans h.lg⟩
theorem hl2_ok {S : St} {sb n : Nat} {w : Wo} (h : w.ok S sb n) (id : Int) (r : List UInt8 × Int × Int) {v : Option Nat × Po} (vl : w.P.like v.2) (vo : v.2.ok) (vi : ∀ i, v.1 = some i → i < w.P.fs.length) :
    (hl2 S w id r v).2.ok S sb n ∧ w.P.like (hl2 S w id r v).2.P ∧ (hl2 S w id r v).2.G.q = w.G.q ∧ (∀ i, (hl2 S w id r v).1.1 = some i → i < w.P.fs.length ∧ (hl2 S w id r v).1.2 = 0) ∧ ((hl2 S w id r v).1.1 = none → (hl2 S w id r v).1.2 ≠ 0) := by
  obtain ⟨o, V⟩ := v
  dsimp only at vl vo vi
  have hV : (⟨V, w.G, w.Z⟩ : Wo).ok S sb n := h.mvP vl (by have := vo.h; rw [vl.n] at this; exact this)
  unfold hl2
  dsimp only
  cases o with
  | none => exact ⟨hV, vl, rfl, fun i e => (by cases e), fun _ => (by show (7 : Int) ≠ 0; decide)⟩
  | some i =>
    have hi := vi i rfl
    dsimp only
    obtain ⟨s1, s2, s3⟩ := svp_ok hV (i := i) (by dsimp only; rw [vl.n]; exact hi)
    split
    · split
      · have l : (svp S ⟨V, w.G, w.Z⟩ i).2.P.like ((svp S ⟨V, w.G, w.Z⟩ i).2.P.put i (nfr r id)) := ⟨rfl, rfl, rfl, rfl, List.length_set⟩
        exact ⟨s1.mvP l s1.p.h, (vl.tr s2).tr l, s3, fun j e => by cases e; exact ⟨hi, rfl⟩, fun e => by cases e⟩
      · rename_i h0
        exact ⟨s1, vl.tr s2, s3, fun j e => (by cases e), fun _ => h0⟩
    · have l : V.like (V.put i (nfr r id)) := ⟨rfl, rfl, rfl, rfl, List.length_set⟩
      exact ⟨h.mvP (vl.tr l) (by have := vo.h; rw [vl.n] at this; exact this), vl.tr l, rfl, fun j e => by cases e; exact ⟨hi, rfl⟩, fun e => by cases e⟩
theorem hld_ok {S : St} {sb n : Nat} {w : Wo} (h : w.ok S sb n) (id : Int) :
    (hld S w id).2.ok S sb n ∧ w.P.like (hld S w id).2.P ∧ (hld S w id).2.G.q = w.G.q ∧ (∀ i, (hld S w id).1.1 = some i → i < w.P.fs.length ∧ (hld S w id).1.2 = 0) ∧ ((hld S w id).1.1 = none → (hld S w id).1.2 ≠ 0) := by
  unfold hld
  cases hf : w.P.find id with
  | some i =>
    have l : w.P.like (w.P.use i) := ⟨rfl, rfl, rfl, rfl, List.length_set⟩
    exact ⟨h.mvP l h.p.h, l, rfl, fun j e => by cases e; exact ⟨find_lt hf, rfl⟩, fun e => by cases e⟩
  | none =>
    dsimp only
    unfold hl1
    split
    · rename_i h0
      exact ⟨h, .rfl', rfl, fun i e => (by cases e), fun _ => h0.1⟩
    · obtain ⟨a, b, c⟩ := vic_like (2 * w.P.fs.length + 1) w.P h.p
      exact hl2_ok h id _ a b c
def Po.mod (P : Po) (i : Nat) (f : Fr) : Po := { P with fs := P.fs.set i f }
theorem mod_like (P : Po) (i : Nat) (f : Fr) : P.like (P.mod i f) := ⟨rfl, rfl, rfl, rfl, List.length_set⟩
theorem ppt_mod (P : Po) (i : Nat) (f : Fr) : ppt (P.mod i f) = ppt P := ppt_fs P _ List.length_set
def sfr (f : Fr) (text : List UInt8) (lsn : Int) : Fr := { f with text := text, lsn := lsn, dirty := true, first := if f.dirty then f.first else lsn }
def wset (S : St) (w : Wo) (id : Int) (text : List UInt8) (lsn : Int) : Int × Wo := if text.length ≠ 224 then (4, w) else if lsn < 1 then (1, w) else
  match (hld S w id).1.1 with
  | none => ((hld S w id).1.2, (hld S w id).2)
  | some i => (0, ⟨(hld S w id).2.P.mod i (sfr ((hld S w id).2.P.at i) text lsn), (hld S w id).2.G, (hld S w id).2.Z⟩)
def wget (S : St) (w : Wo) (id : Int) : List UInt8 × Int × Int := match (hld S w id).1.1 with
  | none => ([], 0, (hld S w id).1.2)
  | some i => (((hld S w id).2.P.at i).text, ((hld S w id).2.P.at i).lsn, 0)
def wpin (S : St) (w : Wo) (id : Int) : Int × Wo := match (hld S w id).1.1 with
  | none => ((hld S w id).1.2, (hld S w id).2)
  | some i => (0, ⟨(hld S w id).2.P.mod i { (hld S w id).2.P.at i with pins := IntKind.wrap .i64 (((hld S w id).2.P.at i).pins + 1) }, (hld S w id).2.G, (hld S w id).2.Z⟩)
set_option maxHeartbeats 1000000 in
theorem g49 (S : St) (sb n : Nat) (w : Wo) (h : w.ok S sb n) (id : Int) : Fq (eT3 eS eI eI) Tryz.prog 49 #[w.P.p, .int .i64 id] (wos S sb w) (wos S sb (hld S w id).2) (wget S w id) := fun L => by
  have N := g89 w.P h.p
  have H := g90 S sb n w h id
  obtain ⟨h1, h2, h3, h4, h5⟩ := hld_ok h id
  unfold wget
  generalize hld S w id = r at *
  obtain ⟨⟨o, e⟩, w2⟩ := r
  dsimp only at H h1 h2 h3 h4 h5 ⊢
  refine c49_fn rfl rfl ?_
  cases o with
  | none =>
    have he := h5 rfl
    dsimp only [Option.map] at H ⊢
    repeat' (first | (with_reducible first | refine d_seq fun K hK => ?_ | (refine hK _ _ ?_; clear hK K) | (refine SG.p ?_; try intro b)) | refine i_c ?_ ?_ <;> intro hc <;> try simp only [push_cast, seval] at hc | refine i_x ?_ | clear hK K)
    refine i_clp N ?_
    repeat' (first | (with_reducible first | refine d_seq fun K hK => ?_ | (refine hK _ _ ?_; clear hK K) | (refine SG.p ?_; try intro b)) | refine i_c ?_ ?_ <;> intro hc <;> try simp only [push_cast, seval] at hc | refine i_x ?_ | clear hK K)
    all_goals try contradiction
    refine i_clq H ?_
    repeat' (first | (with_reducible first | refine d_seq fun K hK => ?_ | (refine hK _ _ ?_; clear hK K) | (refine SG.p ?_; try intro b)) | refine i_c ?_ ?_ <;> intro hc <;> try simp only [push_cast, seval] at hc | refine i_x ?_ | clear hK K)
    all_goals try contradiction
    (with_reducible first | apply i_ret0 | apply i_ret2 | apply i_ret3 | apply i_ret); exact rfl
    rfl
  | some i =>
    obtain ⟨hi, rfl⟩ := h4 i rfl
    dsimp only [Option.map] at H ⊢
    have hx := at_get (P := w2.P) (i := i) (by rw [h2.n]; exact hi)
    have hfi : w.P.f i = w2.P.f i := by show (⟨w.P.fb, _, _⟩ : Addr) = ⟨w2.P.fb, _, _⟩; rw [h2.fb]
    rw [hfi] at H
    repeat' (first | (with_reducible first | refine d_seq fun K hK => ?_ | (refine hK _ _ ?_; clear hK K) | (refine SG.p ?_; try intro b)) | refine i_c ?_ ?_ <;> intro hc <;> try simp only [push_cast, seval] at hc | refine i_x ?_ | clear hK K)
    refine i_clp N ?_
    repeat' (first | (with_reducible first | refine d_seq fun K hK => ?_ | (refine hK _ _ ?_; clear hK K) | (refine SG.p ?_; try intro b)) | refine i_c ?_ ?_ <;> intro hc <;> try simp only [push_cast, seval] at hc | refine i_x ?_ | clear hK K)
    all_goals try contradiction
    refine i_clq H ?_
    repeat' (first | (with_reducible first | refine d_seq fun K hK => ?_ | (refine hK _ _ ?_; clear hK K) | (refine SG.p ?_; try intro b)) | refine i_c ?_ ?_ <;> intro hc <;> try simp only [push_cast, seval] at hc | refine i_x ?_ | clear hK K)
    all_goals try contradiction
    refine r_ph0 ?_
    repeat' (first | (with_reducible first | refine d_seq fun K hK => ?_ | (refine hK _ _ ?_; clear hK K) | (refine SG.p ?_; try intro b)) | refine i_c ?_ ?_ <;> intro hc <;> try simp only [push_cast, seval] at hc | refine i_x ?_ | clear hK K)
    refine i_fl0q (e := eS) (y := (w2.P.at i).text) cFr_len hx rfl ?_
    refine i_flq (e := eI) (y := (w2.P.at i).lsn) cFr_len hx rfl ?_
    repeat' (first | (with_reducible first | refine d_seq fun K hK => ?_ | (refine hK _ _ ?_; clear hK K) | (refine SG.p ?_; try intro b)) | refine i_c ?_ ?_ <;> intro hc <;> try simp only [push_cast, seval] at hc | refine i_x ?_ | clear hK K)
    (with_reducible first | apply i_ret0 | apply i_ret2 | apply i_ret3 | apply i_ret); exact rfl
    rfl
set_option maxHeartbeats 1000000 in
theorem g43 (S : St) (sb n : Nat) (w : Wo) (h : w.ok S sb n) (id : Int) (text : List UInt8) (lsn : Int) : Fq eI Tryz.prog 43 #[w.P.p, .int .i64 id, str text, .int .i64 lsn] (wos S sb w) (wos S sb (wset S w id text lsn).2) (wset S w id text lsn).1 := fun L => by
  have N := g89 w.P h.p
  have H := g90 S sb n w h id
  obtain ⟨h1, h2, h3, h4, h5⟩ := hld_ok h id
  unfold wset
  generalize hld S w id = r at *
  obtain ⟨⟨o, e⟩, w2⟩ := r
  dsimp only at H h1 h2 h3 h4 h5 ⊢
  refine c43_fn rfl rfl ?_
  by_cases c1 : text.length ≠ 224
  · rw [if_pos c1]
    repeat' (first | (with_reducible first | refine d_seq fun K hK => ?_ | (refine hK _ _ ?_; clear hK K) | (refine SG.p ?_; try intro b)) | refine i_c ?_ ?_ <;> intro hc <;> try simp only [push_cast, seval] at hc | refine i_x ?_ | clear hK K)
    refine i_clp N ?_
    repeat' (first | (with_reducible first | refine d_seq fun K hK => ?_ | (refine hK _ _ ?_; clear hK K) | (refine SG.p ?_; try intro b)) | refine i_c ?_ ?_ <;> intro hc <;> try simp only [push_cast, seval] at hc | refine i_x ?_ | clear hK K)
    all_goals try (exfalso; omega)
    all_goals try contradiction
    (with_reducible first | apply i_ret0 | apply i_ret2 | apply i_ret3 | apply i_ret); exact rfl
    rfl
  rw [if_neg c1]
  by_cases c2 : lsn < 1
  · rw [if_pos c2]
    repeat' (first | (with_reducible first | refine d_seq fun K hK => ?_ | (refine hK _ _ ?_; clear hK K) | (refine SG.p ?_; try intro b)) | refine i_c ?_ ?_ <;> intro hc <;> try simp only [push_cast, seval] at hc | refine i_x ?_ | clear hK K)
    refine i_clp N ?_
    repeat' (first | (with_reducible first | refine d_seq fun K hK => ?_ | (refine hK _ _ ?_; clear hK K) | (refine SG.p ?_; try intro b)) | refine i_c ?_ ?_ <;> intro hc <;> try simp only [push_cast, seval] at hc | refine i_x ?_ | clear hK K)
    all_goals try (exfalso; omega)
    all_goals try contradiction
    (with_reducible first | apply i_ret0 | apply i_ret2 | apply i_ret3 | apply i_ret); exact rfl
    rfl
  rw [if_neg c2]
  cases o with
  | none =>
    have he := h5 rfl
    dsimp only [Option.map] at H ⊢
    repeat' (first | (with_reducible first | refine d_seq fun K hK => ?_ | (refine hK _ _ ?_; clear hK K) | (refine SG.p ?_; try intro b)) | refine i_c ?_ ?_ <;> intro hc <;> try simp only [push_cast, seval] at hc | refine i_x ?_ | clear hK K)
    refine i_clp N ?_
    repeat' (first | (with_reducible first | refine d_seq fun K hK => ?_ | (refine hK _ _ ?_; clear hK K) | (refine SG.p ?_; try intro b)) | refine i_c ?_ ?_ <;> intro hc <;> try simp only [push_cast, seval] at hc | refine i_x ?_ | clear hK K)
    all_goals try (exfalso; omega)
    all_goals try contradiction
    refine i_clq H ?_
    repeat' (first | (with_reducible first | refine d_seq fun K hK => ?_ | (refine hK _ _ ?_; clear hK K) | (refine SG.p ?_; try intro b)) | refine i_c ?_ ?_ <;> intro hc <;> try simp only [push_cast, seval] at hc | refine i_x ?_ | clear hK K)
    all_goals try contradiction
    (with_reducible first | apply i_ret0 | apply i_ret2 | apply i_ret3 | apply i_ret); exact rfl
    rfl
  | some i =>
    obtain ⟨hi, rfl⟩ := h4 i rfl
    dsimp only [Option.map] at H ⊢
    have hi2 : i < w2.P.fs.length := by rw [h2.n]; exact hi
    have hx := at_get hi2
    have hfi : w.P.f i = w2.P.f i := by show (⟨w.P.fb, _, _⟩ : Addr) = ⟨w2.P.fb, _, _⟩; rw [h2.fb]
    rw [hfi] at H
    unfold wos
    dsimp only
    rw [ppt_mod]
    unfold Po.mod sfr
    generalize w2.P.at i = f at *
    obtain ⟨ft, fl, fi, fd, ff, fp, fu, fz⟩ := f
    cases fd
    · simp only [Bool.false_eq_true, if_false]
      repeat' (first | (with_reducible first | refine d_seq fun K hK => ?_ | (refine hK _ _ ?_; clear hK K) | (refine SG.p ?_; try intro b)) | refine i_c ?_ ?_ <;> intro hc <;> try simp only [push_cast, seval] at hc | refine i_x ?_ | clear hK K)
      refine i_clp N ?_
      repeat' (first | (with_reducible first | refine d_seq fun K hK => ?_ | (refine hK _ _ ?_; clear hK K) | (refine SG.p ?_; try intro b)) | refine i_c ?_ ?_ <;> intro hc <;> try simp only [push_cast, seval] at hc | refine i_x ?_ | clear hK K)
      all_goals try (exfalso; omega)
      all_goals try contradiction
      refine i_clq H ?_
      repeat' (first | (with_reducible first | refine d_seq fun K hK => ?_ | (refine hK _ _ ?_; clear hK K) | (refine SG.p ?_; try intro b)) | refine i_c ?_ ?_ <;> intro hc <;> try simp only [push_cast, seval] at hc | refine i_x ?_ | clear hK K)
      all_goals try contradiction
      refine i_fl (e := eB) (y := false) cFr_len hx rfl ?_
      repeat' (first | (with_reducible first | refine d_seq fun K hK => ?_ | (refine hK _ _ ?_; clear hK K) | (refine SG.p ?_; try intro b)) | refine i_c ?_ ?_ <;> intro hc <;> try simp only [push_cast, seval] at hc | refine i_x ?_ | clear hK K)
      all_goals try contradiction
      have hg : ∀ f : Fr, (w2.P.fs.set i f)[i]? = some f := fun f => by simp [hi2]
      refine i_fs (j := 3) (v := .bool true) cFr_len hx ⟨ft, fl, fi, true, ff, fp, fu, fz⟩ rfl rfl rfl ?_
      refine i_fs (j := 4) (v := .int .i64 lsn) cFr_len (hg ⟨ft, fl, fi, true, ff, fp, fu, fz⟩) ⟨ft, fl, fi, true, lsn, fp, fu, fz⟩ rfl rfl rfl ?_
      rw [List.set_set]
      repeat' (first | (with_reducible first | refine d_seq fun K hK => ?_ | (refine hK _ _ ?_; clear hK K) | (refine SG.p ?_; try intro b)) | refine i_c ?_ ?_ <;> intro hc <;> try simp only [push_cast, seval] at hc | refine i_x ?_ | clear hK K)
      refine i_fs0 (v := str text) cFr_len (hg ⟨ft, fl, fi, true, lsn, fp, fu, fz⟩) ⟨text, fl, fi, true, lsn, fp, fu, fz⟩ rfl rfl rfl ?_
      rw [List.set_set]
      refine i_fs (j := 1) (v := .int .i64 lsn) cFr_len (hg ⟨text, fl, fi, true, lsn, fp, fu, fz⟩) ⟨text, lsn, fi, true, lsn, fp, fu, fz⟩ rfl rfl rfl ?_
      rw [List.set_set]
      repeat' (first | (with_reducible first | refine d_seq fun K hK => ?_ | (refine hK _ _ ?_; clear hK K) | (refine SG.p ?_; try intro b)) | refine i_c ?_ ?_ <;> intro hc <;> try simp only [push_cast, seval] at hc | refine i_x ?_ | clear hK K)
      (with_reducible first | apply i_ret0 | apply i_ret2 | apply i_ret3 | apply i_ret); exact rfl
      rfl
    · simp only [if_true]
      repeat' (first | (with_reducible first | refine d_seq fun K hK => ?_ | (refine hK _ _ ?_; clear hK K) | (refine SG.p ?_; try intro b)) | refine i_c ?_ ?_ <;> intro hc <;> try simp only [push_cast, seval] at hc | refine i_x ?_ | clear hK K)
      refine i_clp N ?_
      repeat' (first | (with_reducible first | refine d_seq fun K hK => ?_ | (refine hK _ _ ?_; clear hK K) | (refine SG.p ?_; try intro b)) | refine i_c ?_ ?_ <;> intro hc <;> try simp only [push_cast, seval] at hc | refine i_x ?_ | clear hK K)
      all_goals try (exfalso; omega)
      all_goals try contradiction
      refine i_clq H ?_
      repeat' (first | (with_reducible first | refine d_seq fun K hK => ?_ | (refine hK _ _ ?_; clear hK K) | (refine SG.p ?_; try intro b)) | refine i_c ?_ ?_ <;> intro hc <;> try simp only [push_cast, seval] at hc | refine i_x ?_ | clear hK K)
      all_goals try contradiction
      refine i_fl (e := eB) (y := true) cFr_len hx rfl ?_
      repeat' (first | (with_reducible first | refine d_seq fun K hK => ?_ | (refine hK _ _ ?_; clear hK K) | (refine SG.p ?_; try intro b)) | refine i_c ?_ ?_ <;> intro hc <;> try simp only [push_cast, seval] at hc | refine i_x ?_ | clear hK K)
      all_goals try contradiction
      have hg : ∀ f : Fr, (w2.P.fs.set i f)[i]? = some f := fun f => by simp [hi2]
      refine i_fs0 (v := str text) cFr_len hx ⟨text, fl, fi, true, ff, fp, fu, fz⟩ rfl rfl rfl ?_
      refine i_fs (j := 1) (v := .int .i64 lsn) cFr_len (hg ⟨text, fl, fi, true, ff, fp, fu, fz⟩) ⟨text, lsn, fi, true, ff, fp, fu, fz⟩ rfl rfl rfl ?_
      rw [List.set_set]
      repeat' (first | (with_reducible first | refine d_seq fun K hK => ?_ | (refine hK _ _ ?_; clear hK K) | (refine SG.p ?_; try intro b)) | refine i_c ?_ ?_ <;> intro hc <;> try simp only [push_cast, seval] at hc | refine i_x ?_ | clear hK K)
      (with_reducible first | apply i_ret0 | apply i_ret2 | apply i_ret3 | apply i_ret); exact rfl
      rfl
def zf : Fr := ⟨[], 0, 0, false, 0, 0, false, false⟩
abbrev zfv : Array Value := ⟨cFr zf⟩
theorem made_fr (n : Nat) : (madeCells zfv (n * 8)).toList = (List.replicate n zf).flatMap cFr := by
  apply List.ext_getElem?
  intro j
  rcases Nat.lt_or_ge j (n * 8) with h | h
  · have h1 : j / 8 < n := Nat.div_lt_of_lt_mul (by omega)
    have h2 : j % 8 < 8 := Nat.mod_lt _ (by decide)
    have hx : (List.replicate n zf)[j / 8]? = some zf := by simp [h1]
    have e1 : (cFr zf)[j % 8]? = some (cFr zf)[j % 8] := List.getElem?_eq_getElem h2
    have e2 := flat_get cFr_len _ _ _ hx _ _ e1
    rw [show j / 8 * 8 + j % 8 = j by omega] at e2
    rw [e2]
    unfold madeCells
    simp only [Array.toList_map, Array.toList_range, List.getElem?_map, List.getElem?_range h, Option.map_some]
    congr 1
    have : (zfv).size = 8 := rfl
    rw [this]
    exact getElem!_pos zfv (j % 8) h2
  · rw [List.getElem?_eq_none (by simp [madeCells]; exact h), List.getElem?_eq_none (by rw [flat_len cFr_len, List.length_replicate]; exact h)]
theorem r_mkfr {L : List HP} {k : SlV → W} (n : Nat) (hn : n ≤ 64) (h : ∀ b, E (ar b 134 ((List.replicate n zf).flatMap cFr) :: L) (k (some ⟨b, 0, none⟩, n, n))) :
    E L (val eSl Tryz.prog (oMake 94 (.int .i64 (n : Int)) (.int .i64 (n : Int))) k) := by
  have h1 : Tryz.prog.underlying 94 = some (.slice 134) := by kernel_rfl
  have s1 : (Tryz.prog.info? 134).map (·.size) = some 8 := by kernel_rfl
  have s2 : (Tryz.prog.info? 134).map (·.bytes) = some 64 := by kernel_rfl
  have s3 : (Tryz.prog.info? 134).bind (·.zero) = some (.agg zfv) := by kernel_rfl
  cases hi : Tryz.prog.info? 134 with
  | none => rw [hi] at s1; cases s1
  | some i =>
    rw [hi] at s1 s2 s3
    simp only [Option.map_some, Option.some.injEq, Option.bind_some] at s1 s2 s3
    intro w hw
    have := run_makeSlice (P := Tryz.prog) w 94 134 i (.agg zfv) h1 hi s3 .i64 .i64 (n : Int) (n : Int) (by omega) (by omega) (by rw [s1]; simp; omega) (by rw [s2]; omega) (by omega)
    rw [s1] at this
    simp only [Int.toNat_natCast] at this
    have e : madeCells (Value.agg zfv).cells (n * 8) = ⟨(List.replicate n zf).flatMap cFr⟩ := by
      apply Array.toList_inj.1
      exact made_fr n
    rw [e] at this
    exact ⟨(some ⟨w.heap.size, 0, none⟩, n, n), _, this, h _ _ (Holds.push hw (.cells ⟨(List.replicate n zf).flatMap cFr⟩ 134 (0, 0)) rfl)⟩
def Po.new (q fb st lg n : Nat) : Po := ⟨q, fb, st, lg, List.replicate n zf, 0, 0, 0⟩
theorem new_okP {q fb st lg n : Nat} (h1 : 2 ≤ n) (h2 : n ≤ 64) : (Po.new q fb st lg n).ok := ⟨by simpa [Po.new] using h1, by simpa [Po.new] using h2, by simp [Po.new]; omega⟩
theorem g42 (s l : Nat) (n : Nat) (h1 : 2 ≤ n) (h2 : n ≤ 64) : Fn (eT2 eP eI) Tryz.prog 42 #[.pointer (some ⟨s, 0, none⟩), .pointer (some ⟨l, 0, none⟩), .int .i64 (n : Int)] [] fun y X => ∃ q fb, y = (some ⟨q, 0, none⟩, 0) ∧ X = [ppt (Po.new q fb s l n), pfs (Po.new q fb s l n)] := fun L => by
  refine c42_fn rfl rfl ?_
  repeat' (first | (with_reducible first | refine d_seq fun K hK => ?_ | (refine hK _ _ ?_; clear hK K) | (refine SG.p ?_; try intro b)) | refine i_c ?_ ?_ <;> intro hc <;> try simp only [push_cast, seval] at hc | refine i_x ?_ | clear hK K)
  all_goals try (exfalso; omega)
  all_goals try contradiction
  refine r_mkfr n h2 fun fb => ?_
  refine r_nwc ?_
  intro q
  repeat' (first | (with_reducible first | refine d_seq fun K hK => ?_ | (refine hK _ _ ?_; clear hK K) | (refine SG.p ?_; try intro b)) | refine i_c ?_ ?_ <;> intro hc <;> try simp only [push_cast, seval] at hc | refine i_x ?_ | clear hK K)
  refine i_done (e := eT2 eP eI) (some ⟨q, 0, none⟩, 0) [ppt (Po.new q fb s l n), pfs (Po.new q fb s l n)] (hs := ?_) rfl ⟨q, fb, rfl, rfl⟩
  have e : ppt (Po.new q fb s l n) = ar q 96 [.pointer (some ⟨s, 0, none⟩), .pointer (some ⟨l, 0, none⟩), .slice (some ⟨fb, 0, none⟩) n n, .int .i64 0, .int .i64 0, .int .i64 0] := by
    show ar q 96 [_, _, .slice _ (List.replicate n zf).length (List.replicate n zf).length, _, _, _] = _
    rw [List.length_replicate]
    rfl
  rw [e, show pfs (Po.new q fb s l n) = ar fb 134 ((List.replicate n zf).flatMap cFr) from rfl]
  exact ⟨SX.p⟩
def Po.dirt (P : Po) (id : Int) : Bool := match P.find id with
  | none => false
  | some i => (P.at i).dirty
theorem g45 (P : Po) (h : P.ok) (id : Int) : Fp eB Tryz.prog 45 #[P.p, .int .i64 id] [ppt P, pfs P] (P.dirt id) := fun L => by
  have F := g91 P h id
  unfold Po.dirt
  refine c45_fn rfl rfl ?_
  cases hf : P.find id with
  | none =>
    rw [hf] at F
    dsimp only [Option.map] at F ⊢
    repeat' (first | refine i_clp (g89 P h) ?_ | refine i_clp F ?_ | first | (with_reducible first | refine d_seq fun K hK => ?_ | (refine hK _ _ ?_; clear hK K) | (refine SG.p ?_; try intro b)) | refine i_c ?_ ?_ <;> intro hc <;> try simp only [push_cast, seval] at hc | refine i_x ?_ | clear hK K)
    all_goals try contradiction
    (with_reducible first | apply i_ret0 | apply i_ret2 | apply i_ret3 | apply i_ret); exact rfl
    rfl
  | some i =>
    rw [hf] at F
    dsimp only [Option.map] at F ⊢
    have hx := at_get (find_lt hf)
    repeat' (first | refine i_clp (g89 P h) ?_ | refine i_clp F ?_ | first | (with_reducible first | refine d_seq fun K hK => ?_ | (refine hK _ _ ?_; clear hK K) | (refine SG.p ?_; try intro b)) | refine i_c ?_ ?_ <;> intro hc <;> try simp only [push_cast, seval] at hc | refine i_x ?_ | clear hK K)
    all_goals try contradiction
    refine i_fl (e := eB) (y := (P.at i).dirty) cFr_len hx rfl ?_
    repeat' (first | (with_reducible first | refine d_seq fun K hK => ?_ | (refine hK _ _ ?_; clear hK K) | (refine SG.p ?_; try intro b)) | refine i_c ?_ ?_ <;> intro hc <;> try simp only [push_cast, seval] at hc | refine i_x ?_ | clear hK K)
    (with_reducible first | apply i_ret0 | apply i_ret2 | apply i_ret3 | apply i_ret); exact rfl
    rfl
def Po.unp (P : Po) (id : Int) : Int × Po := match P.find id with
  | none => (8, P)
  | some i => if (P.at i).pins = 0 then (8, P) else (0, P.mod i { P.at i with pins := IntKind.wrap .i64 ((P.at i).pins - 1) })
theorem g50 (P : Po) (h : P.ok) (id : Int) : Fq eI Tryz.prog 50 #[P.p, .int .i64 id] [ppt P, pfs P] [ppt (P.unp id).2, pfs (P.unp id).2] (P.unp id).1 := fun L => by
  have F := g91 P h id
  unfold Po.unp
  refine c50_fn rfl rfl ?_
  cases hf : P.find id with
  | none =>
    rw [hf] at F
    dsimp only [Option.map] at F ⊢
    repeat' (first | refine i_clp (g89 P h) ?_ | refine i_clp F ?_ | first | (with_reducible first | refine d_seq fun K hK => ?_ | (refine hK _ _ ?_; clear hK K) | (refine SG.p ?_; try intro b)) | refine i_c ?_ ?_ <;> intro hc <;> try simp only [push_cast, seval] at hc | refine i_x ?_ | clear hK K)
    all_goals try contradiction
    (with_reducible first | apply i_ret0 | apply i_ret2 | apply i_ret3 | apply i_ret); exact rfl
    rfl
  | some i =>
    rw [hf] at F
    dsimp only [Option.map] at F ⊢
    have hx := at_get (find_lt hf)
    generalize P.at i = f at *
    by_cases hp : f.pins = 0
    · rw [if_pos hp]
      repeat' (first | refine i_clp (g89 P h) ?_ | refine i_clp F ?_ | first | (with_reducible first | refine d_seq fun K hK => ?_ | (refine hK _ _ ?_; clear hK K) | (refine SG.p ?_; try intro b)) | refine i_c ?_ ?_ <;> intro hc <;> try simp only [push_cast, seval] at hc | refine i_x ?_ | clear hK K)
      all_goals try contradiction
      refine i_fl (e := eI) (y := f.pins) cFr_len hx rfl ?_
      repeat' (first | (with_reducible first | refine d_seq fun K hK => ?_ | (refine hK _ _ ?_; clear hK K) | (refine SG.p ?_; try intro b)) | refine i_c ?_ ?_ <;> intro hc <;> try simp only [push_cast, seval] at hc | refine i_x ?_ | clear hK K)
      all_goals try contradiction
      (with_reducible first | apply i_ret0 | apply i_ret2 | apply i_ret3 | apply i_ret); exact rfl
      rfl
    · rw [if_neg hp]
      dsimp only
      rw [ppt_mod]
      unfold Po.mod
      repeat' (first | refine i_clp (g89 P h) ?_ | refine i_clp F ?_ | first | (with_reducible first | refine d_seq fun K hK => ?_ | (refine hK _ _ ?_; clear hK K) | (refine SG.p ?_; try intro b)) | refine i_c ?_ ?_ <;> intro hc <;> try simp only [push_cast, seval] at hc | refine i_x ?_ | clear hK K)
      all_goals try contradiction
      refine i_fl (e := eI) (y := f.pins) cFr_len hx rfl ?_
      repeat' (first | (with_reducible first | refine d_seq fun K hK => ?_ | (refine hK _ _ ?_; clear hK K) | (refine SG.p ?_; try intro b)) | refine i_c ?_ ?_ <;> intro hc <;> try simp only [push_cast, seval] at hc | refine i_x ?_ | clear hK K)
      all_goals try contradiction
      refine i_fl (e := eI) (y := f.pins) cFr_len hx rfl ?_
      refine i_fs (j := 5) (v := .int .i64 (IntKind.wrap .i64 (f.pins - 1))) cFr_len hx { f with pins := IntKind.wrap .i64 (f.pins - 1) } rfl rfl rfl ?_
      repeat' (first | (with_reducible first | refine d_seq fun K hK => ?_ | (refine hK _ _ ?_; clear hK K) | (refine SG.p ?_; try intro b)) | refine i_c ?_ ?_ <;> intro hc <;> try simp only [push_cast, seval] at hc | refine i_x ?_ | clear hK K)
      (with_reducible first | apply i_ret0 | apply i_ret2 | apply i_ret3 | apply i_ret); exact rfl
      rfl
set_option maxHeartbeats 1000000 in
theorem g48 (S : St) (sb n : Nat) (w : Wo) (h : w.ok S sb n) (id : Int) : Fq eI Tryz.prog 48 #[w.P.p, .int .i64 id] (wos S sb w) (wos S sb (wpin S w id).2) (wpin S w id).1 := fun L => by
  have N := g89 w.P h.p
  have H := g90 S sb n w h id
  obtain ⟨h1, h2, h3, h4, h5⟩ := hld_ok h id
  unfold wpin
  generalize hld S w id = r at *
  obtain ⟨⟨o, e⟩, w2⟩ := r
  dsimp only at H h1 h2 h3 h4 h5 ⊢
  refine c48_fn rfl rfl ?_
  cases o with
  | none =>
    have he := h5 rfl
    dsimp only [Option.map] at H ⊢
    repeat' (first | (with_reducible first | refine d_seq fun K hK => ?_ | (refine hK _ _ ?_; clear hK K) | (refine SG.p ?_; try intro b)) | refine i_c ?_ ?_ <;> intro hc <;> try simp only [push_cast, seval] at hc | refine i_x ?_ | clear hK K)
    refine i_clp N ?_
    repeat' (first | (with_reducible first | refine d_seq fun K hK => ?_ | (refine hK _ _ ?_; clear hK K) | (refine SG.p ?_; try intro b)) | refine i_c ?_ ?_ <;> intro hc <;> try simp only [push_cast, seval] at hc | refine i_x ?_ | clear hK K)
    all_goals try contradiction
    refine i_clq H ?_
    repeat' (first | (with_reducible first | refine d_seq fun K hK => ?_ | (refine hK _ _ ?_; clear hK K) | (refine SG.p ?_; try intro b)) | refine i_c ?_ ?_ <;> intro hc <;> try simp only [push_cast, seval] at hc | refine i_x ?_ | clear hK K)
    all_goals try contradiction
    (with_reducible first | apply i_ret0 | apply i_ret2 | apply i_ret3 | apply i_ret); exact rfl
    rfl
  | some i =>
    obtain ⟨hi, rfl⟩ := h4 i rfl
    dsimp only [Option.map] at H ⊢
    have hx := at_get (P := w2.P) (i := i) (by rw [h2.n]; exact hi)
    have hfi : w.P.f i = w2.P.f i := by show (⟨w.P.fb, _, _⟩ : Addr) = ⟨w2.P.fb, _, _⟩; rw [h2.fb]
    rw [hfi] at H
    unfold wos
    dsimp only
    rw [ppt_mod]
    unfold Po.mod
    generalize w2.P.at i = f at *
    repeat' (first | (with_reducible first | refine d_seq fun K hK => ?_ | (refine hK _ _ ?_; clear hK K) | (refine SG.p ?_; try intro b)) | refine i_c ?_ ?_ <;> intro hc <;> try simp only [push_cast, seval] at hc | refine i_x ?_ | clear hK K)
    refine i_clp N ?_
    repeat' (first | (with_reducible first | refine d_seq fun K hK => ?_ | (refine hK _ _ ?_; clear hK K) | (refine SG.p ?_; try intro b)) | refine i_c ?_ ?_ <;> intro hc <;> try simp only [push_cast, seval] at hc | refine i_x ?_ | clear hK K)
    all_goals try contradiction
    refine i_clq H ?_
    repeat' (first | (with_reducible first | refine d_seq fun K hK => ?_ | (refine hK _ _ ?_; clear hK K) | (refine SG.p ?_; try intro b)) | refine i_c ?_ ?_ <;> intro hc <;> try simp only [push_cast, seval] at hc | refine i_x ?_ | clear hK K)
    all_goals try contradiction
    refine i_fl (e := eI) (y := f.pins) cFr_len hx rfl ?_
    refine i_fs (j := 5) (v := .int .i64 (IntKind.wrap .i64 (f.pins + 1))) cFr_len hx { f with pins := IntKind.wrap .i64 (f.pins + 1) } rfl rfl rfl ?_
    repeat' (first | (with_reducible first | refine d_seq fun K hK => ?_ | (refine hK _ _ ?_; clear hK K) | (refine SG.p ?_; try intro b)) | refine i_c ?_ ?_ <;> intro hc <;> try simp only [push_cast, seval] at hc | refine i_x ?_ | clear hK K)
    (with_reducible first | apply i_ret0 | apply i_ret2 | apply i_ret3 | apply i_ret); exact rfl
    rfl
def wflu (S : St) (w : Wo) (id : Int) : Int × Wo := match w.P.find id with
  | none => (8, w)
  | some i => svp S w i
theorem g56 (S : St) (sb n : Nat) (w : Wo) (h : w.ok S sb n) (id : Int) : Fq eI Tryz.prog 56 #[w.P.p, .int .i64 id] (wos S sb w) (wos S sb (wflu S w id).2) (wflu S w id).1 := fun L => by
  have F := g91 w.P h.p id
  unfold wflu
  refine c56_fn rfl rfl ?_
  cases hf : w.P.find id with
  | none =>
    rw [hf] at F
    dsimp only [Option.map] at F ⊢
    repeat' (first | refine i_clp (g89 w.P h.p) ?_ | refine i_clp F ?_ | first | (with_reducible first | refine d_seq fun K hK => ?_ | (refine hK _ _ ?_; clear hK K) | (refine SG.p ?_; try intro b)) | refine i_c ?_ ?_ <;> intro hc <;> try simp only [push_cast, seval] at hc | refine i_x ?_ | clear hK K)
    all_goals try contradiction
    (with_reducible first | apply i_ret0 | apply i_ret2 | apply i_ret3 | apply i_ret); exact rfl
    rfl
  | some i =>
    rw [hf] at F
    dsimp only [Option.map] at F ⊢
    have SV := g95 S sb n w h i (find_lt hf)
    repeat' (first | refine i_clp (g89 w.P h.p) ?_ | refine i_clp F ?_ | first | (with_reducible first | refine d_seq fun K hK => ?_ | (refine hK _ _ ?_; clear hK K) | (refine SG.p ?_; try intro b)) | refine i_c ?_ ?_ <;> intro hc <;> try simp only [push_cast, seval] at hc | refine i_x ?_ | clear hK K)
    all_goals try contradiction
    refine i_clq SV ?_
    repeat' (first | (with_reducible first | refine d_seq fun K hK => ?_ | (refine hK _ _ ?_; clear hK K) | (refine SG.p ?_; try intro b)) | refine i_c ?_ ?_ <;> intro hc <;> try simp only [push_cast, seval] at hc | refine i_x ?_ | clear hK K)
    (with_reducible first | apply i_ret0 | apply i_ret2 | apply i_ret3 | apply i_ret); exact rfl
    rfl
def fla (S : St) : Nat → Nat → Wo → Int × Wo
  | 0, _, w => (0, w)
  | k + 1, i, w => if (svp S w i).1 = 0 then fla S k (i + 1) (svp S w i).2 else svp S w i
set_option maxHeartbeats 1000000 in
theorem g57 (S : St) (sb n : Nat) (w : Wo) (h : w.ok S sb n) : Fq eI Tryz.prog 57 #[w.P.p] (wos S sb w) (wos S sb (fla S w.P.fs.length 0 w).2) (fla S w.P.fs.length 0 w).1 := fun L => by
  have h64 := h.p.n64
  have N := g89 w.P h.p
  generalize hB : fla S w.P.fs.length 0 w = B
  refine c57_fn rfl rfl ?_
  repeat' (first | refine i_clp N ?_ | first | (with_reducible first | refine d_seq fun K hK => ?_ | (refine hK _ _ ?_; clear hK K) | (refine SG.p ?_; try intro b)) | refine i_c ?_ ?_ <;> intro hc <;> try simp only [push_cast, seval] at hc | refine i_x ?_ | clear hK K)
  all_goals try contradiction
  refine d_lp [0, 11, 12] (fun t : Nat × Wo => [(0, .pointer (some ⟨w.P.q, 0, none⟩)), (11, .int .i64 (w.P.fs.length : Int)), (12, .int .i64 (t.1 : Int))])
    (fun t => wos S sb t.2 ++ L) (fun t => t.1 ≤ w.P.fs.length ∧ t.2.ok S sb n ∧ w.P.like t.2.P ∧ fla S (w.P.fs.length - t.1) t.1 t.2 = B) (fun t => w.P.fs.length - t.1) (0, w) rfl SX.p ⟨Nat.zero_le _, h, .rfl', hB⟩ ?_
  clear hB
  rintro ⟨i, v⟩ ⟨i1, i2, i3, i4⟩
  dsimp only at i1 i2 i3 i4 ⊢
  by_cases hi : i < w.P.fs.length
  · obtain ⟨k, hk⟩ : ∃ k, w.P.fs.length - i = k + 1 := ⟨w.P.fs.length - i - 1, by omega⟩
    rw [hk] at i4
    unfold fla at i4
    have hiv : i < v.P.fs.length := by rw [i3.n]; exact hi
    have SV := g95 S sb n v i2 i hiv
    obtain ⟨s1, s2, s3⟩ := svp_ok i2 hiv
    generalize svp S v i = r at *
    obtain ⟨e, v2⟩ := r
    dsimp only at i4 SV s1 s2
    have eq1 := i3.q
    have en := i3.n
    rw [← eq1, ← en]
    by_cases he : e = 0
    · subst he
      rw [if_pos rfl] at i4
      repeat' (first | (with_reducible first | refine d_seq fun K hK => ?_ | (refine hK _ _ ?_; clear hK K) | (refine SG.p ?_; try intro b)) | refine i_c ?_ ?_ <;> intro hc <;> try simp only [push_cast, seval] at hc | refine i_x ?_ | clear hK K)
      all_goals try (exfalso; omega)
      refine i_clq SV ?_
      repeat' (first | (with_reducible first | refine d_seq fun K hK => ?_ | (refine hK _ _ ?_; clear hK K) | (refine SG.p ?_; try intro b)) | refine i_c ?_ ?_ <;> intro hc <;> try simp only [push_cast, seval] at hc | refine i_x ?_ | clear hK K)
      all_goals try contradiction
      rw [w64 (by omega) (by omega)]
      exact i_bk (i + 1, v2) (by rw [eq1, en]; rfl) ⟨by dsimp only; omega, s1, i3.tr s2, by dsimp only; rw [show v.P.fs.length - (i + 1) = k by omega]; exact i4⟩ (by dsimp only; omega)
    · rw [if_neg he] at i4
      subst i4
      repeat' (first | (with_reducible first | refine d_seq fun K hK => ?_ | (refine hK _ _ ?_; clear hK K) | (refine SG.p ?_; try intro b)) | refine i_c ?_ ?_ <;> intro hc <;> try simp only [push_cast, seval] at hc | refine i_x ?_ | clear hK K)
      all_goals try (exfalso; omega)
      refine i_clq SV ?_
      repeat' (first | (with_reducible first | refine d_seq fun K hK => ?_ | (refine hK _ _ ?_; clear hK K) | (refine SG.p ?_; try intro b)) | refine i_c ?_ ?_ <;> intro hc <;> try simp only [push_cast, seval] at hc | refine i_x ?_ | clear hK K)
      all_goals try contradiction
      (with_reducible first | apply i_ret0 | apply i_ret2 | apply i_ret3 | apply i_ret); exact rfl
      rfl
  · rw [show w.P.fs.length - i = 0 by omega] at i4
    unfold fla at i4
    subst i4
    repeat' (first | (with_reducible first | refine d_seq fun K hK => ?_ | (refine hK _ _ ?_; clear hK K) | (refine SG.p ?_; try intro b)) | refine i_c ?_ ?_ <;> intro hc <;> try simp only [push_cast, seval] at hc | refine i_x ?_ | clear hK K)
    all_goals try (exfalso; omega)
    (with_reducible first | apply i_ret0 | apply i_ret2 | apply i_ret3 | apply i_ret); exact rfl
    rfl
abbrev rzz : api_Rec := ⟨0, 0, 0, 0, 0, [], [], [], 0, (none, 0, 0), (none, 0, 0), 0, 0⟩
theorem g26e : Fp (eT3 e_api_Rec eI eI) Tryz.prog 26 #[str [], .int .i64 0] [] (rzz, 0, 2) := fun L => by
  refine c26_fn rfl rfl ?_
  repeat' (first | (with_reducible first | refine d_seq fun K hK => ?_ | (refine hK _ _ ?_; clear hK K) | (refine SG.p ?_; try intro b)) | refine i_c ?_ ?_ <;> intro hc <;> try simp only [push_cast, seval] at hc | refine i_x ?_ | clear hK K)
  all_goals try contradiction
  refine i_ldn (e := e_api_Rec) (x := rzz) rfl rfl rfl ?_
  (with_reducible first | apply i_ret0 | apply i_ret2 | apply i_ret3 | apply i_ret); exact rfl
  rfl
theorem g69e : Fp eI Tryz.prog 69 #[str []] [] 0 := fun L => by
  refine c69_fn rfl rfl ?_
  repeat' (first | (with_reducible first | refine d_seq fun K hK => ?_ | (refine hK _ _ ?_; clear hK K) | (refine SG.p ?_; try intro b)) | refine i_c ?_ ?_ <;> intro hc <;> try simp only [push_cast, seval] at hc | refine i_x ?_ | clear hK K)
  refine d_lp [0, 3] (fun _ : Nat => [(0, str []), (3, .int .i64 0)]) (fun _ => L) (fun _ => True) (fun t => t) 0 rfl SX.p trivial ?_
  intro t _
  repeat' (first | (with_reducible first | refine d_seq fun K hK => ?_ | (refine hK _ _ ?_; clear hK K) | (refine SG.p ?_; try intro b)) | refine i_c ?_ ?_ <;> intro hc <;> try simp only [push_cast, seval] at hc | refine i_x ?_ | clear hK K)
  refine i_clp g26e ?_
  repeat' (first | (with_reducible first | refine d_seq fun K hK => ?_ | (refine hK _ _ ?_; clear hK K) | (refine SG.p ?_; try intro b)) | refine i_c ?_ ?_ <;> intro hc <;> try simp only [push_cast, seval] at hc | refine i_x ?_ | clear hK K)
  all_goals try contradiction
  (with_reducible first | apply i_ret0 | apply i_ret2 | apply i_ret3 | apply i_ret); exact rfl
  rfl
set_option maxHeartbeats 1000000 in
theorem wopenz {Z : Dk} {sb n : Nat} (hcm : Z.calm sb n) {base S run : Nat} (hz : ∀ m, m < S → at4 (Z.get ((base + m : Nat) : Int)) = 0) (hS : 1 ≤ S) (hf : base + S ≤ n) (hn : n ≤ 8192) (r1 : 1 ≤ run) (r2 : run < 4294967296) :
    Fn (eT2 eP eI) Tryz.prog 17 #[.pointer (some ⟨sb, 0, none⟩), .int .i64 (base : Int), .int .i64 (S : Int), .int .i64 (run : Int)] [dk Z] fun y X => ∃ (q : Nat) (Y : Dk) (ρ : Nat → Nat), y = (some ⟨q, 0, none⟩, 0) ∧ X = [lgp ⟨q, base, S, run, [], 0, false⟩ sb, dk Y] ∧ Wi Y sb n ⟨q, base, S, run, [], 0, false⟩ ρ ∧ Y.es = [] ∧
      ∀ j : Nat, j < n → Y.get (j : Int) = if j = base then wh (secb run []) else Z.get (j : Int) := fun L => by
  have C := g67 Z hcm.ok (base : Int) (S : Int) (run : Int) (by unfold wf64; omega)
  have e0 : lchk Z.sure.length (base : Int) (S : Int) (run : Int) = 0 := by
    unfold lchk
    rw [hcm.n, if_neg (by omega), if_neg (by omega)]
  rw [e0, hcm.sb] at C
  refine c17_fn rfl rfl ?_
  repeat' (first | (with_reducible first | refine d_seq fun K hK => ?_ | (refine hK _ _ ?_; clear hK K) | (refine SG.p ?_; try intro b)) | refine i_c ?_ ?_ <;> intro hc <;> try simp only [push_cast, seval] at hc | refine i_x ?_ | clear hK K)
  refine i_clp C ?_
  repeat' (first | (with_reducible first | refine d_seq fun K hK => ?_ | (refine hK _ _ ?_; clear hK K) | (refine SG.p ?_; try intro b)) | refine i_c ?_ ?_ <;> intro hc <;> try simp only [push_cast, seval] at hc | refine i_x ?_ | clear hK K)
  all_goals try (first | contradiction | (simp only [ reduceCtorEq] at *; done) | (exfalso; omega))
  rename Nat => q
  have hG : (⟨q, base, S, run, [], 0, false⟩ : Lg).ok n := ⟨hS, hf, hn, r1, r2, Nat.le_refl _, by simp⟩
  have SN := g68 ⟨q, base, S, run, [], 0, false⟩ Z hcm.ok (by rw [hcm.n]; exact hG)
  have e1 : Z.scn base run S 0 1 = [] := by
    obtain ⟨k, rfl⟩ : ∃ k, S = k + 1 := ⟨S - 1, by omega⟩
    have := hz 0 (by omega)
    unfold at4 at this
    unfold Dk.scn
    rw [this, if_pos (by omega)]
  dsimp only at SN
  rw [hcm.sb, hcm.up, e1] at SN
  obtain ⟨ρ, m1, m2, m3, m4⟩ := mend_zero (q := q) hcm hz hS hf hn r1 r2
  obtain ⟨_, _, _, _, l5⟩ := lmend_calm hcm hG
  have MD := g70 ⟨q, base, S, run, [], 0, false⟩ Z hcm.ok (by rw [hcm.n]; exact hG)
  rw [m2, m3, hcm.sb] at MD
  have hgt : ∀ j : Nat, j < n → (Z.lmend ⟨q, base, S, run, [], 0, false⟩).2.1.get (j : Int) = if j = base then wh (secb run []) else Z.get (j : Int) := fun j hj => by
    rw [l5 j hj]
    by_cases e : j = base
    · rw [if_pos e, if_pos ⟨by dsimp only; omega, by dsimp only; omega⟩, sec_b]
      simp [part]
    · rw [if_neg e, if_neg (by dsimp only; omega)]
  generalize (Z.lmend ⟨q, base, S, run, [], 0, false⟩).2.1 = Y at *
  refine i_cal SN ?_
  rintro y X ⟨rfl, hy⟩
  rw [if_pos rfl] at hy
  subst hy
  dsimp only [List.cons_append, List.nil_append]
  repeat' (first | (with_reducible first | refine d_seq fun K hK => ?_ | (refine hK _ _ ?_; clear hK K) | (refine SG.p ?_; try intro b)) | refine i_c ?_ ?_ <;> intro hc <;> try simp only [push_cast, seval] at hc | refine i_x ?_ | clear hK K)
  all_goals try (first | contradiction | (simp only [ reduceCtorEq] at *; done) | (exfalso; omega))
  refine i_clp g69e ?_
  repeat' (first | (with_reducible first | refine d_seq fun K hK => ?_ | (refine hK _ _ ?_; clear hK K) | (refine SG.p ?_; try intro b)) | refine i_c ?_ ?_ <;> intro hc <;> try simp only [push_cast, seval] at hc | refine i_x ?_ | clear hK K)
  rw [show ss ([] : List UInt8) 0 0 = [] from rfl]
  repeat' (first | (with_reducible first | refine d_seq fun K hK => ?_ | (refine hK _ _ ?_; clear hK K) | (refine SG.p ?_; try intro b)) | refine i_c ?_ ?_ <;> intro hc <;> try simp only [push_cast, seval] at hc | refine i_x ?_ | clear hK K)
  refine i_clq MD ?_
  repeat' (first | (with_reducible first | refine d_seq fun K hK => ?_ | (refine hK _ _ ?_; clear hK K) | (refine SG.p ?_; try intro b)) | refine i_c ?_ ?_ <;> intro hc <;> try simp only [push_cast, seval] at hc | refine i_x ?_ | clear hK K)
  all_goals try (first | contradiction | (simp only [ reduceCtorEq] at *; done) | (exfalso; omega))
  exact i_done (e := eT2 eP eI) (some ⟨q, 0, none⟩, 0) [lgp ⟨q, base, S, run, [], 0, false⟩ sb, dk Y] rfl ⟨q, Y, ρ, rfl, rfl, m1, m4, hgt⟩
structure Gh where
  txt : List (List UInt8)
  lsn : List Int
  pin : List Int
structure Gh.ok (g : Gh) : Prop where
  t : g.txt.length = 8
  l : g.lsn.length = 8
  p : g.pin.length = 8
abbrev gcl (sb sq lq pq : Nat) (g : Gh) : List Value := .pointer (some ⟨sb, 0, none⟩) :: .pointer (some ⟨sq, 0, none⟩) :: .pointer (some ⟨lq, 0, none⟩) :: .pointer (some ⟨pq, 0, none⟩) :: (g.txt.map (fun t => str t) ++ (g.lsn.map (fun n => Value.int .i64 n) ++ g.pin.map (fun n => Value.int .i64 n)))
abbrev wld (wb sb sq lq pq : Nat) (g : Gh) : HP := ar wb 81 (gcl sb sq lq pq g)
section
variable {sb sq lq pq : Nat} {g : Gh} (h : g.ok)
include h
theorem gcl_txt {i : Nat} (hi : i < 8) : (gcl sb sq lq pq g)[4 + i]? = some (str (g.txt.getD i [])) := by
  have h1 := h.t
  rw [Nat.add_comm]
  show (g.txt.map (fun t => str t) ++ _)[i]? = _
  rw [List.getElem?_append_left (by rw [List.length_map]; omega), List.getElem?_map, List.getD_eq_getElem?_getD, List.getElem?_eq_getElem (by omega)]
  rfl
theorem gcl_lsn {i : Nat} (hi : i < 8) : (gcl sb sq lq pq g)[12 + i]? = some (.int .i64 (g.lsn.getD i 0)) := by
  have h1 := h.t
  have h2 := h.l
  rw [show 12 + i = (8 + i) + 4 by omega]
  show (g.txt.map (fun t => str t) ++ _)[8 + i]? = _
  rw [List.getElem?_append_right (by rw [List.length_map]; omega), List.length_map, h1, show 8 + i - 8 = i by omega, List.getElem?_append_left (by rw [List.length_map]; omega), List.getElem?_map, List.getD_eq_getElem?_getD, List.getElem?_eq_getElem (by omega)]
  rfl
theorem gcl_pin {i : Nat} (hi : i < 8) : (gcl sb sq lq pq g)[20 + i]? = some (.int .i64 (g.pin.getD i 0)) := by
  have h1 := h.t
  have h2 := h.l
  have h3 := h.p
  rw [show 20 + i = (16 + i) + 4 by omega]
  show (g.txt.map (fun t => str t) ++ _)[16 + i]? = _
  rw [List.getElem?_append_right (by rw [List.length_map]; omega), List.length_map, h1, show 16 + i - 8 = 8 + i by omega, List.getElem?_append_right (by rw [List.length_map]; omega), List.length_map, h2, show 8 + i - 8 = i by omega, List.getElem?_map, List.getD_eq_getElem?_getD, List.getElem?_eq_getElem (by omega)]
  rfl
theorem gcl_len : (gcl sb sq lq pq g).length = 28 := by
  simp [h.t, h.l, h.p]
theorem set_txt {i : Nat} (hi : i < 8) (t : List UInt8) : (gcl sb sq lq pq g).set (4 + i) (str t) = gcl sb sq lq pq { g with txt := g.txt.set i t } := by
  have h1 := h.t
  rw [Nat.add_comm]
  show _ :: _ :: _ :: _ :: (g.txt.map (fun t => str t) ++ _).set i _ = _
  rw [List.set_append_left _ _ (by rw [List.length_map]; omega)]
  simp only [gcl, List.map_set]
theorem set_lsn {i : Nat} (hi : i < 8) (n : Int) : (gcl sb sq lq pq g).set (12 + i) (.int .i64 n) = gcl sb sq lq pq { g with lsn := g.lsn.set i n } := by
  have h1 := h.t
  have h2 := h.l
  rw [show 12 + i = (8 + i) + 4 by omega]
  show _ :: _ :: _ :: _ :: (g.txt.map (fun t => str t) ++ _).set (8 + i) _ = _
  rw [List.set_append_right _ _ (by rw [List.length_map]; omega), List.length_map, h1, show 8 + i - 8 = i by omega, List.set_append_left _ _ (by rw [List.length_map]; omega)]
  simp only [gcl, List.map_set]
theorem set_pin {i : Nat} (hi : i < 8) (n : Int) : (gcl sb sq lq pq g).set (20 + i) (.int .i64 n) = gcl sb sq lq pq { g with pin := g.pin.set i n } := by
  have h1 := h.t
  have h2 := h.l
  have h3 := h.p
  rw [show 20 + i = (16 + i) + 4 by omega]
  show _ :: _ :: _ :: _ :: (g.txt.map (fun t => str t) ++ _).set (16 + i) _ = _
  rw [List.set_append_right _ _ (by rw [List.length_map]; omega), List.length_map, h1, show 16 + i - 8 = 8 + i by omega, List.set_append_right _ _ (by rw [List.length_map]; omega), List.length_map, h2, show 8 + i - 8 = i by omega]
  simp only [gcl, List.map_set]
end
def g0 : Gh := ⟨List.replicate 8 [], List.replicate 8 0, List.replicate 8 0⟩
theorem g0_ok : g0.ok := ⟨rfl, rfl, rfl⟩
theorem g94 (id : Int) : Fp eB Tryz.prog 94 #[.int .i64 id] [] (decide (0 ≤ id ∧ id < 8)) := fun L => by
  refine c94_fn rfl rfl ?_
  by_cases h : 0 ≤ id ∧ id < 8
  · rw [decide_eq_true h]
    repeat' (first | (with_reducible first | refine d_seq fun K hK => ?_ | (refine hK _ _ ?_; clear hK K) | (refine SG.p ?_; try intro b)) | refine i_c ?_ ?_ <;> intro hc <;> try simp only [push_cast, seval] at hc | refine i_x ?_ | clear hK K)
    all_goals try (exfalso; omega)
    (with_reducible first | apply i_ret0 | apply i_ret2 | apply i_ret3 | apply i_ret); exact rfl
    exact decide_eq_true h.2
  · rw [decide_eq_false h]
    repeat' (first | (with_reducible first | refine d_seq fun K hK => ?_ | (refine hK _ _ ?_; clear hK K) | (refine SG.p ?_; try intro b)) | refine i_c ?_ ?_ <;> intro hc <;> try simp only [push_cast, seval] at hc | refine i_x ?_ | clear hK K)
    all_goals (with_reducible first | apply i_ret0 | apply i_ret2 | apply i_ret3 | apply i_ret); exact rfl
    · exact decide_eq_false (by omega)
    · rfl
def npn (l : List Int) : Nat → Nat
  | 0 => 0
  | i + 1 => if 0 < l.getD i 0 then npn l i + 1 else npn l i
theorem npn_le (l : List Int) : ∀ i, npn l i ≤ i
  | 0 => Nat.le_refl _
  | i + 1 => by
    have := npn_le l i
    unfold npn
    split <;> omega
theorem g93 (wb sb sq lq pq : Nat) (g : Gh) (h : g.ok) : Fp eI Tryz.prog 93 #[.pointer (some ⟨wb, 0, none⟩)] [wld wb sb sq lq pq g] ((npn g.pin 8 : Nat) : Int) := fun L => by
  refine c93_fn rfl rfl ?_
  repeat' (first | (with_reducible first | refine d_seq fun K hK => ?_ | (refine hK _ _ ?_; clear hK K) | (refine SG.p ?_; try intro b)) | refine i_c ?_ ?_ <;> intro hc <;> try simp only [push_cast, seval] at hc | refine i_x ?_ | clear hK K)
  refine d_lp [0, 3, 4] (fun i : Nat => [(0, .pointer (some ⟨wb, 0, none⟩)), (3, .int .i64 ((npn g.pin i : Nat) : Int)), (4, .int .i64 (i : Int))])
    (fun _ => wld wb sb sq lq pq g :: L) (fun i => i ≤ 8) (fun i => 8 - i) 0 rfl SX.p (by omega) ?_
  intro i hi
  by_cases h8 : i < 8
  · have hp := gcl_pin (sb := sb) (sq := sq) (lq := lq) (pq := pq) h h8
    have hn := npn_le g.pin i
    by_cases hc0 : 0 < g.pin.getD i 0
    · have e : npn g.pin (i + 1) = npn g.pin i + 1 := if_pos hc0
      repeat' (first | (with_reducible first | refine d_seq fun K hK => ?_ | (refine hK _ _ ?_; clear hK K) | (refine SG.p ?_; try intro b)) | refine i_c ?_ ?_ <;> intro hc <;> try simp only [push_cast, seval] at hc | refine i_x ?_ | clear hK K)
      all_goals try (exfalso; omega)
      refine i_ld (e := eI) hp ?_
      repeat' (first | (with_reducible first | refine d_seq fun K hK => ?_ | (refine hK _ _ ?_; clear hK K) | (refine SG.p ?_; try intro b)) | refine i_c ?_ ?_ <;> intro hc <;> try simp only [push_cast, seval] at hc | refine i_x ?_ | clear hK K)
      all_goals try (exfalso; omega)
      rw [w64 (by omega) (by omega), w64 (by omega) (by omega)]
      exact i_bk (i + 1) (by rw [e]; rfl) (by omega) (by omega)
    · have e : npn g.pin (i + 1) = npn g.pin i := if_neg hc0
      repeat' (first | (with_reducible first | refine d_seq fun K hK => ?_ | (refine hK _ _ ?_; clear hK K) | (refine SG.p ?_; try intro b)) | refine i_c ?_ ?_ <;> intro hc <;> try simp only [push_cast, seval] at hc | refine i_x ?_ | clear hK K)
      all_goals try (exfalso; omega)
      refine i_ld (e := eI) hp ?_
      repeat' (first | (with_reducible first | refine d_seq fun K hK => ?_ | (refine hK _ _ ?_; clear hK K) | (refine SG.p ?_; try intro b)) | refine i_c ?_ ?_ <;> intro hc <;> try simp only [push_cast, seval] at hc | refine i_x ?_ | clear hK K)
      all_goals try (exfalso; omega)
      rw [w64 (by omega) (by omega)]
      exact i_bk (i + 1) (by rw [e]; rfl) (by omega) (by omega)
  · obtain rfl : i = 8 := by omega
    repeat' (first | (with_reducible first | refine d_seq fun K hK => ?_ | (refine hK _ _ ?_; clear hK K) | (refine SG.p ?_; try intro b)) | refine i_c ?_ ?_ <;> intro hc <;> try simp only [push_cast, seval] at hc | refine i_x ?_ | clear hK K)
    all_goals try contradiction
    (with_reducible first | apply i_ret0 | apply i_ret2 | apply i_ret3 | apply i_ret); exact rfl
    rfl
structure Wnew (S : St) (sb n : Nat) (w : Wo) : Prop where
  ok : w.ok S sb 80
  wi : ∃ ρ, Wi w.Z sb 80 w.G ρ
  g : w.G = ⟨w.G.q, 0, 40, 1, [], 0, false⟩
  s : S = ⟨S.q, 40, 8, 1⟩
  p : w.P = Po.new w.P.q w.P.fb S.q w.G.q n
  z : ∀ j, 40 ≤ j → j < 80 → w.Z.get ((j : Nat) : Int) = wh []
  l : ∀ j, j < 40 → w.Z.get ((j : Nat) : Int) = if j = 0 then wh (secb 1 []) else wh []
  es : w.Z.es = []
set_option maxHeartbeats 1000000 in
theorem g41 (n : Nat) (h1 : 2 ≤ n) (h2 : n ≤ 64) : Fn eP Tryz.prog 41 #[.int .i64 (n : Int)] [] fun y X => ∃ (wb sb : Nat) (S : St) (w : Wo), y = some ⟨wb, 0, none⟩ ∧ X = wld wb sb S.q w.G.q w.P.q g0 :: wos S sb w ∧ Wnew S sb n w := fun L => by
  refine c41_fn rfl rfl ?_
  repeat' (first | (with_reducible first | refine d_seq fun K hK => ?_ | (refine hK _ _ ?_; clear hK K) | (refine SG.p ?_; try intro b)) | refine i_c ?_ ?_ <;> intro hc <;> try simp only [push_cast, seval] at hc | refine i_x ?_ | clear hK K)
  refine i_cal (F25 80 (by decide) (by decide)) ?_
  rintro y X ⟨sb, bb, mb, rfl, rfl⟩
  have hc0 : (Dk.new sb bb mb 80).calm sb 80 := Dk.calm.new (by decide) (by decide)
  have hz : ∀ m, m < 40 → at4 ((Dk.new sb bb mb 80).get ((0 + m : Nat) : Int)) = 0 := fun m hm => by rw [new_get (by omega)]; exact at4_nil
  have hz2 : ∀ j, j < 80 → (Dk.new sb bb mb 80).get ((j : Nat) : Int) = wh [] := fun j hj => new_get hj
  generalize Dk.new sb bb mb 80 = Z at *
  repeat' (first | (with_reducible first | refine d_seq fun K hK => ?_ | (refine hK _ _ ?_; clear hK K) | (refine SG.p ?_; try intro b)) | refine i_c ?_ ?_ <;> intro hc <;> try simp only [push_cast, seval] at hc | refine i_x ?_ | clear hK K)
  all_goals try contradiction
  refine i_cal (wopenz hc0 hz (by decide) (by decide) (by decide) (by decide : 1 ≤ 1) (by decide)) ?_
  rintro y X ⟨q, Y, ρ, rfl, rfl, hW, hE, hG⟩
  repeat' (first | (with_reducible first | refine d_seq fun K hK => ?_ | (refine hK _ _ ?_; clear hK K) | (refine SG.p ?_; try intro b)) | refine i_c ?_ ?_ <;> intro hc <;> try simp only [push_cast, seval] at hc | refine i_x ?_ | clear hK K)
  have ST := f51 Y hW.calm.ok 40 8 1 (by unfold wf64; decide) (by unfold wf64; decide) (by unfold wf64; decide)
  rw [hW.calm.sb, hW.calm.n] at ST
  refine i_cal ST ?_
  rintro y X hX
  rw [if_neg (by decide), if_neg (by decide)] at hX
  obtain ⟨⟨Sq, Sb, Sp, Sg⟩, e1, e2, e3, hS, rfl, rfl⟩ := hX
  obtain rfl : Sb = 40 := by dsimp only at e1; omega
  obtain rfl : Sp = 8 := by dsimp only at e2; omega
  obtain rfl : Sg = 1 := by dsimp only at e3; omega
  repeat' (first | (with_reducible first | refine d_seq fun K hK => ?_ | (refine hK _ _ ?_; clear hK K) | (refine SG.p ?_; try intro b)) | refine i_c ?_ ?_ <;> intro hc <;> try simp only [push_cast, seval] at hc | refine i_x ?_ | clear hK K)
  refine i_cal (g42 Sq q n h1 h2) ?_
  rintro y X ⟨pq, fb, rfl, rfl⟩
  repeat' (first | (with_reducible first | refine d_seq fun K hK => ?_ | (refine hK _ _ ?_; clear hK K) | (refine SG.p ?_; try intro b)) | refine i_c ?_ ?_ <;> intro hc <;> try simp only [push_cast, seval] at hc | refine i_x ?_ | clear hK K)
  all_goals try contradiction
  rename Nat => wb
  refine i_done (e := eP) (some ⟨wb, 0, none⟩) (wld wb sb Sq q pq g0 :: wos ⟨Sq, 40, 8, 1⟩ sb ⟨Po.new pq fb Sq q n, ⟨q, 0, 40, 1, [], 0, false⟩, Y⟩) (hs := ?_) rfl ⟨wb, sb, ⟨Sq, 40, 8, 1⟩, ⟨Po.new pq fb Sq q n, ⟨q, 0, 40, 1, [], 0, false⟩, Y⟩, rfl, rfl, ?_⟩
  · have e : wld wb sb Sq q pq g0 = ar wb 81 [.pointer (some ⟨sb, 0, none⟩), .pointer (some ⟨Sq, 0, none⟩), .pointer (some ⟨q, 0, none⟩), .pointer (some ⟨pq, 0, none⟩), str [], str [], str [], str [], str [], str [], str [], str [], .int .i64 0, .int .i64 0, .int .i64 0, .int .i64 0, .int .i64 0, .int .i64 0, .int .i64 0, .int .i64 0, .int .i64 0, .int .i64 0, .int .i64 0, .int .i64 0, .int .i64 0, .int .i64 0, .int .i64 0, .int .i64 0] := rfl
    rw [e]
    exact ⟨SX.p⟩
  · refine ⟨⟨new_okP h1 h2, hW.calm.ok, hW.calm.sb, hW.calm.n, hW.ok, hS, rfl, rfl⟩, ⟨ρ, hW⟩, rfl, rfl, rfl, fun j h3 h4 => ?_, fun j h4 => ?_, hE⟩
    · rw [hG j h4, if_neg (show ¬ j = 0 by omega)]
      exact hz2 j h4
    · rw [hG j (by omega), hz2 j (by omega)]
end Go.Sp
namespace Go.Sp
open Go Go.Proofs
set_option linter.unusedSimpArgs false
set_option linter.unusedVariables false
end Go.Sp
namespace Go.Sp
open Go Go.Proofs
set_option linter.unusedSimpArgs false
set_option linter.unusedVariables false
set_option maxRecDepth 10000
theorem wset_ok {S : St} {sb n : Nat} {w : Wo} (h : w.ok S sb n) (id : Int) (text : List UInt8) (lsn : Int) : (wset S w id text lsn).2.ok S sb n ∧ w.P.like (wset S w id text lsn).2.P ∧ (wset S w id text lsn).2.G.q = w.G.q := by
  obtain ⟨a, b, c, d, e⟩ := hld_ok h id
  unfold wset
  split
  · exact ⟨h, .rfl', rfl⟩
  · split
    · exact ⟨h, .rfl', rfl⟩
    · generalize hld S w id = r at *
      obtain ⟨⟨o, e2⟩, w2⟩ := r
      dsimp only at a b c d e ⊢
      cases o with
      | none => exact ⟨a, b, c⟩
      | some i => exact ⟨a.mvP (mod_like _ _ _) a.p.h, b.tr (mod_like _ _ _), c⟩
def Gh.put (g : Gh) (id : Nat) (t : List UInt8) (n : Int) : Gh := { g with txt := g.txt.set id t, lsn := g.lsn.set id n }
theorem Gh.put_ok {g : Gh} (h : g.ok) (id : Nat) (t : List UInt8) (n : Int) : (g.put id t n).ok := ⟨by simpa [Gh.put] using h.t, by simpa [Gh.put] using h.l, h.p⟩
def wst2 (g : Gh) (id : Int) (c : UInt8) (at' : Int) (b : Int × Wo) : Bool × Wo × Gh :=
  if id < 0 ∨ 8 ≤ id then (decide (b.1 = 6), b.2, g) else if b.1 = 7 then (decide (2 ≤ npn g.pin 8), b.2, g) else (decide (b.1 = 0), b.2, g.put id.toNat (fl c) at')
def wst (S : St) (w : Wo) (g : Gh) (id : Int) (c : UInt8) : Bool × Wo × Gh :=
  if (w.G.append (cm (c.toNat : Int))).1.2 = 0 then wst2 g id c (w.G.append (cm (c.toNat : Int))).1.1 (wset S ⟨w.P, (w.G.append (cm (c.toNat : Int))).2, w.Z⟩ id (fl c) (w.G.append (cm (c.toNat : Int))).1.1)
  else (decide ((w.G.append (cm (c.toNat : Int))).1.2 = 7), ⟨w.P, (w.G.append (cm (c.toNat : Int))).2, w.Z⟩, g)
theorem append_okG {G : Lg} {n : Nat} (hG : G.ok n) (c : Rc) : (G.append c).2.ok n ∧ (G.append c).2.q = G.q := by
  unfold Lg.append Lg.add
  split
  · exact ⟨hG, rfl⟩
  · split
    · split
      · exact ⟨hG, rfl⟩
      · have hdu := hG.du
        exact ⟨⟨hG.s1, hG.fit, hG.n1, hG.r1, hG.r2, by dsimp only; rw [List.length_append]; omega, by dsimp only; rw [List.length_append]; omega⟩, rfl⟩
    · exact ⟨hG, rfl⟩
theorem wst_ok {S : St} {sb n : Nat} {w : Wo} (h : w.ok S sb n) {g : Gh} (hg : g.ok) (id : Int) (c : UInt8) : (wst S w g id c).2.1.ok S sb n ∧ w.P.like (wst S w g id c).2.1.P ∧ (wst S w g id c).2.1.G.q = w.G.q ∧ (wst S w g id c).2.2.ok := by
  obtain ⟨a1, a2⟩ := append_okG h.g (cm (c.toNat : Int))
  unfold wst
  generalize w.G.append (cm (c.toNat : Int)) = a at *
  obtain ⟨⟨at', e⟩, G2⟩ := a
  dsimp only at a1 a2 ⊢
  have h2 : (⟨w.P, G2, w.Z⟩ : Wo).ok S sb n := ⟨h.p, h.z, h.sb, h.nn, a1, h.s, h.st, h.lg.trans a2.symm⟩
  split
  · obtain ⟨b1, b2, b3⟩ := wset_ok h2 id (fl c) at'
    generalize wset S ⟨w.P, G2, w.Z⟩ id (fl c) at' = b at *
    unfold wst2
    split
    · exact ⟨b1, b2, b3.trans a2, hg⟩
    · split
      · exact ⟨b1, b2, b3.trans a2, hg⟩
      · exact ⟨b1, b2, b3.trans a2, Gh.put_ok hg _ _ _⟩
  · exact ⟨h2, .rfl', a2, hg⟩
set_option maxHeartbeats 400000 in
theorem g47 (wb : Nat) (S : St) (sb n : Nat) (w : Wo) (h : w.ok S sb n) (g : Gh) (hg : g.ok) (id : Int) (c : UInt8) : Fq eB Tryz.prog 47 #[.pointer (some ⟨wb, 0, none⟩), .int .i64 id, .int .u8 (c.toNat : Int)] (wld wb sb S.q w.G.q w.P.q g :: wos S sb w) (wld wb sb S.q w.G.q w.P.q (wst S w g id c).2.2 :: wos S sb (wst S w g id c).2.1) (wst S w g id c).1 := fun L => by
  have hfit := h.g.fit
  have hn1 := h.g.n1
  have AP := g20 w.G sb h.g.le (by omega) (dk w.Z) ⟨7, (c.toNat : Int), 1, 0, 0, [], [], [], 0, (none, 0, 0), (none, 0, 0), 0, 0⟩ (cm (c.toNat : Int)) (cm_at _ _)
  obtain ⟨a1, a2⟩ := append_okG h.g (cm (c.toNat : Int))
  have PN := g93 wb sb S.q w.G.q w.P.q g hg
  have FL := f47 c
  have hc8 := c.toNat_lt
  have ew : IntKind.wrap .i64 (c.toNat : Int) = (c.toNat : Int) := w64 (by omega) (by omega)
  generalize hR : wst S w g id c = R
  unfold wst at hR
  generalize w.G.append (cm (c.toNat : Int)) = a at *
  obtain ⟨⟨at', e⟩, G2⟩ := a
  dsimp only at a1 a2 AP hR
  have h2 : (⟨w.P, G2, w.Z⟩ : Wo).ok S sb n := ⟨h.p, h.z, h.sb, h.nn, a1, h.s, h.st, h.lg.trans a2.symm⟩
  refine c47_fn rfl rfl ?_
  by_cases he : e = 0
  · subst he
    rw [if_pos rfl] at hR
    have WS := g43 S sb n ⟨w.P, G2, w.Z⟩ h2 id (fl c) at'
    generalize wset S ⟨w.P, G2, w.Z⟩ id (fl c) at' = b at *
    obtain ⟨e2, w2⟩ := b
    unfold wst2 at hR
    dsimp only at WS hR
    repeat' (first | rw [ew] | first | (with_reducible first | refine d_seq fun K hK => ?_ | (refine hK _ _ ?_; clear hK K) | (refine SG.p ?_; try intro b)) | refine i_c ?_ ?_ <;> intro hc <;> try simp only [push_cast, seval] at hc | refine i_x ?_ | clear hK K)
    refine i_clq AP ?_
    repeat' (first | (with_reducible first | refine d_seq fun K hK => ?_ | (refine hK _ _ ?_; clear hK K) | (refine SG.p ?_; try intro b)) | refine i_c ?_ ?_ <;> intro hc <;> try simp only [push_cast, seval] at hc | refine i_x ?_ | clear hK K)
    all_goals try contradiction
    refine r_ph0 ?_
    repeat' (first | (with_reducible first | refine d_seq fun K hK => ?_ | (refine hK _ _ ?_; clear hK K) | (refine SG.p ?_; try intro b)) | refine i_c ?_ ?_ <;> intro hc <;> try simp only [push_cast, seval] at hc | refine i_x ?_ | clear hK K)
    refine i_clp FL ?_
    repeat' (first | (with_reducible first | refine d_seq fun K hK => ?_ | (refine hK _ _ ?_; clear hK K) | (refine SG.p ?_; try intro b)) | refine i_c ?_ ?_ <;> intro hc <;> try simp only [push_cast, seval] at hc | refine i_x ?_ | clear hK K)
    refine i_clq WS ?_
    by_cases hr : id < 0 ∨ 8 ≤ id
    · rw [if_pos hr] at hR
      subst hR
      repeat' (first | (with_reducible first | refine d_seq fun K hK => ?_ | (refine hK _ _ ?_; clear hK K) | (refine SG.p ?_; try intro b)) | refine i_c ?_ ?_ <;> intro hc <;> try simp only [push_cast, seval] at hc | refine i_x ?_ | clear hK K)
      all_goals try (exfalso; omega)
      all_goals try contradiction
      all_goals
        (with_reducible first | apply i_ret0 | apply i_ret2 | apply i_ret3 | apply i_ret); exact rfl
        rfl
    · rw [if_neg hr] at hR
      by_cases h7 : e2 = 7
      · subst h7
        rw [if_pos rfl] at hR
        subst hR
        repeat' (first | (with_reducible first | refine d_seq fun K hK => ?_ | (refine hK _ _ ?_; clear hK K) | (refine SG.p ?_; try intro b)) | refine i_c ?_ ?_ <;> intro hc <;> try simp only [push_cast, seval] at hc | refine i_x ?_ | clear hK K)
        all_goals try (exfalso; omega)
        all_goals try contradiction
        refine i_clp PN ?_
        repeat' (first | (with_reducible first | refine d_seq fun K hK => ?_ | (refine hK _ _ ?_; clear hK K) | (refine SG.p ?_; try intro b)) | refine i_c ?_ ?_ <;> intro hc <;> try simp only [push_cast, seval] at hc | refine i_x ?_ | clear hK K)
        (with_reducible first | apply i_ret0 | apply i_ret2 | apply i_ret3 | apply i_ret); exact rfl
        dsimp only
        rw [decide_eq_decide]
        omega
      · rw [if_neg h7] at hR
        unfold Gh.put at hR
        subst hR
        obtain ⟨m, rfl⟩ : ∃ m : Nat, id = (m : Int) := ⟨id.toNat, by omega⟩
        have hm : m < 8 := by omega
        have ST := set_txt (sb := sb) (sq := S.q) (lq := w.G.q) (pq := w.P.q) hg hm (fl c)
        have hg2 : ({ g with txt := g.txt.set m (fl c) } : Gh).ok := ⟨by simpa using hg.t, hg.l, hg.p⟩
        have SL := set_lsn (sb := sb) (sq := S.q) (lq := w.G.q) (pq := w.P.q) hg2 hm at'
        have gl := gcl_len (sb := sb) (sq := S.q) (lq := w.G.q) (pq := w.P.q) hg
        have gl2 := gcl_len (sb := sb) (sq := S.q) (lq := w.G.q) (pq := w.P.q) hg2
        repeat' (first | (with_reducible first | refine d_seq fun K hK => ?_ | (refine hK _ _ ?_; clear hK K) | (refine SG.p ?_; try intro b)) | refine i_c ?_ ?_ <;> intro hc <;> try simp only [push_cast, seval] at hc | refine i_x ?_ | clear hK K)
        all_goals try (exfalso; omega)
        all_goals try contradiction
        refine i_clp FL ?_
        repeat' (first | (with_reducible first | refine d_seq fun K hK => ?_ | (refine hK _ _ ?_; clear hK K) | (refine SG.p ?_; try intro b)) | refine i_c ?_ ?_ <;> intro hc <;> try simp only [push_cast, seval] at hc | refine i_x ?_ | clear hK K)
        refine i_st (by rw [gl]; omega) rfl ?_
        rw [ST]
        repeat' (first | (with_reducible first | refine d_seq fun K hK => ?_ | (refine hK _ _ ?_; clear hK K) | (refine SG.p ?_; try intro b)) | refine i_c ?_ ?_ <;> intro hc <;> try simp only [push_cast, seval] at hc | refine i_x ?_ | clear hK K)
        refine i_st (by rw [gl2]; omega) rfl ?_
        rw [SL]
        repeat' (first | (with_reducible first | refine d_seq fun K hK => ?_ | (refine hK _ _ ?_; clear hK K) | (refine SG.p ?_; try intro b)) | refine i_c ?_ ?_ <;> intro hc <;> try simp only [push_cast, seval] at hc | refine i_x ?_ | clear hK K)
        (with_reducible first | apply i_ret0 | apply i_ret2 | apply i_ret3 | apply i_ret); exact rfl
        rfl
  · rw [if_neg he] at hR
    subst hR
    repeat' (first | rw [ew] | first | (with_reducible first | refine d_seq fun K hK => ?_ | (refine hK _ _ ?_; clear hK K) | (refine SG.p ?_; try intro b)) | refine i_c ?_ ?_ <;> intro hc <;> try simp only [push_cast, seval] at hc | refine i_x ?_ | clear hK K)
    refine i_clq AP ?_
    repeat' (first | (with_reducible first | refine d_seq fun K hK => ?_ | (refine hK _ _ ?_; clear hK K) | (refine SG.p ?_; try intro b)) | refine i_c ?_ ?_ <;> intro hc <;> try simp only [push_cast, seval] at hc | refine i_x ?_ | clear hK K)
    all_goals try contradiction
    (with_reducible first | apply i_ret0 | apply i_ret2 | apply i_ret3 | apply i_ret); exact rfl
    rfl
end Go.Sp
