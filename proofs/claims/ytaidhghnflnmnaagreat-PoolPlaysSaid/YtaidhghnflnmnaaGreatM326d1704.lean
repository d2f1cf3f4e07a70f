/- Texts of a proof, one behind the other: Q18. No condition. -/
import Derived.Test.YtaidhghnflnmnaaGreatMe6d2be21
namespace Go.Sp
open Go Go.Proofs
set_option linter.unusedSimpArgs false
set_option linter.unusedVariables false
set_option maxRecDepth 10000
abbrev cOp (x : gharrylaw10_Op) : List Value := [.int .i64 x.Kind, .int .i64 x.Id, .int .u8 x.C]
theorem cOp_len (x : gharrylaw10_Op) : (cOp x).length = 3 := rfl
def goodOp (x : gharrylaw10_Op) : Prop := ∃ c : UInt8, (c.toNat : Int) = x.C
theorem op_of {cs : List Value} (h : lfs [.i .i64, .i .i64, .i .u8] cs) : ∃ x : gharrylaw10_Op, cs = cOp x ∧ goodOp x := by
  rcases cs with _ | ⟨v0, _ | ⟨v1, _ | ⟨v2, _ | ⟨v3, r⟩⟩⟩⟩ <;> try (simp [lfs] at h; done)
  obtain ⟨⟨k, rfl, _⟩, ⟨i, rfl, _⟩, ⟨t, rfl, ht⟩, _⟩ := h
  have : 0 ≤ t ∧ t ≤ 255 := by simpa [Lit.wf, IntKind.min, IntKind.max, IntKind.signed, IntKind.bits] using ht
  refine ⟨⟨k, i, t⟩, rfl, UInt8.ofNat t.toNat, ?_⟩
  rw [UInt8.toNat_ofNat']
  dsimp only
  omega
theorem swk_fq {wb : Nat} {S : St} {sb : Nat} {w : Wo} {g : Gh} (h : Pv S sb w g) (r : Ra w.P) {x : gharrylaw10_Op} (hx : goodOp x) {m : Int} (hm : m ≤ 1000) (hp : ∀ q, q < 8 → g.P q ≤ m) (lq pq : Nat) (e1 : w.G.q = lq) (e2 : w.P.q = pq) : ∃ (w' : Wo) (g' : Gh),
    Fq eB Tryz.prog 52 #[.pointer (some ⟨wb, 0, none⟩), v_gharrylaw10_Op x] (wld wb sb S.q lq pq g :: wos S sb w) (wld wb sb S.q lq pq g' :: wos S sb w') true ∧ Pv S sb w' g' ∧ Ra w'.P ∧ w'.P.fs.length = w.P.fs.length ∧ (∀ q, q < 8 → g'.P q ≤ m + 1) ∧ w'.G.q = lq ∧ w'.P.q = pq := by
  obtain ⟨c, hc⟩ := hx
  have F := g52 wb S sb w h.ok g h.gok h.sp x.Kind x.Id c (fun hd => r.dirt hd)
  obtain ⟨a1, a2, a3, a4⟩ := h.swk r x.Kind x.Id c hm hp
  have a5 := r.swk h.ok h.sp g x.Kind x.Id c
  obtain ⟨b1, b2⟩ := swk_q h.ok h.gok x.Kind x.Id c
  unfold opv wpa at F
  rw [hc, a1, e1, e2] at F
  exact ⟨_, _, F, a2, a5, a3, a4, b1.trans e1, b2.trans e2⟩
set_option maxHeartbeats 1000000 in
theorem g12 (n : Int) {A : HP} {t : SlV} {l : List gharrylaw10_Op} (hR : Rs A t 3 (l.flatMap cOp)) (hg : ∀ x ∈ l, goodOp x) : Fp eB Tryz.prog 12 #[.int .i64 n, .slice t.1 t.2.1 t.2.2] [A] true := fun L => by
  obtain ⟨sp, sn, sc⟩ := t
  obtain rfl : sn = l.length := hR.len cOp_len (by decide)
  refine c12_fn rfl rfl ?_
  by_cases hr : n < 2 ∨ 10 < n
  · repeat' ((fail_if_success with_reducible refine nph ?_); first | (with_reducible first | (refine d_seq ?_; intro K hK) | (refine hK _ _ ?_; clear hK K) | (refine SG.p ?_; try intro b) | refine r_rq (by first | decide | omega) ?_) | ((with_reducible refine SC.p ?_); refine aI ?_ ?_) <;> intro hc <;> try simp only [push_cast, seval] at hc | ((with_reducible refine SL.p ?_); first | refine ⟨_, rfl, ?_⟩ | refine ⟨_, _, _, rfl, ?_⟩ | (refine ⟨?_, rfl, ?_⟩; focus (simp; done))) | ((with_reducible first | apply i_ldn | apply i_ldnq); iterate 3 exact rfl) | ((try with_reducible refine d_reg ?_); simp only [go_sem]) | clear hK K)
    all_goals try (exfalso; omega)
    all_goals try contradiction
    all_goals
      refine i_clp g44 ?_
      repeat' ((fail_if_success with_reducible refine nph ?_); first | (with_reducible first | (refine d_seq ?_; intro K hK) | (refine hK _ _ ?_; clear hK K) | (refine SG.p ?_; try intro b) | refine r_rq (by first | decide | omega) ?_) | ((with_reducible refine SC.p ?_); refine aI ?_ ?_) <;> intro hc <;> try simp only [push_cast, seval] at hc | ((with_reducible refine SL.p ?_); first | refine ⟨_, rfl, ?_⟩ | refine ⟨_, _, _, rfl, ?_⟩ | (refine ⟨?_, rfl, ?_⟩; focus (simp; done))) | ((with_reducible first | apply i_ldn | apply i_ldnq); iterate 3 exact rfl) | ((try with_reducible refine d_reg ?_); simp only [go_sem]) | clear hK K)
      (with_reducible first | apply i_ret0 | apply i_ret2 | apply i_ret3 | apply i_ret); exact rfl
      rfl
  obtain ⟨k, rfl⟩ : ∃ k : Nat, n = (k : Int) := ⟨n.toNat, by omega⟩
  repeat' ((fail_if_success with_reducible refine nph ?_); first | (with_reducible first | (refine d_seq ?_; intro K hK) | (refine hK _ _ ?_; clear hK K) | (refine SG.p ?_; try intro b) | refine r_rq (by first | decide | omega) ?_) | ((with_reducible refine SC.p ?_); refine aI ?_ ?_) <;> intro hc <;> try simp only [push_cast, seval] at hc | ((with_reducible refine SL.p ?_); first | refine ⟨_, rfl, ?_⟩ | refine ⟨_, _, _, rfl, ?_⟩ | (refine ⟨?_, rfl, ?_⟩; focus (simp; done))) | ((with_reducible first | apply i_ldn | apply i_ldnq); iterate 3 exact rfl) | ((try with_reducible refine d_reg ?_); simp only [go_sem]) | clear hK K)
  all_goals try (exfalso; omega)
  all_goals try contradiction
  refine i_cal (g41 k (by omega) (by omega)) ?_
  rintro y X ⟨wb, sb, S, w0, rfl, rfl, hNw⟩
  have h0 := hNw.pv
  have r0 : Ra w0.P := by rw [hNw.p]; exact Ra.new _ _ _ _ _
  clear hNw
  dsimp only [List.cons_append, List.nil_append]
  repeat' ((fail_if_success with_reducible refine nph ?_); first | (with_reducible first | (refine d_seq ?_; intro K hK) | (refine hK _ _ ?_; clear hK K) | (refine SG.p ?_; try intro b) | refine r_rq (by first | decide | omega) ?_) | ((with_reducible refine SC.p ?_); refine aI ?_ ?_) <;> intro hc <;> try simp only [push_cast, seval] at hc | ((with_reducible refine SL.p ?_); first | refine ⟨_, rfl, ?_⟩ | refine ⟨_, _, _, rfl, ?_⟩ | (refine ⟨?_, rfl, ?_⟩; focus (simp; done))) | ((with_reducible first | apply i_ldn | apply i_ldnq); iterate 3 exact rfl) | ((try with_reducible refine d_reg ?_); simp only [go_sem]) | clear hK K)
  all_goals try contradiction
  generalize hq0 : w0.P.q = q0
  generalize hg0 : w0.G.q = l0
  refine d_lp [1, 5, 6] (fun t : Nat × Wo × Gh => [(1, .slice sp l.length sc), (5, .pointer (some ⟨wb, 0, none⟩)), (6, .int .i64 (t.1 : Int))])
    (fun t => wld wb sb S.q l0 q0 t.2.2 :: (wos S sb t.2.1 ++ (A :: L))) (fun t => t.1 ≤ 60 ∧ Pv S sb t.2.1 t.2.2 ∧ Ra t.2.1.P ∧ t.2.1.P.q = q0 ∧ t.2.1.G.q = l0 ∧ ∀ q, q < 8 → t.2.2.P q ≤ (t.1 : Int)) (fun t => 60 - t.1) (0, w0, g0) rfl SX.p ⟨Nat.zero_le _, h0, r0, hq0, hg0, fun q _ => Int.le_of_eq (g0P q)⟩ ?_
  clear h0 r0 hq0 hg0 w0
  rintro ⟨i, w, g⟩ ⟨i1, hv, ra, hq, hl, hp⟩
  dsimp only at i1 hv ra hq hl hp ⊢
  by_cases hi : i < l.length ∧ i < 60
  · have hx : l[i]? = some l[i] := List.getElem?_eq_getElem hi.1
    have hgx := hg l[i] (List.getElem_mem _)
    obtain ⟨ad, rfl⟩ := hR.ptr (by omega)
    generalize l[i] = x at *
    obtain ⟨w', g', F, b1, b2, b3, b4, b5, b6⟩ := swk_fq (wb := wb) hv ra hgx (m := (i : Int)) (by omega) hp l0 q0 hl hq
    have LA := g53 b1 wb
    have TA := g54 b1 wb
    unfold wpa at LA TA
    rw [b5, b6] at LA TA
    repeat' ((fail_if_success with_reducible refine nph ?_); first | (with_reducible first | (refine d_seq ?_; intro K hK) | (refine hK _ _ ?_; clear hK K) | (refine SG.p ?_; try intro b) | refine r_rq (by first | decide | omega) ?_) | ((with_reducible refine SC.p ?_); refine aI ?_ ?_) <;> intro hc <;> try simp only [push_cast, seval] at hc | ((with_reducible refine SL.p ?_); first | refine ⟨_, rfl, ?_⟩ | refine ⟨_, _, _, rfl, ?_⟩ | (refine ⟨?_, rfl, ?_⟩; focus (simp; done))) | ((with_reducible first | apply i_ldn | apply i_ldnq); iterate 3 exact rfl) | ((try with_reducible refine d_reg ?_); simp only [go_sem]) | clear hK K)
    all_goals try (exfalso; omega)
    refine i_sn (y := x) hR cOp_len hx rfl ?_
    refine i_clq F ?_
    repeat' ((fail_if_success with_reducible refine nph ?_); first | (with_reducible first | (refine d_seq ?_; intro K hK) | (refine hK _ _ ?_; clear hK K) | (refine SG.p ?_; try intro b) | refine r_rq (by first | decide | omega) ?_) | ((with_reducible refine SC.p ?_); refine aI ?_ ?_) <;> intro hc <;> try simp only [push_cast, seval] at hc | ((with_reducible refine SL.p ?_); first | refine ⟨_, rfl, ?_⟩ | refine ⟨_, _, _, rfl, ?_⟩ | (refine ⟨?_, rfl, ?_⟩; focus (simp; done))) | ((with_reducible first | apply i_ldn | apply i_ldnq); iterate 3 exact rfl) | ((try with_reducible refine d_reg ?_); simp only [go_sem]) | clear hK K)
    all_goals try contradiction
    refine i_clp LA ?_
    repeat' ((fail_if_success with_reducible refine nph ?_); first | (with_reducible first | (refine d_seq ?_; intro K hK) | (refine hK _ _ ?_; clear hK K) | (refine SG.p ?_; try intro b) | refine r_rq (by first | decide | omega) ?_) | ((with_reducible refine SC.p ?_); refine aI ?_ ?_) <;> intro hc <;> try simp only [push_cast, seval] at hc | ((with_reducible refine SL.p ?_); first | refine ⟨_, rfl, ?_⟩ | refine ⟨_, _, _, rfl, ?_⟩ | (refine ⟨?_, rfl, ?_⟩; focus (simp; done))) | ((with_reducible first | apply i_ldn | apply i_ldnq); iterate 3 exact rfl) | ((try with_reducible refine d_reg ?_); simp only [go_sem]) | clear hK K)
    all_goals try contradiction
    refine i_clp TA ?_
    repeat' ((fail_if_success with_reducible refine nph ?_); first | (with_reducible first | (refine d_seq ?_; intro K hK) | (refine hK _ _ ?_; clear hK K) | (refine SG.p ?_; try intro b) | refine r_rq (by first | decide | omega) ?_) | ((with_reducible refine SC.p ?_); refine aI ?_ ?_) <;> intro hc <;> try simp only [push_cast, seval] at hc | ((with_reducible refine SL.p ?_); first | refine ⟨_, rfl, ?_⟩ | refine ⟨_, _, _, rfl, ?_⟩ | (refine ⟨?_, rfl, ?_⟩; focus (simp; done))) | ((with_reducible first | apply i_ldn | apply i_ldnq); iterate 3 exact rfl) | ((try with_reducible refine d_reg ?_); simp only [go_sem]) | clear hK K)
    all_goals try contradiction
    rw [w64 (by omega) (by omega)]
    exact i_bk (i + 1, w', g') rfl ⟨by dsimp only; omega, b1, b2, b6, b5, fun q hq8 => by have := b4 q hq8; dsimp only; omega⟩ (by dsimp only; omega)
  · repeat' ((fail_if_success with_reducible refine nph ?_); first | (with_reducible first | (refine d_seq ?_; intro K hK) | (refine hK _ _ ?_; clear hK K) | (refine SG.p ?_; try intro b) | refine r_rq (by first | decide | omega) ?_) | ((with_reducible refine SC.p ?_); refine aI ?_ ?_) <;> intro hc <;> try simp only [push_cast, seval] at hc | ((with_reducible refine SL.p ?_); first | refine ⟨_, rfl, ?_⟩ | refine ⟨_, _, _, rfl, ?_⟩ | (refine ⟨?_, rfl, ?_⟩; focus (simp; done))) | ((with_reducible first | apply i_ldn | apply i_ldnq); iterate 3 exact rfl) | ((try with_reducible refine d_reg ?_); simp only [go_sem]) | clear hK K)
    all_goals try (exfalso; omega)
    all_goals
      refine i_clp g44 ?_
      repeat' ((fail_if_success with_reducible refine nph ?_); first | (with_reducible first | (refine d_seq ?_; intro K hK) | (refine hK _ _ ?_; clear hK K) | (refine SG.p ?_; try intro b) | refine r_rq (by first | decide | omega) ?_) | ((with_reducible refine SC.p ?_); refine aI ?_ ?_) <;> intro hc <;> try simp only [push_cast, seval] at hc | ((with_reducible refine SL.p ?_); first | refine ⟨_, rfl, ?_⟩ | refine ⟨_, _, _, rfl, ?_⟩ | (refine ⟨?_, rfl, ?_⟩; focus (simp; done))) | ((with_reducible first | apply i_ldn | apply i_ldnq); iterate 3 exact rfl) | ((try with_reducible refine d_reg ?_); simp only [go_sem]) | clear hK K)
      (with_reducible first | apply i_ret0 | apply i_ret2 | apply i_ret3 | apply i_ret); exact rfl
      rfl
end Go.Sp
