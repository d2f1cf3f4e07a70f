/- Texts of a proof, one behind the other: P9 V11 P10 Q2 Q3 Q4 Q5 Q6 Q7 Q14 Gqs0 Q15 Q10 Q16 Gql0 Q17 Gzd0 Q18 Q19 Gzc0 Q20. No condition. -/
import Derived.Test.YtaidhghnflnmnaaGreatM3beedfa5
import Derived.Test.YtaidhghnflnmnaaGreatMcc68c427
import Derived.Test.YtaidhghnflnmnaaGreatM42b0b307
namespace Go.Sp
open Go Go.Proofs
set_option linter.unusedSimpArgs false
set_option linter.unusedVariables false
set_option maxRecDepth 10000
structure Gh where
  txt : List (List UInt8)
  lsn : List Int
  pin : List Int
structure Gh.ok (g : Gh) : Prop where
  t : g.txt.length = 8
  l : g.lsn.length = 8
  p : g.pin.length = 8
abbrev gcl (sb sq lq pq : Nat) (g : Gh) : List Value := .pointer (some ⟨sb, 0, none⟩) :: .pointer (some ⟨sq, 0, none⟩) :: .pointer (some ⟨lq, 0, none⟩) :: .pointer (some ⟨pq, 0, none⟩) :: (g.txt.map (fun t => str t) ++ (g.lsn.map (fun n => Value.int .i64 n) ++ g.pin.map (fun n => Value.int .i64 n)))
abbrev wld (wb sb sq lq pq : Nat) (g : Gh) : HP := ar wb 81 (gcl sb sq lq pq g)
section
variable {sb sq lq pq : Nat} {g : Gh} (h : g.ok)
include h
theorem gcl_txt {i : Nat} (hi : i < 8) : (gcl sb sq lq pq g)[4 + i]? = some (str (g.txt.getD i [])) := by
  have h1 := h.t
  rw [Nat.add_comm]
  show (g.txt.map (fun t => str t) ++ _)[i]? = _
  rw [List.getElem?_append_left (by rw [List.length_map]; omega), List.getElem?_map, List.getD_eq_getElem?_getD, List.getElem?_eq_getElem (by omega)]
  rfl
theorem gcl_lsn {i : Nat} (hi : i < 8) : (gcl sb sq lq pq g)[12 + i]? = some (.int .i64 (g.lsn.getD i 0)) := by
  have h1 := h.t
  have h2 := h.l
  rw [show 12 + i = (8 + i) + 4 by omega]
  show (g.txt.map (fun t => str t) ++ _)[8 + i]? = _
  rw [List.getElem?_append_right (by rw [List.length_map]; omega), List.length_map, h1, show 8 + i - 8 = i by omega, List.getElem?_append_left (by rw [List.length_map]; omega), List.getElem?_map, List.getD_eq_getElem?_getD, List.getElem?_eq_getElem (by omega)]
  rfl
theorem gcl_pin {i : Nat} (hi : i < 8) : (gcl sb sq lq pq g)[20 + i]? = some (.int .i64 (g.pin.getD i 0)) := by
  have h1 := h.t
  have h2 := h.l
  have h3 := h.p
  rw [show 20 + i = (16 + i) + 4 by omega]
  show (g.txt.map (fun t => str t) ++ _)[16 + i]? = _
  rw [List.getElem?_append_right (by rw [List.length_map]; omega), List.length_map, h1, show 16 + i - 8 = 8 + i by omega, List.getElem?_append_right (by rw [List.length_map]; omega), List.length_map, h2, show 8 + i - 8 = i by omega, List.getElem?_map, List.getD_eq_getElem?_getD, List.getElem?_eq_getElem (by omega)]
  rfl
theorem gcl_len : (gcl sb sq lq pq g).length = 28 := by
  simp [h.t, h.l, h.p]
theorem set_txt {i : Nat} (hi : i < 8) (t : List UInt8) : (gcl sb sq lq pq g).set (4 + i) (str t) = gcl sb sq lq pq { g with txt := g.txt.set i t } := by
  have h1 := h.t
  rw [Nat.add_comm]
  show _ :: _ :: _ :: _ :: (g.txt.map (fun t => str t) ++ _).set i _ = _
  rw [List.set_append_left _ _ (by rw [List.length_map]; omega)]
  simp only [gcl, List.map_set]
theorem set_lsn {i : Nat} (hi : i < 8) (n : Int) : (gcl sb sq lq pq g).set (12 + i) (.int .i64 n) = gcl sb sq lq pq { g with lsn := g.lsn.set i n } := by
  have h1 := h.t
  have h2 := h.l
  rw [show 12 + i = (8 + i) + 4 by omega]
  show _ :: _ :: _ :: _ :: (g.txt.map (fun t => str t) ++ _).set (8 + i) _ = _
  rw [List.set_append_right _ _ (by rw [List.length_map]; omega), List.length_map, h1, show 8 + i - 8 = i by omega, List.set_append_left _ _ (by rw [List.length_map]; omega)]
  simp only [gcl, List.map_set]
theorem set_pin {i : Nat} (hi : i < 8) (n : Int) : (gcl sb sq lq pq g).set (20 + i) (.int .i64 n) = gcl sb sq lq pq { g with pin := g.pin.set i n } := by
  have h1 := h.t
  have h2 := h.l
  have h3 := h.p
  rw [show 20 + i = (16 + i) + 4 by omega]
  show _ :: _ :: _ :: _ :: (g.txt.map (fun t => str t) ++ _).set (16 + i) _ = _
  rw [List.set_append_right _ _ (by rw [List.length_map]; omega), List.length_map, h1, show 16 + i - 8 = 8 + i by omega, List.set_append_right _ _ (by rw [List.length_map]; omega), List.length_map, h2, show 8 + i - 8 = i by omega]
  simp only [gcl, List.map_set]
end
def g0 : Gh := ⟨List.replicate 8 [], List.replicate 8 0, List.replicate 8 0⟩
theorem g0_ok : g0.ok := ⟨rfl, rfl, rfl⟩
theorem g94 (id : Int) : Fp eB Tryz.prog 94 #[.int .i64 id] [] (decide (0 ≤ id ∧ id < 8)) := fun L => by
  refine c94_fn rfl rfl ?_
  by_cases h : 0 ≤ id ∧ id < 8
  · rw [decide_eq_true h]
    repeat' ((fail_if_success with_reducible refine nph ?_); first | (with_reducible first | (refine d_seq ?_; intro K hK) | (refine hK _ _ ?_; clear hK K) | (refine SG.p ?_; try intro b) | refine r_rq (by first | decide | omega) ?_) | ((with_reducible refine SC.p ?_); refine aI ?_ ?_) <;> intro hc <;> try simp only [push_cast, seval] at hc | ((with_reducible refine SL.p ?_); first | refine ⟨_, rfl, ?_⟩ | refine ⟨_, _, _, rfl, ?_⟩ | (refine ⟨?_, rfl, ?_⟩; focus (simp; done))) | ((with_reducible first | apply i_ldn | apply i_ldnq); iterate 3 exact rfl) | ((try with_reducible refine d_reg ?_); simp only [go_sem]) | clear hK K)
    all_goals try (exfalso; omega)
    (with_reducible first | apply i_ret0 | apply i_ret2 | apply i_ret3 | apply i_ret); exact rfl
    exact decide_eq_true h.2
  · rw [decide_eq_false h]
    repeat' ((fail_if_success with_reducible refine nph ?_); first | (with_reducible first | (refine d_seq ?_; intro K hK) | (refine hK _ _ ?_; clear hK K) | (refine SG.p ?_; try intro b) | refine r_rq (by first | decide | omega) ?_) | ((with_reducible refine SC.p ?_); refine aI ?_ ?_) <;> intro hc <;> try simp only [push_cast, seval] at hc | ((with_reducible refine SL.p ?_); first | refine ⟨_, rfl, ?_⟩ | refine ⟨_, _, _, rfl, ?_⟩ | (refine ⟨?_, rfl, ?_⟩; focus (simp; done))) | ((with_reducible first | apply i_ldn | apply i_ldnq); iterate 3 exact rfl) | ((try with_reducible refine d_reg ?_); simp only [go_sem]) | clear hK K)
    all_goals (with_reducible first | apply i_ret0 | apply i_ret2 | apply i_ret3 | apply i_ret); exact rfl
    · exact decide_eq_false (by omega)
    · rfl
def npn (l : List Int) : Nat → Nat
  | 0 => 0
  | i + 1 => if 0 < l.getD i 0 then npn l i + 1 else npn l i
theorem npn_le (l : List Int) : ∀ i, npn l i ≤ i
  | 0 => Nat.le_refl _
  | i + 1 => by
    have := npn_le l i
    unfold npn
    split <;> omega
theorem g93 (wb sb sq lq pq : Nat) (g : Gh) (h : g.ok) : Fp eI Tryz.prog 93 #[.pointer (some ⟨wb, 0, none⟩)] [wld wb sb sq lq pq g] ((npn g.pin 8 : Nat) : Int) := fun L => by
  refine c93_fn rfl rfl ?_
  repeat' ((fail_if_success with_reducible refine nph ?_); first | (with_reducible first | (refine d_seq ?_; intro K hK) | (refine hK _ _ ?_; clear hK K) | (refine SG.p ?_; try intro b) | refine r_rq (by first | decide | omega) ?_) | ((with_reducible refine SC.p ?_); refine aI ?_ ?_) <;> intro hc <;> try simp only [push_cast, seval] at hc | ((with_reducible refine SL.p ?_); first | refine ⟨_, rfl, ?_⟩ | refine ⟨_, _, _, rfl, ?_⟩ | (refine ⟨?_, rfl, ?_⟩; focus (simp; done))) | ((with_reducible first | apply i_ldn | apply i_ldnq); iterate 3 exact rfl) | ((try with_reducible refine d_reg ?_); simp only [go_sem]) | clear hK K)
  refine d_lp [0, 3, 4] (fun i : Nat => [(0, .pointer (some ⟨wb, 0, none⟩)), (3, .int .i64 ((npn g.pin i : Nat) : Int)), (4, .int .i64 (i : Int))])
    (fun _ => wld wb sb sq lq pq g :: L) (fun i => i ≤ 8) (fun i => 8 - i) 0 rfl SX.p (by omega) ?_
  intro i hi
  by_cases h8 : i < 8
  · have hp := gcl_pin (sb := sb) (sq := sq) (lq := lq) (pq := pq) h h8
    have hn := npn_le g.pin i
    by_cases hc0 : 0 < g.pin.getD i 0
    · have e : npn g.pin (i + 1) = npn g.pin i + 1 := if_pos hc0
      repeat' ((fail_if_success with_reducible refine nph ?_); first | (with_reducible first | (refine d_seq ?_; intro K hK) | (refine hK _ _ ?_; clear hK K) | (refine SG.p ?_; try intro b) | refine r_rq (by first | decide | omega) ?_) | ((with_reducible refine SC.p ?_); refine aI ?_ ?_) <;> intro hc <;> try simp only [push_cast, seval] at hc | ((with_reducible refine SL.p ?_); first | refine ⟨_, rfl, ?_⟩ | refine ⟨_, _, _, rfl, ?_⟩ | (refine ⟨?_, rfl, ?_⟩; focus (simp; done))) | ((with_reducible first | apply i_ldn | apply i_ldnq); iterate 3 exact rfl) | ((try with_reducible refine d_reg ?_); simp only [go_sem]) | clear hK K)
      all_goals try (exfalso; omega)
      refine i_ld (e := eI) hp ?_
      repeat' ((fail_if_success with_reducible refine nph ?_); first | (with_reducible first | (refine d_seq ?_; intro K hK) | (refine hK _ _ ?_; clear hK K) | (refine SG.p ?_; try intro b) | refine r_rq (by first | decide | omega) ?_) | ((with_reducible refine SC.p ?_); refine aI ?_ ?_) <;> intro hc <;> try simp only [push_cast, seval] at hc | ((with_reducible refine SL.p ?_); first | refine ⟨_, rfl, ?_⟩ | refine ⟨_, _, _, rfl, ?_⟩ | (refine ⟨?_, rfl, ?_⟩; focus (simp; done))) | ((with_reducible first | apply i_ldn | apply i_ldnq); iterate 3 exact rfl) | ((try with_reducible refine d_reg ?_); simp only [go_sem]) | clear hK K)
      all_goals try (exfalso; omega)
      rw [w64 (by omega) (by omega), w64 (by omega) (by omega)]
      exact i_bk (i + 1) (by rw [e]; rfl) (by omega) (by omega)
    · have e : npn g.pin (i + 1) = npn g.pin i := if_neg hc0
      repeat' ((fail_if_success with_reducible refine nph ?_); first | (with_reducible first | (refine d_seq ?_; intro K hK) | (refine hK _ _ ?_; clear hK K) | (refine SG.p ?_; try intro b) | refine r_rq (by first | decide | omega) ?_) | ((with_reducible refine SC.p ?_); refine aI ?_ ?_) <;> intro hc <;> try simp only [push_cast, seval] at hc | ((with_reducible refine SL.p ?_); first | refine ⟨_, rfl, ?_⟩ | refine ⟨_, _, _, rfl, ?_⟩ | (refine ⟨?_, rfl, ?_⟩; focus (simp; done))) | ((with_reducible first | apply i_ldn | apply i_ldnq); iterate 3 exact rfl) | ((try with_reducible refine d_reg ?_); simp only [go_sem]) | clear hK K)
      all_goals try (exfalso; omega)
      refine i_ld (e := eI) hp ?_
      repeat' ((fail_if_success with_reducible refine nph ?_); first | (with_reducible first | (refine d_seq ?_; intro K hK) | (refine hK _ _ ?_; clear hK K) | (refine SG.p ?_; try intro b) | refine r_rq (by first | decide | omega) ?_) | ((with_reducible refine SC.p ?_); refine aI ?_ ?_) <;> intro hc <;> try simp only [push_cast, seval] at hc | ((with_reducible refine SL.p ?_); first | refine ⟨_, rfl, ?_⟩ | refine ⟨_, _, _, rfl, ?_⟩ | (refine ⟨?_, rfl, ?_⟩; focus (simp; done))) | ((with_reducible first | apply i_ldn | apply i_ldnq); iterate 3 exact rfl) | ((try with_reducible refine d_reg ?_); simp only [go_sem]) | clear hK K)
      all_goals try (exfalso; omega)
      rw [w64 (by omega) (by omega)]
      exact i_bk (i + 1) (by rw [e]; rfl) (by omega) (by omega)
  · obtain rfl : i = 8 := by omega
    repeat' ((fail_if_success with_reducible refine nph ?_); first | (with_reducible first | (refine d_seq ?_; intro K hK) | (refine hK _ _ ?_; clear hK K) | (refine SG.p ?_; try intro b) | refine r_rq (by first | decide | omega) ?_) | ((with_reducible refine SC.p ?_); refine aI ?_ ?_) <;> intro hc <;> try simp only [push_cast, seval] at hc | ((with_reducible refine SL.p ?_); first | refine ⟨_, rfl, ?_⟩ | refine ⟨_, _, _, rfl, ?_⟩ | (refine ⟨?_, rfl, ?_⟩; focus (simp; done))) | ((with_reducible first | apply i_ldn | apply i_ldnq); iterate 3 exact rfl) | ((try with_reducible refine d_reg ?_); simp only [go_sem]) | clear hK K)
    all_goals try contradiction
    (with_reducible first | apply i_ret0 | apply i_ret2 | apply i_ret3 | apply i_ret); exact rfl
    rfl
structure Wnew (S : St) (sb n : Nat) (w : Wo) : Prop where
  ok : w.ok S sb 80
  wi : ∃ ρ, Wi w.Z sb 80 w.G ρ
  g : w.G = ⟨w.G.q, 0, 40, 1, [], 0, false⟩
  s : S = ⟨S.q, 40, 8, 1⟩
  p : w.P = Po.new w.P.q w.P.fb S.q w.G.q n
  z : ∀ j, 40 ≤ j → j < 80 → w.Z.get ((j : Nat) : Int) = wh []
set_option maxHeartbeats 1000000 in
theorem g41 (n : Nat) (h1 : 2 ≤ n) (h2 : n ≤ 64) : Fn eP Tryz.prog 41 #[.int .i64 (n : Int)] [] fun y X => ∃ (wb sb : Nat) (S : St) (w : Wo), y = some ⟨wb, 0, none⟩ ∧ X = wld wb sb S.q w.G.q w.P.q g0 :: wos S sb w ∧ Wnew S sb n w := fun L => by
  refine c41_fn rfl rfl ?_
  repeat' ((fail_if_success with_reducible refine nph ?_); first | (with_reducible first | (refine d_seq ?_; intro K hK) | (refine hK _ _ ?_; clear hK K) | (refine SG.p ?_; try intro b) | refine r_rq (by first | decide | omega) ?_) | ((with_reducible refine SC.p ?_); refine aI ?_ ?_) <;> intro hc <;> try simp only [push_cast, seval] at hc | ((with_reducible refine SL.p ?_); first | refine ⟨_, rfl, ?_⟩ | refine ⟨_, _, _, rfl, ?_⟩ | (refine ⟨?_, rfl, ?_⟩; focus (simp; done))) | ((with_reducible first | apply i_ldn | apply i_ldnq); iterate 3 exact rfl) | ((try with_reducible refine d_reg ?_); simp only [go_sem]) | clear hK K)
  refine i_cal (F25 80 (by decide) (by decide)) ?_
  rintro y X ⟨sb, bb, mb, rfl, rfl⟩
  have hc0 : (Dk.new sb bb mb 80).calm sb 80 := Dk.calm.new (by decide) (by decide)
  have hz : ∀ m, m < 40 → at4 ((Dk.new sb bb mb 80).get ((0 + m : Nat) : Int)) = 0 := fun m hm => by rw [new_get (by omega)]; exact at4_nil
  have hz2 : ∀ j, j < 80 → (Dk.new sb bb mb 80).get ((j : Nat) : Int) = wh [] := fun j hj => new_get hj
  generalize Dk.new sb bb mb 80 = Z at *
  repeat' ((fail_if_success with_reducible refine nph ?_); first | (with_reducible first | (refine d_seq ?_; intro K hK) | (refine hK _ _ ?_; clear hK K) | (refine SG.p ?_; try intro b) | refine r_rq (by first | decide | omega) ?_) | ((with_reducible refine SC.p ?_); refine aI ?_ ?_) <;> intro hc <;> try simp only [push_cast, seval] at hc | ((with_reducible refine SL.p ?_); first | refine ⟨_, rfl, ?_⟩ | refine ⟨_, _, _, rfl, ?_⟩ | (refine ⟨?_, rfl, ?_⟩; focus (simp; done))) | ((with_reducible first | apply i_ldn | apply i_ldnq); iterate 3 exact rfl) | ((try with_reducible refine d_reg ?_); simp only [go_sem]) | clear hK K)
  all_goals try contradiction
  refine i_cal (wopenz hc0 hz (by decide) (by decide) (by decide) (by decide : 1 ≤ 1) (by decide)) ?_
  rintro y X ⟨q, Y, ρ, rfl, rfl, hW, hE, hG⟩
  repeat' ((fail_if_success with_reducible refine nph ?_); first | (with_reducible first | (refine d_seq ?_; intro K hK) | (refine hK _ _ ?_; clear hK K) | (refine SG.p ?_; try intro b) | refine r_rq (by first | decide | omega) ?_) | ((with_reducible refine SC.p ?_); refine aI ?_ ?_) <;> intro hc <;> try simp only [push_cast, seval] at hc | ((with_reducible refine SL.p ?_); first | refine ⟨_, rfl, ?_⟩ | refine ⟨_, _, _, rfl, ?_⟩ | (refine ⟨?_, rfl, ?_⟩; focus (simp; done))) | ((with_reducible first | apply i_ldn | apply i_ldnq); iterate 3 exact rfl) | ((try with_reducible refine d_reg ?_); simp only [go_sem]) | clear hK K)
  have ST := f51 Y hW.calm.ok 40 8 1 (by unfold wf64; decide) (by unfold wf64; decide) (by unfold wf64; decide)
  rw [hW.calm.sb, hW.calm.n] at ST
  refine i_cal ST ?_
  rintro y X hX
  rw [if_neg (by decide), if_neg (by decide)] at hX
  obtain ⟨⟨Sq, Sb, Sp, Sg⟩, e1, e2, e3, hS, rfl, rfl⟩ := hX
  obtain rfl : Sb = 40 := by dsimp only at e1; omega
  obtain rfl : Sp = 8 := by dsimp only at e2; omega
  obtain rfl : Sg = 1 := by dsimp only at e3; omega
  repeat' ((fail_if_success with_reducible refine nph ?_); first | (with_reducible first | (refine d_seq ?_; intro K hK) | (refine hK _ _ ?_; clear hK K) | (refine SG.p ?_; try intro b) | refine r_rq (by first | decide | omega) ?_) | ((with_reducible refine SC.p ?_); refine aI ?_ ?_) <;> intro hc <;> try simp only [push_cast, seval] at hc | ((with_reducible refine SL.p ?_); first | refine ⟨_, rfl, ?_⟩ | refine ⟨_, _, _, rfl, ?_⟩ | (refine ⟨?_, rfl, ?_⟩; focus (simp; done))) | ((with_reducible first | apply i_ldn | apply i_ldnq); iterate 3 exact rfl) | ((try with_reducible refine d_reg ?_); simp only [go_sem]) | clear hK K)
  refine i_cal (g42 Sq q n h1 h2) ?_
  rintro y X ⟨pq, fb, rfl, rfl⟩
  repeat' ((fail_if_success with_reducible refine nph ?_); first | (with_reducible first | (refine d_seq ?_; intro K hK) | (refine hK _ _ ?_; clear hK K) | (refine SG.p ?_; try intro b) | refine r_rq (by first | decide | omega) ?_) | ((with_reducible refine SC.p ?_); refine aI ?_ ?_) <;> intro hc <;> try simp only [push_cast, seval] at hc | ((with_reducible refine SL.p ?_); first | refine ⟨_, rfl, ?_⟩ | refine ⟨_, _, _, rfl, ?_⟩ | (refine ⟨?_, rfl, ?_⟩; focus (simp; done))) | ((with_reducible first | apply i_ldn | apply i_ldnq); iterate 3 exact rfl) | ((try with_reducible refine d_reg ?_); simp only [go_sem]) | clear hK K)
  all_goals try contradiction
  rename Nat => wb
  refine i_done (e := eP) (some ⟨wb, 0, none⟩) (wld wb sb Sq q pq g0 :: wos ⟨Sq, 40, 8, 1⟩ sb ⟨Po.new pq fb Sq q n, ⟨q, 0, 40, 1, [], 0, false⟩, Y⟩) (hs := ?_) rfl ⟨wb, sb, ⟨Sq, 40, 8, 1⟩, ⟨Po.new pq fb Sq q n, ⟨q, 0, 40, 1, [], 0, false⟩, Y⟩, rfl, rfl, ?_⟩
  · have e : wld wb sb Sq q pq g0 = ar wb 81 [.pointer (some ⟨sb, 0, none⟩), .pointer (some ⟨Sq, 0, none⟩), .pointer (some ⟨q, 0, none⟩), .pointer (some ⟨pq, 0, none⟩), str [], str [], str [], str [], str [], str [], str [], str [], .int .i64 0, .int .i64 0, .int .i64 0, .int .i64 0, .int .i64 0, .int .i64 0, .int .i64 0, .int .i64 0, .int .i64 0, .int .i64 0, .int .i64 0, .int .i64 0, .int .i64 0, .int .i64 0, .int .i64 0, .int .i64 0] := rfl
    rw [e]
    exact ⟨SX.p⟩
  · refine ⟨⟨new_okP h1 h2, hW.calm.ok, hW.calm.sb, hW.calm.n, hW.ok, hS, rfl, rfl⟩, ⟨ρ, hW⟩, rfl, rfl, rfl, fun j h3 h4 => ?_⟩
    rw [hG j h4, if_neg (show ¬ j = 0 by omega)]
    exact hz2 j h4
end Go.Sp
namespace Go.Sp
open Go Go.Proofs
set_option linter.unusedSimpArgs false
set_option linter.unusedVariables false
end Go.Sp
namespace Go.Sp
open Go Go.Proofs
set_option linter.unusedSimpArgs false
set_option linter.unusedVariables false
set_option maxRecDepth 10000
theorem wset_ok {S : St} {sb n : Nat} {w : Wo} (h : w.ok S sb n) (id : Int) (text : List UInt8) (lsn : Int) : (wset S w id text lsn).2.ok S sb n ∧ w.P.like (wset S w id text lsn).2.P ∧ (wset S w id text lsn).2.G.q = w.G.q := by
  obtain ⟨a, b, c, d, e⟩ := hld_ok h id
  unfold wset
  split
  · exact ⟨h, .rfl', rfl⟩
  · split
    · exact ⟨h, .rfl', rfl⟩
    · generalize hld S w id = r at *
      obtain ⟨⟨o, e2⟩, w2⟩ := r
      dsimp only at a b c d e ⊢
      cases o with
      | none => exact ⟨a, b, c⟩
      | some i => exact ⟨a.mvP (mod_like _ _ _) a.p.h, b.tr (mod_like _ _ _), c⟩
def Gh.put (g : Gh) (id : Nat) (t : List UInt8) (n : Int) : Gh := { g with txt := g.txt.set id t, lsn := g.lsn.set id n }
theorem Gh.put_ok {g : Gh} (h : g.ok) (id : Nat) (t : List UInt8) (n : Int) : (g.put id t n).ok := ⟨by simpa [Gh.put] using h.t, by simpa [Gh.put] using h.l, h.p⟩
def wst2 (g : Gh) (id : Int) (c : UInt8) (at' : Int) (b : Int × Wo) : Bool × Wo × Gh :=
  if id < 0 ∨ 8 ≤ id then (decide (b.1 = 6), b.2, g) else if b.1 = 7 then (decide (2 ≤ npn g.pin 8), b.2, g) else (decide (b.1 = 0), b.2, g.put id.toNat (fl c) at')
def wst (S : St) (w : Wo) (g : Gh) (id : Int) (c : UInt8) : Bool × Wo × Gh :=
  if (w.G.append (cm (c.toNat : Int))).1.2 = 0 then wst2 g id c (w.G.append (cm (c.toNat : Int))).1.1 (wset S ⟨w.P, (w.G.append (cm (c.toNat : Int))).2, w.Z⟩ id (fl c) (w.G.append (cm (c.toNat : Int))).1.1)
  else (decide ((w.G.append (cm (c.toNat : Int))).1.2 = 7), ⟨w.P, (w.G.append (cm (c.toNat : Int))).2, w.Z⟩, g)
theorem append_okG {G : Lg} {n : Nat} (hG : G.ok n) (c : Rc) : (G.append c).2.ok n ∧ (G.append c).2.q = G.q := by
  unfold Lg.append Lg.add
  split
  · exact ⟨hG, rfl⟩
  · split
    · split
      · exact ⟨hG, rfl⟩
      · have hdu := hG.du
        exact ⟨⟨hG.s1, hG.fit, hG.n1, hG.r1, hG.r2, by dsimp only; rw [List.length_append]; omega, by dsimp only; rw [List.length_append]; omega⟩, rfl⟩
    · exact ⟨hG, rfl⟩
theorem wst_ok {S : St} {sb n : Nat} {w : Wo} (h : w.ok S sb n) {g : Gh} (hg : g.ok) (id : Int) (c : UInt8) : (wst S w g id c).2.1.ok S sb n ∧ w.P.like (wst S w g id c).2.1.P ∧ (wst S w g id c).2.1.G.q = w.G.q ∧ (wst S w g id c).2.2.ok := by
  obtain ⟨a1, a2⟩ := append_okG h.g (cm (c.toNat : Int))
  unfold wst
  generalize w.G.append (cm (c.toNat : Int)) = a at *
  obtain ⟨⟨at', e⟩, G2⟩ := a
  dsimp only at a1 a2 ⊢
  have h2 : (⟨w.P, G2, w.Z⟩ : Wo).ok S sb n := ⟨h.p, h.z, h.sb, h.nn, a1, h.s, h.st, h.lg.trans a2.symm⟩
  split
  · obtain ⟨b1, b2, b3⟩ := wset_ok h2 id (fl c) at'
    generalize wset S ⟨w.P, G2, w.Z⟩ id (fl c) at' = b at *
    unfold wst2
    split
    · exact ⟨b1, b2, b3.trans a2, hg⟩
    · split
      · exact ⟨b1, b2, b3.trans a2, hg⟩
      · exact ⟨b1, b2, b3.trans a2, Gh.put_ok hg _ _ _⟩
  · exact ⟨h2, .rfl', a2, hg⟩
set_option maxHeartbeats 400000 in
theorem g47 (wb : Nat) (S : St) (sb n : Nat) (w : Wo) (h : w.ok S sb n) (g : Gh) (hg : g.ok) (id : Int) (c : UInt8) : Fq eB Tryz.prog 47 #[.pointer (some ⟨wb, 0, none⟩), .int .i64 id, .int .u8 (c.toNat : Int)] (wld wb sb S.q w.G.q w.P.q g :: wos S sb w) (wld wb sb S.q w.G.q w.P.q (wst S w g id c).2.2 :: wos S sb (wst S w g id c).2.1) (wst S w g id c).1 := fun L => by
  have hfit := h.g.fit
  have hn1 := h.g.n1
  have AP := g20 w.G sb h.g.le (by omega) (dk w.Z) ⟨7, (c.toNat : Int), 1, 0, 0, [], [], [], 0, (none, 0, 0), (none, 0, 0), 0, 0⟩ (cm (c.toNat : Int)) (cm_at _ _)
  obtain ⟨a1, a2⟩ := append_okG h.g (cm (c.toNat : Int))
  have PN := g93 wb sb S.q w.G.q w.P.q g hg
  have FL := f47 c
  have hc8 := c.toNat_lt
  have ew : IntKind.wrap .i64 (c.toNat : Int) = (c.toNat : Int) := w64 (by omega) (by omega)
  generalize hR : wst S w g id c = R
  unfold wst at hR
  generalize w.G.append (cm (c.toNat : Int)) = a at *
  obtain ⟨⟨at', e⟩, G2⟩ := a
  dsimp only at a1 a2 AP hR
  have h2 : (⟨w.P, G2, w.Z⟩ : Wo).ok S sb n := ⟨h.p, h.z, h.sb, h.nn, a1, h.s, h.st, h.lg.trans a2.symm⟩
  refine c47_fn rfl rfl ?_
  by_cases he : e = 0
  · subst he
    rw [if_pos rfl] at hR
    have WS := g43 S sb n ⟨w.P, G2, w.Z⟩ h2 id (fl c) at'
    generalize wset S ⟨w.P, G2, w.Z⟩ id (fl c) at' = b at *
    obtain ⟨e2, w2⟩ := b
    unfold wst2 at hR
    dsimp only at WS hR
    repeat' (first | rw [ew] | (fail_if_success with_reducible refine nph ?_); first | (with_reducible first | (refine d_seq ?_; intro K hK) | (refine hK _ _ ?_; clear hK K) | (refine SG.p ?_; try intro b) | refine r_rq (by first | decide | omega) ?_) | ((with_reducible refine SC.p ?_); refine aI ?_ ?_) <;> intro hc <;> try simp only [push_cast, seval] at hc | ((with_reducible refine SL.p ?_); first | refine ⟨_, rfl, ?_⟩ | refine ⟨_, _, _, rfl, ?_⟩ | (refine ⟨?_, rfl, ?_⟩; focus (simp; done))) | ((with_reducible first | apply i_ldn | apply i_ldnq); iterate 3 exact rfl) | ((try with_reducible refine d_reg ?_); simp only [go_sem]) | clear hK K)
    refine i_clq AP ?_
    repeat' ((fail_if_success with_reducible refine nph ?_); first | (with_reducible first | (refine d_seq ?_; intro K hK) | (refine hK _ _ ?_; clear hK K) | (refine SG.p ?_; try intro b) | refine r_rq (by first | decide | omega) ?_) | ((with_reducible refine SC.p ?_); refine aI ?_ ?_) <;> intro hc <;> try simp only [push_cast, seval] at hc | ((with_reducible refine SL.p ?_); first | refine ⟨_, rfl, ?_⟩ | refine ⟨_, _, _, rfl, ?_⟩ | (refine ⟨?_, rfl, ?_⟩; focus (simp; done))) | ((with_reducible first | apply i_ldn | apply i_ldnq); iterate 3 exact rfl) | ((try with_reducible refine d_reg ?_); simp only [go_sem]) | clear hK K)
    all_goals try contradiction
    refine r_ph0 ?_
    repeat' ((fail_if_success with_reducible refine nph ?_); first | (with_reducible first | (refine d_seq ?_; intro K hK) | (refine hK _ _ ?_; clear hK K) | (refine SG.p ?_; try intro b) | refine r_rq (by first | decide | omega) ?_) | ((with_reducible refine SC.p ?_); refine aI ?_ ?_) <;> intro hc <;> try simp only [push_cast, seval] at hc | ((with_reducible refine SL.p ?_); first | refine ⟨_, rfl, ?_⟩ | refine ⟨_, _, _, rfl, ?_⟩ | (refine ⟨?_, rfl, ?_⟩; focus (simp; done))) | ((with_reducible first | apply i_ldn | apply i_ldnq); iterate 3 exact rfl) | ((try with_reducible refine d_reg ?_); simp only [go_sem]) | clear hK K)
    refine i_clp FL ?_
    repeat' ((fail_if_success with_reducible refine nph ?_); first | (with_reducible first | (refine d_seq ?_; intro K hK) | (refine hK _ _ ?_; clear hK K) | (refine SG.p ?_; try intro b) | refine r_rq (by first | decide | omega) ?_) | ((with_reducible refine SC.p ?_); refine aI ?_ ?_) <;> intro hc <;> try simp only [push_cast, seval] at hc | ((with_reducible refine SL.p ?_); first | refine ⟨_, rfl, ?_⟩ | refine ⟨_, _, _, rfl, ?_⟩ | (refine ⟨?_, rfl, ?_⟩; focus (simp; done))) | ((with_reducible first | apply i_ldn | apply i_ldnq); iterate 3 exact rfl) | ((try with_reducible refine d_reg ?_); simp only [go_sem]) | clear hK K)
    refine i_clq WS ?_
    by_cases hr : id < 0 ∨ 8 ≤ id
    · rw [if_pos hr] at hR
      subst hR
      repeat' ((fail_if_success with_reducible refine nph ?_); first | (with_reducible first | (refine d_seq ?_; intro K hK) | (refine hK _ _ ?_; clear hK K) | (refine SG.p ?_; try intro b) | refine r_rq (by first | decide | omega) ?_) | ((with_reducible refine SC.p ?_); refine aI ?_ ?_) <;> intro hc <;> try simp only [push_cast, seval] at hc | ((with_reducible refine SL.p ?_); first | refine ⟨_, rfl, ?_⟩ | refine ⟨_, _, _, rfl, ?_⟩ | (refine ⟨?_, rfl, ?_⟩; focus (simp; done))) | ((with_reducible first | apply i_ldn | apply i_ldnq); iterate 3 exact rfl) | ((try with_reducible refine d_reg ?_); simp only [go_sem]) | clear hK K)
      all_goals try (exfalso; omega)
      all_goals try contradiction
      all_goals
        (with_reducible first | apply i_ret0 | apply i_ret2 | apply i_ret3 | apply i_ret); exact rfl
        rfl
    · rw [if_neg hr] at hR
      by_cases h7 : e2 = 7
      · subst h7
        rw [if_pos rfl] at hR
        subst hR
        repeat' ((fail_if_success with_reducible refine nph ?_); first | (with_reducible first | (refine d_seq ?_; intro K hK) | (refine hK _ _ ?_; clear hK K) | (refine SG.p ?_; try intro b) | refine r_rq (by first | decide | omega) ?_) | ((with_reducible refine SC.p ?_); refine aI ?_ ?_) <;> intro hc <;> try simp only [push_cast, seval] at hc | ((with_reducible refine SL.p ?_); first | refine ⟨_, rfl, ?_⟩ | refine ⟨_, _, _, rfl, ?_⟩ | (refine ⟨?_, rfl, ?_⟩; focus (simp; done))) | ((with_reducible first | apply i_ldn | apply i_ldnq); iterate 3 exact rfl) | ((try with_reducible refine d_reg ?_); simp only [go_sem]) | clear hK K)
        all_goals try (exfalso; omega)
        all_goals try contradiction
        refine i_clp PN ?_
        repeat' ((fail_if_success with_reducible refine nph ?_); first | (with_reducible first | (refine d_seq ?_; intro K hK) | (refine hK _ _ ?_; clear hK K) | (refine SG.p ?_; try intro b) | refine r_rq (by first | decide | omega) ?_) | ((with_reducible refine SC.p ?_); refine aI ?_ ?_) <;> intro hc <;> try simp only [push_cast, seval] at hc | ((with_reducible refine SL.p ?_); first | refine ⟨_, rfl, ?_⟩ | refine ⟨_, _, _, rfl, ?_⟩ | (refine ⟨?_, rfl, ?_⟩; focus (simp; done))) | ((with_reducible first | apply i_ldn | apply i_ldnq); iterate 3 exact rfl) | ((try with_reducible refine d_reg ?_); simp only [go_sem]) | clear hK K)
        (with_reducible first | apply i_ret0 | apply i_ret2 | apply i_ret3 | apply i_ret); exact rfl
        dsimp only
        rw [decide_eq_decide]
        omega
      · rw [if_neg h7] at hR
        unfold Gh.put at hR
        subst hR
        obtain ⟨m, rfl⟩ : ∃ m : Nat, id = (m : Int) := ⟨id.toNat, by omega⟩
        have hm : m < 8 := by omega
        have ST := set_txt (sb := sb) (sq := S.q) (lq := w.G.q) (pq := w.P.q) hg hm (fl c)
        have hg2 : ({ g with txt := g.txt.set m (fl c) } : Gh).ok := ⟨by simpa using hg.t, hg.l, hg.p⟩
        have SL := set_lsn (sb := sb) (sq := S.q) (lq := w.G.q) (pq := w.P.q) hg2 hm at'
        have gl := gcl_len (sb := sb) (sq := S.q) (lq := w.G.q) (pq := w.P.q) hg
        have gl2 := gcl_len (sb := sb) (sq := S.q) (lq := w.G.q) (pq := w.P.q) hg2
        repeat' ((fail_if_success with_reducible refine nph ?_); first | (with_reducible first | (refine d_seq ?_; intro K hK) | (refine hK _ _ ?_; clear hK K) | (refine SG.p ?_; try intro b) | refine r_rq (by first | decide | omega) ?_) | ((with_reducible refine SC.p ?_); refine aI ?_ ?_) <;> intro hc <;> try simp only [push_cast, seval] at hc | ((with_reducible refine SL.p ?_); first | refine ⟨_, rfl, ?_⟩ | refine ⟨_, _, _, rfl, ?_⟩ | (refine ⟨?_, rfl, ?_⟩; focus (simp; done))) | ((with_reducible first | apply i_ldn | apply i_ldnq); iterate 3 exact rfl) | ((try with_reducible refine d_reg ?_); simp only [go_sem]) | clear hK K)
        all_goals try (exfalso; omega)
        all_goals try contradiction
        refine i_clp FL ?_
        repeat' ((fail_if_success with_reducible refine nph ?_); first | (with_reducible first | (refine d_seq ?_; intro K hK) | (refine hK _ _ ?_; clear hK K) | (refine SG.p ?_; try intro b) | refine r_rq (by first | decide | omega) ?_) | ((with_reducible refine SC.p ?_); refine aI ?_ ?_) <;> intro hc <;> try simp only [push_cast, seval] at hc | ((with_reducible refine SL.p ?_); first | refine ⟨_, rfl, ?_⟩ | refine ⟨_, _, _, rfl, ?_⟩ | (refine ⟨?_, rfl, ?_⟩; focus (simp; done))) | ((with_reducible first | apply i_ldn | apply i_ldnq); iterate 3 exact rfl) | ((try with_reducible refine d_reg ?_); simp only [go_sem]) | clear hK K)
        refine i_st (by rw [gl]; omega) rfl ?_
        rw [ST]
        repeat' ((fail_if_success with_reducible refine nph ?_); first | (with_reducible first | (refine d_seq ?_; intro K hK) | (refine hK _ _ ?_; clear hK K) | (refine SG.p ?_; try intro b) | refine r_rq (by first | decide | omega) ?_) | ((with_reducible refine SC.p ?_); refine aI ?_ ?_) <;> intro hc <;> try simp only [push_cast, seval] at hc | ((with_reducible refine SL.p ?_); first | refine ⟨_, rfl, ?_⟩ | refine ⟨_, _, _, rfl, ?_⟩ | (refine ⟨?_, rfl, ?_⟩; focus (simp; done))) | ((with_reducible first | apply i_ldn | apply i_ldnq); iterate 3 exact rfl) | ((try with_reducible refine d_reg ?_); simp only [go_sem]) | clear hK K)
        refine i_st (by rw [gl2]; omega) rfl ?_
        rw [SL]
        repeat' ((fail_if_success with_reducible refine nph ?_); first | (with_reducible first | (refine d_seq ?_; intro K hK) | (refine hK _ _ ?_; clear hK K) | (refine SG.p ?_; try intro b) | refine r_rq (by first | decide | omega) ?_) | ((with_reducible refine SC.p ?_); refine aI ?_ ?_) <;> intro hc <;> try simp only [push_cast, seval] at hc | ((with_reducible refine SL.p ?_); first | refine ⟨_, rfl, ?_⟩ | refine ⟨_, _, _, rfl, ?_⟩ | (refine ⟨?_, rfl, ?_⟩; focus (simp; done))) | ((with_reducible first | apply i_ldn | apply i_ldnq); iterate 3 exact rfl) | ((try with_reducible refine d_reg ?_); simp only [go_sem]) | clear hK K)
        (with_reducible first | apply i_ret0 | apply i_ret2 | apply i_ret3 | apply i_ret); exact rfl
        rfl
  · rw [if_neg he] at hR
    subst hR
    repeat' (first | rw [ew] | (fail_if_success with_reducible refine nph ?_); first | (with_reducible first | (refine d_seq ?_; intro K hK) | (refine hK _ _ ?_; clear hK K) | (refine SG.p ?_; try intro b) | refine r_rq (by first | decide | omega) ?_) | ((with_reducible refine SC.p ?_); refine aI ?_ ?_) <;> intro hc <;> try simp only [push_cast, seval] at hc | ((with_reducible refine SL.p ?_); first | refine ⟨_, rfl, ?_⟩ | refine ⟨_, _, _, rfl, ?_⟩ | (refine ⟨?_, rfl, ?_⟩; focus (simp; done))) | ((with_reducible first | apply i_ldn | apply i_ldnq); iterate 3 exact rfl) | ((try with_reducible refine d_reg ?_); simp only [go_sem]) | clear hK K)
    refine i_clq AP ?_
    repeat' ((fail_if_success with_reducible refine nph ?_); first | (with_reducible first | (refine d_seq ?_; intro K hK) | (refine hK _ _ ?_; clear hK K) | (refine SG.p ?_; try intro b) | refine r_rq (by first | decide | omega) ?_) | ((with_reducible refine SC.p ?_); refine aI ?_ ?_) <;> intro hc <;> try simp only [push_cast, seval] at hc | ((with_reducible refine SL.p ?_); first | refine ⟨_, rfl, ?_⟩ | refine ⟨_, _, _, rfl, ?_⟩ | (refine ⟨?_, rfl, ?_⟩; focus (simp; done))) | ((with_reducible first | apply i_ldn | apply i_ldnq); iterate 3 exact rfl) | ((try with_reducible refine d_reg ?_); simp only [go_sem]) | clear hK K)
    all_goals try contradiction
    (with_reducible first | apply i_ret0 | apply i_ret2 | apply i_ret3 | apply i_ret); exact rfl
    rfl
theorem at_set {P : Po} {i j : Nat} {f : Fr} (hi : i < P.fs.length) : (P.mod i f).at j = if i = j then f else P.at j := by
  unfold Po.at Po.mod
  dsimp only
  rw [List.getD_eq_getElem?_getD, List.getD_eq_getElem?_getD, List.getElem?_set]
  by_cases h : i = j
  · subst h
    rw [if_pos rfl, if_pos rfl, if_pos hi]
    rfl
  · rw [if_neg h, if_neg h]
def ulk (P P' : Po) : Prop := ∀ i, i < P.fs.length → ∃ u, P'.at i = { P.at i with used := u }
theorem ulk.rf {P : Po} : ulk P P := fun i _ => ⟨(P.at i).used, rfl⟩
theorem ulk.tr {P P' P2 : Po} (a : ulk P P') (hl : P'.fs.length = P.fs.length) (b : ulk P' P2) : ulk P P2 := fun i hi => by
  obtain ⟨u, h1⟩ := a i hi
  obtain ⟨v, h2⟩ := b i (by rw [hl]; exact hi)
  exact ⟨v, by rw [h2, h1]⟩
theorem ulk_use {P : Po} {i : Nat} (hi : i < P.fs.length) (u : Bool) (h : Nat) : ulk P { P with fs := P.fs.set i { P.at i with used := u }, hand := h } := fun j hj => by
  have e : ({ P with fs := P.fs.set i { P.at i with used := u }, hand := h } : Po).at j = (P.mod i { P.at i with used := u }).at j := rfl
  rw [e, at_set hi]
  by_cases hc : i = j
  · subst hc
    exact ⟨u, if_pos rfl⟩
  · rw [if_neg hc]
    exact ⟨(P.at j).used, rfl⟩
theorem vic_ulk : ∀ (k : Nat) (P : Po), P.ok → ulk P (vic k P).2 ∧ ∀ i, (vic k P).1 = some i → (P.at i).filled = false ∨ (P.at i).pins ≤ 0
  | 0, P, h => ⟨.rf, fun i e => by cases e⟩
  | k + 1, P, h => by
    have t1 : ulk P P.turn := fun i _ => ⟨(P.at i).used, rfl⟩
    unfold vic
    split
    · rename_i h0
      exact ⟨t1, fun i e => by cases e; exact .inl h0⟩
    · split
      · obtain ⟨a, b⟩ := vic_ulk k P.turn (turn_ok h)
        exact ⟨t1.tr rfl a, fun i e => b i e⟩
      · rename_i h1
        split
        · have hl : P.like { P.turn with fs := P.fs.set P.hand { P.at P.hand with used := false } } := ⟨rfl, rfl, rfl, rfl, List.length_set⟩
          obtain ⟨a, b⟩ := vic_ulk k _ (hl.ok h (turn_ok h).h)
          obtain ⟨_, _, c⟩ := vic_like k _ (hl.ok h (turn_ok h).h)
          have t2 : ulk P { P.turn with fs := P.fs.set P.hand { P.at P.hand with used := false } } := ulk_use h.h false _
          refine ⟨t2.tr hl.n a, fun i e => ?_⟩
          have hi := c i e
          rw [hl.n] at hi
          obtain ⟨u, hu⟩ := t2 i hi
          have := b i e
          rw [hu] at this
          exact this
        · exact ⟨t1, fun i e => by cases e; exact .inr (by omega)⟩
def dst (n h j : Nat) : Nat := if h ≤ j then j - h else n + j - h
theorem vic_some : ∀ (k : Nat) (P : Po) (j : Nat), P.ok → j < P.fs.length → ((P.at j).filled = false ∨ (P.at j).pins ≤ 0) → dst P.fs.length P.hand j + (if (P.at j).used = true then P.fs.length else 0) < k → (vic k P).1 ≠ none
  | 0, P, j, h, hj, hf, hk => by omega
  | k + 1, P, j, h, hj, hf, hk => by
    have hh := h.h
    have h2 := h.n2
    have hd : ∀ x, P.hand ≠ j → dst P.fs.length ((P.hand + 1) % P.fs.length) j + 1 = dst P.fs.length P.hand j ∨ x = (0 : Nat) ∧ False := fun x hne => by
      left
      unfold dst
      rcases Nat.lt_or_ge (P.hand + 1) P.fs.length with y | y
      · rw [Nat.mod_eq_of_lt y]
        split <;> split <;> omega
      · have : P.hand + 1 = P.fs.length := by omega
        rw [this, Nat.mod_self]
        split <;> split <;> omega
    unfold vic
    split
    · simp
    · rename_i c1
      split
      · rename_i c2
        have hne : P.hand ≠ j := fun e => by
          subst e
          rcases hf with x | x
          · exact c1 x
          · omega
        refine vic_some k P.turn j (turn_ok h) hj hf ?_
        rcases hd 0 hne with x | x
        · show dst P.fs.length ((P.hand + 1) % P.fs.length) j + (if (P.at j).used = true then P.fs.length else 0) < k
          omega
        · exact x.2.elim
      · split
        · rename_i c2 c3
          have hl : P.like { P.turn with fs := P.fs.set P.hand { P.at P.hand with used := false } } := ⟨rfl, rfl, rfl, rfl, List.length_set⟩
          have e : ({ P.turn with fs := P.fs.set P.hand { P.at P.hand with used := false } } : Po).at j = if P.hand = j then { P.at P.hand with used := false } else P.at j := at_set hh
          by_cases hne : P.hand = j
          · rw [if_pos hne] at e
            subst hne
            refine vic_some k _ P.hand (hl.ok h (turn_ok h).h) (by rw [hl.n]; exact hj) (by rw [e]; exact hf) ?_
            rw [e, hl.n]
            dsimp only
            rw [if_pos c3] at hk
            have hx : dst P.fs.length ((P.hand + 1) % P.fs.length) P.hand < P.fs.length := by
              unfold dst
              rcases Nat.lt_or_ge (P.hand + 1) P.fs.length with y | y
              · rw [Nat.mod_eq_of_lt y]
                split <;> omega
              · have : P.hand + 1 = P.fs.length := by omega
                rw [this, Nat.mod_self]
                split <;> omega
            have hz : dst P.fs.length P.hand P.hand = 0 := by unfold dst; rw [if_pos (Nat.le_refl _)]; omega
            show dst P.fs.length ((P.hand + 1) % P.fs.length) P.hand + (if false = true then P.fs.length else 0) < k
            rw [if_neg (by decide)]
            omega
          · rw [if_neg hne] at e
            refine vic_some k _ j (hl.ok h (turn_ok h).h) (by rw [hl.n]; exact hj) (by rw [e]; exact hf) ?_
            rw [e, hl.n]
            rcases hd 0 hne with x | x
            · show dst P.fs.length ((P.hand + 1) % P.fs.length) j + (if (P.at j).used = true then P.fs.length else 0) < k
              omega
            · exact x.2.elim
        · simp
theorem vic_none {P : Po} (h : P.ok) (hv : (vic (2 * P.fs.length + 1) P).1 = none) {j : Nat} (hj : j < P.fs.length) : (P.at j).filled = true ∧ 0 < (P.at j).pins := by
  have hh := h.h
  have hd : dst P.fs.length P.hand j < P.fs.length := by unfold dst; split <;> omega
  by_cases hf : (P.at j).filled = false ∨ (P.at j).pins ≤ 0
  · exact absurd hv (vic_some _ P j h hj hf (by split <;> omega))
  · refine ⟨?_, by omega⟩
    cases hc : (P.at j).filled
    · exact absurd (.inl hc) hf
    · rfl
abbrev Gh.T (g : Gh) (p : Nat) : List UInt8 := g.txt.getD p []
abbrev Gh.N (g : Gh) (p : Nat) : Int := g.lsn.getD p 0
abbrev Gh.P (g : Gh) (p : Nat) : Int := g.pin.getD p 0
structure Fok (g : Gh) (p : Nat) (f : Fr) : Prop where
  id : f.id = (p : Int)
  t : f.text = g.T p
  n : f.lsn = g.N p
  p : f.pins = g.P p
  d : f.dirty = true → 1 ≤ f.first ∧ f.first ≤ f.lsn
def Rsd (P : Po) (p : Nat) : Prop := ∃ i, i < P.fs.length ∧ (P.at i).filled = true ∧ (P.at i).id = (p : Int)
def Drt (P : Po) (p : Nat) : Prop := ∃ i, i < P.fs.length ∧ (P.at i).filled = true ∧ (P.at i).id = (p : Int) ∧ (P.at i).dirty = true
structure Pv (S : St) (sb : Nat) (w : Wo) (g : Gh) : Prop where
  ok : w.ok S sb 80
  gok : g.ok
  sp : S.pages = 8
  bs : w.G.base + w.G.sectors ≤ S.base
  sec : w.G.sectors = 40
  wi : ∃ ρ, Wi w.Z sb 80 w.G ρ
  fr : ∀ i, i < w.P.fs.length → (w.P.at i).filled = true → ∃ p, p < 8 ∧ Fok g p (w.P.at i)
  un : ∀ i j, i < w.P.fs.length → j < w.P.fs.length → (w.P.at i).filled = true → (w.P.at j).filled = true → (w.P.at i).id = (w.P.at j).id → i = j
  cl : ∀ p, p < 8 → ¬ Drt w.P p → (w.Z.rpg S (p : Int) = ([], 0, 8) ∧ g.N p = 0 ∧ g.T p = []) ∨ (w.Z.rpg S (p : Int) = (g.T p, g.N p, 0) ∧ 1 ≤ g.N p ∧ g.N p ≤ (w.G.durable : Int))
  di : ∀ p, p < 8 → Drt w.P p → w.Z.rpg S (p : Int) = ([], 0, 8) ∨ ∃ t n, w.Z.rpg S (p : Int) = (t, n, 0) ∧ 1 ≤ n ∧ n ≤ (w.G.durable : Int) ∧ n < g.N p
  ls : ∀ p, p < 8 → 0 ≤ g.N p ∧ g.N p ≤ (w.G.all.length : Int)
  tx : ∀ p, p < 8 → 1 ≤ g.N p → (g.T p).length = 224
  pn : ∀ p, p < 8 → 0 ≤ g.P p ∧ (0 < g.P p → Rsd w.P p)
theorem Fok.use {g : Gh} {p : Nat} {f : Fr} (h : Fok g p f) (u : Bool) : Fok g p { f with used := u } := ⟨h.id, h.t, h.n, h.p, h.d⟩
theorem Rsd.ul {P P' : Po} (h : ulk P P') (hl : P'.fs.length = P.fs.length) (p : Nat) : Rsd P' p ↔ Rsd P p := by
  constructor
  · rintro ⟨i, h1, h2, h3⟩
    rw [hl] at h1
    obtain ⟨u, hu⟩ := h i h1
    rw [hu] at h2 h3
    exact ⟨i, h1, h2, h3⟩
  · rintro ⟨i, h1, h2, h3⟩
    obtain ⟨u, hu⟩ := h i h1
    exact ⟨i, by rw [hl]; exact h1, by rw [hu]; exact h2, by rw [hu]; exact h3⟩
theorem Drt.ul {P P' : Po} (h : ulk P P') (hl : P'.fs.length = P.fs.length) (p : Nat) : Drt P' p ↔ Drt P p := by
  constructor
  · rintro ⟨i, h1, h2, h3, h4⟩
    rw [hl] at h1
    obtain ⟨u, hu⟩ := h i h1
    rw [hu] at h2 h3 h4
    exact ⟨i, h1, h2, h3, h4⟩
  · rintro ⟨i, h1, h2, h3, h4⟩
    obtain ⟨u, hu⟩ := h i h1
    exact ⟨i, by rw [hl]; exact h1, by rw [hu]; exact h2, by rw [hu]; exact h3, by rw [hu]; exact h4⟩
theorem Pv.ul {S : St} {sb : Nat} {w : Wo} {g : Gh} (h : Pv S sb w g) {P' : Po} (l : w.P.like P') (hh : P'.hand < w.P.fs.length) (u : ulk w.P P') : Pv S sb ⟨P', w.G, w.Z⟩ g := by
  have hn := l.n
  refine ⟨h.ok.mvP l hh, h.gok, h.sp, h.bs, h.sec, h.wi, fun i h1 h2 => ?_, fun i j h1 h2 h3 h4 h5 => ?_, fun p hp hd => h.cl p hp (fun x => hd ((Drt.ul u hn p).2 x)), fun p hp hd => h.di p hp ((Drt.ul u hn p).1 hd), h.ls, h.tx, fun p hp => ⟨(h.pn p hp).1, fun x => (Rsd.ul u hn p).2 ((h.pn p hp).2 x)⟩⟩
  · dsimp only at h1 h2 ⊢
    rw [hn] at h1
    obtain ⟨v, hv⟩ := u i h1
    rw [hv] at h2 ⊢
    obtain ⟨p, hp, hf⟩ := h.fr i h1 h2
    exact ⟨p, hp, hf.use v⟩
  · dsimp only at h1 h2 h3 h4 h5
    rw [hn] at h1 h2
    obtain ⟨v, hv⟩ := u i h1
    obtain ⟨v', hv'⟩ := u j h2
    rw [hv] at h3 h5
    rw [hv'] at h4 h5
    exact h.un i j h1 h2 h3 h4 h5
theorem cln_at {P : Po} {i : Nat} (hi : i < P.fs.length) (j : Nat) : (P.cln i).at j = if i = j then { P.at i with dirty := false, first := 0 } else P.at j := at_set hi
theorem Pv.save {S : St} {sb : Nat} {w : Wo} {g : Gh} (h : Pv S sb w g) {i : Nat} (hi : i < w.P.fs.length) (hf : (w.P.at i).filled = true) :
    (svp S w i).1 = 0 ∧ Pv S sb (svp S w i).2 g ∧ w.P.like (svp S w i).2.P ∧ ((svp S w i).2.P.at i).filled = true ∧ ((svp S w i).2.P.at i).dirty = false ∧ ((svp S w i).2.P.at i).pins = (w.P.at i).pins ∧
      (∀ p, Rsd (svp S w i).2.P p ↔ Rsd w.P p) ∧ (svp S w i).2.G.all = w.G.all ∧ ∀ j, j ≠ i → (svp S w i).2.P.at j = w.P.at j := by
  cases hd : (w.P.at i).dirty
  · have e : svp S w i = (0, w) := by unfold svp; rw [if_pos hd]
    rw [e]
    exact ⟨rfl, h, .rfl', hf, hd, rfl, fun p => Iff.rfl, rfl, fun j _ => rfl⟩
  · obtain ⟨p, hp, F⟩ := h.fr i hi hf
    obtain ⟨ρ, hW⟩ := h.wi
    obtain ⟨d1, d2⟩ := F.d hd
    have hn1 : 1 ≤ g.N p := by rw [← F.n]; omega
    have hls := h.ls p hp
    obtain ⟨Y, ρ', d, e, W2, dd, dl, r1, r2⟩ := svp_calm h.ok hW h.bs hi F.id (by rw [h.sp]; exact hp) hd (by rw [F.t]; exact h.tx p hp hn1) (by omega) (by rw [F.n]; exact hls.2)
    have sok := (svp_ok h.ok hi).1
    rw [e] at sok ⊢
    have ca := cln_at hi
    have hlen : (w.P.cln i).fs.length = w.P.fs.length := List.length_set
    have hD : ∀ q, q ≠ p → (Drt (w.P.cln i) q ↔ Drt w.P q) := fun q hq => by
      constructor
      · rintro ⟨j, h1, h2, h3, h4⟩
        rw [hlen] at h1
        rw [ca] at h2 h3 h4
        by_cases hj : i = j
        · rw [if_pos hj] at h4
          cases h4
        · rw [if_neg hj] at h2 h3 h4
          exact ⟨j, h1, h2, h3, h4⟩
      · rintro ⟨j, h1, h2, h3, h4⟩
        have hj : ¬ i = j := fun x => by
          subst x
          rw [F.id] at h3
          omega
        exact ⟨j, by rw [hlen]; exact h1, by rw [ca, if_neg hj]; exact h2, by rw [ca, if_neg hj]; exact h3, by rw [ca, if_neg hj]; exact h4⟩
    have hDp : ¬ Drt (w.P.cln i) p := by
      rintro ⟨j, h1, h2, h3, h4⟩
      rw [hlen] at h1
      rw [ca] at h2 h3 h4
      by_cases hj : i = j
      · rw [if_pos hj] at h4
        cases h4
      · rw [if_neg hj] at h2 h3 h4
        exact hj (h.un i j hi h1 hf h2 (by rw [F.id, h3]))
    have hR : ∀ q, Rsd (w.P.cln i) q ↔ Rsd w.P q := fun q => by
      constructor
      · rintro ⟨j, h1, h2, h3⟩
        rw [hlen] at h1
        rw [ca] at h2 h3
        by_cases hj : i = j
        · rw [if_pos hj] at h3
          exact ⟨i, hi, hf, h3⟩
        · rw [if_neg hj] at h2 h3
          exact ⟨j, h1, h2, h3⟩
      · rintro ⟨j, h1, h2, h3⟩
        by_cases hj : i = j
        · exact ⟨i, by rw [hlen]; exact hi, by rw [ca, if_pos rfl]; exact hf, by rw [ca, if_pos rfl]; rw [hj]; exact h3⟩
        · exact ⟨j, by rw [hlen]; exact h1, by rw [ca, if_neg hj]; exact h2, by rw [ca, if_neg hj]; exact h3⟩
    have hat : (w.P.cln i).at i = { w.P.at i with dirty := false, first := 0 } := by rw [ca, if_pos rfl]
    refine ⟨rfl, ⟨sok, h.gok, h.sp, h.bs, h.sec, ⟨ρ', W2⟩, fun j h1 h2 => ?_, fun a b h1 h2 h3 h4 h5 => ?_, fun q hq hd' => ?_, fun q hq hd' => ?_, h.ls, h.tx, fun q hq => ⟨(h.pn q hq).1, fun x => (hR q).2 ((h.pn q hq).2 x)⟩⟩, ⟨rfl, rfl, rfl, rfl, hlen⟩, by dsimp only; rw [hat]; exact hf, by dsimp only; rw [hat], by dsimp only; rw [hat], hR, rfl, fun j hj => by dsimp only; rw [ca, if_neg (fun x => hj x.symm)]⟩
    · dsimp only at h1 h2 ⊢
      rw [hlen] at h1
      rw [ca] at h2 ⊢
      by_cases hj : i = j
      · rw [if_pos hj]
        exact ⟨p, hp, F.id, F.t, F.n, F.p, fun x => by cases x⟩
      · rw [if_neg hj] at h2 ⊢
        exact h.fr j h1 h2
    · dsimp only at h1 h2 h3 h4 h5
      rw [hlen] at h1 h2
      rw [ca] at h3 h5
      rw [ca] at h4 h5
      have key : ∀ x, (if i = x then { w.P.at i with dirty := false, first := 0 } else w.P.at x).filled = (w.P.at x).filled ∧ (if i = x then { w.P.at i with dirty := false, first := 0 } else w.P.at x).id = (w.P.at x).id := fun x => by
        by_cases hx : i = x
        · rw [if_pos hx, ← hx]
          exact ⟨rfl, rfl⟩
        · rw [if_neg hx]
          exact ⟨rfl, rfl⟩
      rw [(key a).1] at h3
      rw [(key b).1] at h4
      rw [(key a).2, (key b).2] at h5
      exact h.un a b h1 h2 h3 h4 h5
    · dsimp only at hd' ⊢
      by_cases hqp : q = p
      · subst hqp
        right
        refine ⟨by rw [r1, F.t, F.n], hn1, ?_⟩
        rw [← F.n]
        exact dl
      · rw [r2 q (by rw [h.sp]; exact hq) hqp]
        rcases h.cl q hq (fun x => hd' ((hD q hqp).2 x)) with x | ⟨x, y, z⟩
        · exact .inl x
        · exact .inr ⟨x, y, by omega⟩
    · dsimp only at hd' ⊢
      have hqp : q ≠ p := fun x => by subst x; exact hDp hd'
      rw [r2 q (by rw [h.sp]; exact hq) hqp]
      rcases h.di q hq ((hD q hqp).1 hd') with x | ⟨t, n, x, y, z, u⟩
      · exact .inl x
      · exact .inr ⟨t, n, x, y, by omega, u⟩
theorem put_at {P : Po} {i : Nat} {f : Fr} (hi : i < P.fs.length) (j : Nat) : (P.put i f).at j = if i = j then f else P.at j := at_set hi
theorem Pv.put {S : St} {sb : Nat} {w : Wo} {g : Gh} (h : Pv S sb w g) {i : Nat} (hi : i < w.P.fs.length) (hc : (w.P.at i).filled = false ∨ ((w.P.at i).dirty = false ∧ (w.P.at i).pins ≤ 0)) {p : Nat} (hp : p < 8) (hr : ¬ Rsd w.P p) :
    Pv S sb ⟨w.P.put i (nfr (w.Z.rpg S (p : Int)) (p : Int)), w.G, w.Z⟩ g ∧ w.P.like (w.P.put i (nfr (w.Z.rpg S (p : Int)) (p : Int))) := by
  have hnd : ¬ Drt w.P p := fun ⟨j, a, b, c, _⟩ => hr ⟨j, a, b, c⟩
  have hcl := h.cl p hp hnd
  have hpn := h.pn p hp
  have hT : (w.Z.rpg S (p : Int)).1 = g.T p := by
    rcases hcl with ⟨e, _, e2⟩ | ⟨e, _, _⟩
    · rw [e, e2]
    · rw [e]
  have hN : (w.Z.rpg S (p : Int)).2.1 = g.N p := by
    rcases hcl with ⟨e, e2, _⟩ | ⟨e, _, _⟩
    · rw [e, e2]
    · rw [e]
  have hP : g.P p = 0 := by
    rcases Int.lt_or_le 0 (g.P p) with x | x
    · exact absurd (hpn.2 x) hr
    · omega
  generalize w.Z.rpg S (p : Int) = r at hT hN
  have hl : w.P.like (w.P.put i (nfr r (p : Int))) := ⟨rfl, rfl, rfl, rfl, List.length_set⟩
  have hlen := hl.n
  have pa := put_at (f := nfr r (p : Int)) hi
  have F : Fok g p (nfr r (p : Int)) := ⟨rfl, hT, hN, hP.symm, fun x => by cases x⟩
  have other : ∀ j, i ≠ j → (w.P.put i (nfr r (p : Int))).at j = w.P.at j := fun j hj => by rw [pa, if_neg hj]
  have self : (w.P.put i (nfr r (p : Int))).at i = nfr r (p : Int) := by rw [pa, if_pos rfl]
  have hhd : (w.P.put i (nfr r (p : Int))).hand < w.P.fs.length := h.ok.p.h
  generalize w.P.put i (nfr r (p : Int)) = P' at *
  have hD : ∀ q, Drt P' q ↔ Drt w.P q := fun q => by
    constructor
    · rintro ⟨j, h1, h2, h3, h4⟩
      rw [hlen] at h1
      by_cases hj : i = j
      · subst hj
        rw [self] at h4
        cases h4
      · rw [other j hj] at h2 h3 h4
        exact ⟨j, h1, h2, h3, h4⟩
    · rintro ⟨j, h1, h2, h3, h4⟩
      have hj : i ≠ j := fun x => by
        subst x
        rcases hc with c | c
        · rw [c] at h2; cases h2
        · rw [c.1] at h4; cases h4
      exact ⟨j, by rw [hlen]; exact h1, by rw [other j hj]; exact h2, by rw [other j hj]; exact h3, by rw [other j hj]; exact h4⟩
  refine ⟨⟨h.ok.mvP hl ?_, h.gok, h.sp, h.bs, h.sec, h.wi, fun j h1 h2 => ?_, fun a b h1 h2 h3 h4 h5 => ?_, fun q hq hd => h.cl q hq (fun x => hd ((hD q).2 x)), fun q hq hd => h.di q hq ((hD q).1 hd), h.ls, h.tx, fun q hq => ⟨(h.pn q hq).1, fun x => ?_⟩⟩, hl⟩
  · exact hhd
  · dsimp only at h1 h2 ⊢
    rw [hlen] at h1
    by_cases hj : i = j
    · subst hj
      rw [self]
      exact ⟨p, hp, F⟩
    · rw [other j hj] at h2 ⊢
      exact h.fr j h1 h2
  · dsimp only at h1 h2 h3 h4 h5
    rw [hlen] at h1 h2
    by_cases ha : i = a
    · by_cases hb : i = b
      · omega
      · subst ha
        rw [other b hb] at h4 h5
        rw [self] at h5
        exact absurd ⟨b, h2, h4, h5.symm⟩ hr
    · by_cases hb : i = b
      · subst hb
        rw [other a ha] at h3 h5
        rw [self] at h5
        exact absurd ⟨a, h1, h3, h5⟩ hr
      · rw [other a ha] at h3 h5
        rw [other b hb] at h4 h5
        exact h.un a b h1 h2 h3 h4 h5
  · obtain ⟨j, h1, h2, h3⟩ := (h.pn q hq).2 x
    have hj : i ≠ j := fun y => by
      subst y
      rcases hc with c | c
      · rw [c] at h2; cases h2
      · obtain ⟨q', hq', F'⟩ := h.fr i h1 h2
        have : q' = q := by have := F'.id; omega
        subst this
        have := F'.p
        omega
    exact ⟨j, by dsimp only; rw [hlen]; exact h1, by dsimp only; rw [other j hj]; exact h2, by dsimp only; rw [other j hj]; exact h3⟩
theorem fndf_none (id : Int) : ∀ (fs : List Fr) (a : Nat), fndf id fs a = none → ∀ (i : Nat) (f : Fr), fs[i]? = some f → ¬ (f.filled = true ∧ f.id = id)
  | [], a, h, i, f, hf => by simp at hf
  | x :: r, a, h, i, f, hf => by
    unfold fndf at h
    by_cases hc : x.filled = true ∧ x.id = id
    · rw [if_pos hc] at h; cases h
    · rw [if_neg hc] at h
      cases i with
      | zero =>
        obtain rfl : x = f := by simpa using hf
        exact hc
      | succ i => exact fndf_none id r (a + 1) h i f (by simpa using hf)
theorem find_none {P : Po} {p : Nat} (h : P.find (p : Int) = none) : ¬ Rsd P p := fun ⟨i, h1, h2, h3⟩ => fndf_none _ _ _ h i _ (at_get h1) ⟨h2, h3⟩
theorem find_some {P : Po} {id : Int} {i : Nat} (h : P.find id = some i) : i < P.fs.length ∧ (P.at i).filled = true ∧ (P.at i).id = id := by
  obtain ⟨_, h2, f, h3, h4, h5⟩ := fndf_lt _ _ _ _ h
  have hi := find_lt h
  have e := at_get hi
  rw [Nat.sub_zero] at h3
  rw [e] at h3
  obtain rfl : P.at i = f := by simpa using h3
  exact ⟨hi, h4, h5⟩
theorem Pv.hold {S : St} {sb : Nat} {w : Wo} {g : Gh} (h : Pv S sb w g) {p : Nat} (hp : p < 8) : Pv S sb (hld S w (p : Int)).2 g ∧ (hld S w (p : Int)).2.G.all = w.G.all ∧ (hld S w (p : Int)).2.P.fs.length = w.P.fs.length ∧
    ((∃ i, (hld S w (p : Int)).1 = (some i, 0) ∧ i < w.P.fs.length ∧ ((hld S w (p : Int)).2.P.at i).filled = true ∧ ((hld S w (p : Int)).2.P.at i).id = (p : Int)) ∨
      ((hld S w (p : Int)).1 = (none, 7) ∧ ∀ j, j < w.P.fs.length → ((hld S w (p : Int)).2.P.at j).filled = true ∧ 0 < ((hld S w (p : Int)).2.P.at j).pins)) := by
  have hok := h.ok.p
  unfold hld
  cases hf : w.P.find (p : Int) with
  | some i =>
    obtain ⟨h1, h2, h3⟩ := find_some hf
    have l : w.P.like (w.P.use i) := ⟨rfl, rfl, rfl, rfl, List.length_set⟩
    have u : ulk w.P (w.P.use i) := ulk_use h1 true w.P.hand
    have e : (w.P.use i).at i = { w.P.at i with used := true } := by
      have := at_set (f := { w.P.at i with used := true }) (j := i) h1
      rw [if_pos rfl] at this
      exact this
    refine ⟨h.ul l hok.h u, rfl, l.n, .inl ⟨i, rfl, h1, ?_, ?_⟩⟩
    · dsimp only; rw [e]; exact h2
    · dsimp only; rw [e]; exact h3
  | none =>
    have hr := find_none hf
    have hnd : ¬ Drt w.P p := fun ⟨j, a, b, c, _⟩ => hr ⟨j, a, b, c⟩
    have he : (w.Z.rpg S (p : Int)).2.2 = 0 ∨ (w.Z.rpg S (p : Int)).2.2 = 8 := by
      rcases h.cl p hp hnd with ⟨e, _⟩ | ⟨e, _⟩
      · rw [e]; exact .inr rfl
      · rw [e]; exact .inl rfl
    dsimp only
    unfold hl1
    rw [if_neg (by omega)]
    obtain ⟨v1, v2, v3⟩ := vic_like (2 * w.P.fs.length + 1) w.P hok
    obtain ⟨v4, v5⟩ := vic_ulk (2 * w.P.fs.length + 1) w.P hok
    have v6 := fun hv j hj => vic_none (P := w.P) hok hv (j := j) hj
    generalize vic (2 * w.P.fs.length + 1) w.P = v at *
    obtain ⟨o, V⟩ := v
    dsimp only at v1 v2 v3 v4 v5 v6
    have hV : Pv S sb ⟨V, w.G, w.Z⟩ g := h.ul v1 (by have := v2.h; rw [v1.n] at this; exact this) v4
    have hrV : ¬ Rsd V p := fun x => hr ((Rsd.ul v4 v1.n p).1 x)
    unfold hl2
    cases o with
    | none =>
      refine ⟨hV, rfl, v1.n, .inr ⟨rfl, fun j hj => ?_⟩⟩
      obtain ⟨u, hu⟩ := v4 j hj
      dsimp only
      rw [hu]
      exact v6 rfl j hj
    | some i =>
      have hi := v3 i rfl
      have hiV : i < V.fs.length := by rw [v1.n]; exact hi
      obtain ⟨u, hu⟩ := v4 i hi
      have hc0 : (V.at i).filled = false ∨ (V.at i).pins ≤ 0 := by rw [hu]; exact v5 i rfl
      dsimp only
      by_cases c5 : (V.at i).filled = true
      · rw [if_pos c5]
        obtain ⟨s1, s2, s3, s4, s5, s6, s7, s8, s9⟩ := hV.save (i := i) hiV c5
        have hz : (svp S ⟨V, w.G, w.Z⟩ i).2.Z.rpg S (p : Int) = w.Z.rpg S (p : Int) := by
          have hnd2 : ¬ Drt (svp S ⟨V, w.G, w.Z⟩ i).2.P p := fun ⟨j, a, b, c, _⟩ => hrV ((s7 p).1 ⟨j, a, b, c⟩)
          rcases s2.cl p hp hnd2 with ⟨e, e1, e2⟩ | ⟨e, e1, e2⟩
          · rcases h.cl p hp hnd with ⟨f, f1, f2⟩ | ⟨f, f1, f2⟩
            · rw [e, f]
            · omega
          · rcases h.cl p hp hnd with ⟨f, f1, f2⟩ | ⟨f, f1, f2⟩
            · omega
            · rw [e, f]
        generalize svp S ⟨V, w.G, w.Z⟩ i = sv at *
        obtain ⟨e2, w2⟩ := sv
        dsimp only at s1 s2 s3 s4 s5 s6 s7 s8 s9 hz ⊢
        subst s1
        rw [if_pos rfl]
        have hi2 : i < w2.P.fs.length := by rw [s3.n]; exact hiV
        have hpi : (w2.P.at i).pins ≤ 0 := by
          rw [s6]
          rcases hc0 with x | x
          · rw [x] at c5; cases c5
          · exact x
        obtain ⟨q1, q2⟩ := s2.put hi2 (.inr ⟨s5, hpi⟩) hp (fun x => hrV ((s7 p).1 x))
        rw [hz] at q1 q2
        have pa := put_at (f := nfr (w.Z.rpg S (p : Int)) (p : Int)) hi2 i
        rw [if_pos rfl] at pa
        refine ⟨q1, s8, q2.n.trans (s3.n.trans v1.n), .inl ⟨i, rfl, hi, ?_, ?_⟩⟩
        · dsimp only; rw [pa]
        · dsimp only; rw [pa]
      · have c5' : (V.at i).filled = false := by simpa using c5
        rw [if_neg c5]
        obtain ⟨q1, q2⟩ := hV.put hiV (.inl c5') hp hrV
        have pa := put_at (f := nfr (w.Z.rpg S (p : Int)) (p : Int)) hiV i
        rw [if_pos rfl] at pa
        refine ⟨q1, rfl, q2.n.trans v1.n, .inl ⟨i, rfl, hi, ?_, ?_⟩⟩
        · dsimp only; rw [pa]
        · dsimp only; rw [pa]
theorem Pv.hold_out {S : St} {sb : Nat} {w : Wo} {g : Gh} (h : Pv S sb w g) {id : Int} (hid : id < 0 ∨ 8 ≤ id) : hld S w id = ((none, 6), w) := by
  have hsp := h.sp
  have hc : S.chk id = 6 := by unfold St.chk; rw [if_pos (by omega)]
  have hr : w.Z.rpg S id = ([], 0, 6) := by unfold Dk.rpg; rw [if_neg (by rw [hc]; decide)]
  unfold hld
  cases hf : w.P.find id with
  | some i =>
    obtain ⟨h1, h2, h3⟩ := find_some hf
    obtain ⟨p, hp, F⟩ := h.fr i h1 h2
    have := F.id
    omega
  | none =>
    dsimp only
    unfold hl1
    rw [hr, if_pos (by decide)]
theorem Pv.app {S : St} {sb : Nat} {w : Wo} {g : Gh} (h : Pv S sb w g) (c : Rc) : Pv S sb ⟨w.P, (w.G.append c).2, w.Z⟩ g := by
  obtain ⟨ρ, hW⟩ := h.wi
  obtain ⟨a1, a2⟩ := append_okG h.ok.g c
  have hA := hW.app c
  have e : (w.G.append c).2 = { w.G with all := (w.G.append c).2.all } ∧ w.G.all.length ≤ (w.G.append c).2.all.length := by
    rw [append_is hW.dead]
    split
    · split
      · exact ⟨rfl, by dsimp only; rw [List.length_append]; omega⟩
      · exact ⟨rfl, Nat.le_refl _⟩
    · exact ⟨rfl, Nat.le_refl _⟩
  obtain ⟨e1, e2⟩ := e
  generalize (w.G.append c).2 = G2 at *
  have eb : G2.base = w.G.base := by rw [e1]
  have es : G2.sectors = w.G.sectors := by rw [e1]
  have ed : G2.durable = w.G.durable := by rw [e1]
  refine ⟨⟨h.ok.p, h.ok.z, h.ok.sb, h.ok.nn, a1, h.ok.s, h.ok.st, h.ok.lg.trans a2.symm⟩, h.gok, h.sp, by dsimp only; rw [eb, es]; exact h.bs, es.trans h.sec, ⟨ρ, hA⟩, h.fr, h.un, by dsimp only; rw [ed]; exact h.cl, by dsimp only; rw [ed]; exact h.di, fun p hp => ⟨(h.ls p hp).1, ?_⟩, h.tx, h.pn⟩
  have := (h.ls p hp).2
  dsimp only
  omega
theorem put_T {g : Gh} (hg : g.ok) {p : Nat} (hp : p < 8) (t : List UInt8) (n : Int) (q : Nat) : (g.put p t n).T q = if p = q then t else g.T q := by
  have := hg.t
  unfold Gh.T Gh.put
  dsimp only
  rw [List.getD_eq_getElem?_getD, List.getD_eq_getElem?_getD, List.getElem?_set]
  by_cases h : p = q
  · rw [if_pos h, if_pos h, if_pos (by omega)]
    rfl
  · rw [if_neg h, if_neg h]
theorem put_N {g : Gh} (hg : g.ok) {p : Nat} (hp : p < 8) (t : List UInt8) (n : Int) (q : Nat) : (g.put p t n).N q = if p = q then n else g.N q := by
  have := hg.l
  unfold Gh.N Gh.put
  dsimp only
  rw [List.getD_eq_getElem?_getD, List.getD_eq_getElem?_getD, List.getElem?_set]
  by_cases h : p = q
  · rw [if_pos h, if_pos h, if_pos (by omega)]
    rfl
  · rw [if_neg h, if_neg h]
theorem Pv.turn {S : St} {sb : Nat} {w : Wo} {g : Gh} (h : Pv S sb w g) {p i : Nat} (hp : p < 8) (hi : i < w.P.fs.length) (hf : (w.P.at i).filled = true) (hid : (w.P.at i).id = (p : Int)) {text : List UInt8} (ht : text.length = 224) {lsn : Int} (h1 : 1 ≤ lsn) (hN : g.N p < lsn) (hl : lsn ≤ (w.G.all.length : Int)) :
    Pv S sb ⟨w.P.mod i (sfr (w.P.at i) text lsn), w.G, w.Z⟩ (g.put p text lsn) ∧ Drt (w.P.mod i (sfr (w.P.at i) text lsn)) p := by
  obtain ⟨p', hp', F⟩ := h.fr i hi hf
  have : p' = p := by have := F.id; omega
  subst this
  have ma := fun j => at_set (f := sfr (w.P.at i) text lsn) (j := j) hi
  have hl' := mod_like w.P i (sfr (w.P.at i) text lsn)
  have hlen := hl'.n
  have hhd : (w.P.mod i (sfr (w.P.at i) text lsn)).hand < w.P.fs.length := h.ok.p.h
  have self : (w.P.mod i (sfr (w.P.at i) text lsn)).at i = sfr (w.P.at i) text lsn := by rw [ma, if_pos rfl]
  have other : ∀ j, i ≠ j → (w.P.mod i (sfr (w.P.at i) text lsn)).at j = w.P.at j := fun j hj => by rw [ma, if_neg hj]
  have pT := put_T h.gok hp text lsn
  have pN := put_N h.gok hp text lsn
  have hdD : ∀ q, p' ≠ q → (Drt (w.P.mod i (sfr (w.P.at i) text lsn)) q ↔ Drt w.P q) := fun q hq => by
    constructor
    · rintro ⟨j, a, b, c, d⟩
      rw [hlen] at a
      by_cases hj : i = j
      · subst hj
        rw [self] at c
        have : (w.P.at i).id = (q : Int) := c
        omega
      · rw [other j hj] at b c d
        exact ⟨j, a, b, c, d⟩
    · rintro ⟨j, a, b, c, d⟩
      have hj : i ≠ j := fun x => by subst x; omega
      exact ⟨j, by rw [hlen]; exact a, by rw [other j hj]; exact b, by rw [other j hj]; exact c, by rw [other j hj]; exact d⟩
  have hdr : Drt (w.P.mod i (sfr (w.P.at i) text lsn)) p' := ⟨i, by rw [hlen]; exact hi, by rw [self]; exact hf, by rw [self]; exact hid, by rw [self]; rfl⟩
  have hR : ∀ q, Rsd w.P q → Rsd (w.P.mod i (sfr (w.P.at i) text lsn)) q := by
    rintro q ⟨j, a, b, c⟩
    by_cases hj : i = j
    · subst hj
      exact ⟨i, by rw [hlen]; exact hi, by rw [self]; exact hf, by rw [self]; exact c⟩
    · exact ⟨j, by rw [hlen]; exact a, by rw [other j hj]; exact b, by rw [other j hj]; exact c⟩
  have Fn : Fok (g.put p' text lsn) p' (sfr (w.P.at i) text lsn) := by
    refine ⟨hid, by rw [pT, if_pos rfl]; rfl, by rw [pN, if_pos rfl]; rfl, F.p, fun _ => ?_⟩
    show 1 ≤ (if (w.P.at i).dirty then (w.P.at i).first else lsn) ∧ (if (w.P.at i).dirty then (w.P.at i).first else lsn) ≤ lsn
    cases hd : (w.P.at i).dirty
    · simp only [Bool.false_eq_true, if_false]; omega
    · obtain ⟨a, b⟩ := F.d hd
      have := F.n
      simp only [if_true]
      omega
  generalize w.P.mod i (sfr (w.P.at i) text lsn) = P' at *
  generalize sfr (w.P.at i) text lsn = f' at *
  refine ⟨⟨h.ok.mvP hl' hhd, Gh.put_ok h.gok _ _ _, h.sp, h.bs, h.sec, h.wi, fun j a b => ?_, fun a b c1 c2 c3 c4 c5 => ?_, fun q hq hd => ?_, fun q hq hd => ?_, fun q hq => ?_, fun q hq hx => ?_, fun q hq => ⟨(h.pn q hq).1, fun x => hR q ((h.pn q hq).2 x)⟩⟩, hdr⟩
  · dsimp only at a b ⊢
    rw [hlen] at a
    by_cases hj : i = j
    · subst hj
      rw [self]
      exact ⟨p', hp, Fn⟩
    · rw [other j hj] at b ⊢
      obtain ⟨q, hq, Fq⟩ := h.fr j a b
      have hqp : p' ≠ q := fun x => by
        subst x
        exact hj (h.un i j hi a hf b (by rw [hid, Fq.id]))
      exact ⟨q, hq, Fq.id, by rw [pT, if_neg hqp]; exact Fq.t, by rw [pN, if_neg hqp]; exact Fq.n, Fq.p, Fq.d⟩
  · dsimp only at c1 c2 c3 c4 c5
    rw [hlen] at c1 c2
    have key : ∀ x, x < w.P.fs.length → (P'.at x).filled = true → (w.P.at x).filled = true ∧ (P'.at x).id = (w.P.at x).id := fun x hx hfx => by
      by_cases hj : i = x
      · subst hj
        exact ⟨hf, by rw [self, Fn.id, hid]⟩
      · rw [other x hj] at hfx ⊢
        exact ⟨hfx, rfl⟩
    obtain ⟨k1, k2⟩ := key a c1 c3
    obtain ⟨k3, k4⟩ := key b c2 c4
    exact h.un a b c1 c2 k1 k3 (by rw [← k2, ← k4]; exact c5)
  · dsimp only at hd ⊢
    have hqp : p' ≠ q := fun x => by subst x; exact hd hdr
    rw [pT, pN, if_neg hqp, if_neg hqp]
    exact h.cl q hq (fun x => hd ((hdD q hqp).2 x))
  · dsimp only at hd ⊢
    by_cases hqp : p' = q
    · subst hqp
      rw [pN, if_pos rfl]
      by_cases hD : Drt w.P p'
      · rcases h.di p' hp hD with x | ⟨t, n, x, y, z, u⟩
        · exact .inl x
        · exact .inr ⟨t, n, x, y, z, by omega⟩
      · rcases h.cl p' hp hD with ⟨x, _⟩ | ⟨x, y, z⟩
        · exact .inl x
        · exact .inr ⟨_, _, x, y, z, hN⟩
    · rw [pN, if_neg hqp]
      exact h.di q hq ((hdD q hqp).1 hd)
  · rw [pN]
    by_cases hqp : p' = q
    · rw [if_pos hqp]
      exact ⟨by omega, hl⟩
    · rw [if_neg hqp]
      exact h.ls q hq
  · rw [pT]
    rw [pN] at hx
    by_cases hqp : p' = q
    · rw [if_pos hqp]
      exact ht
    · rw [if_neg hqp] at hx ⊢
      exact h.tx q hq hx
theorem npn_mono (l : List Int) (i : Nat) : npn l i ≤ npn l (i + 1) := by
  show _ ≤ (if 0 < l.getD i 0 then npn l i + 1 else npn l i)
  split <;> omega
theorem npn_up (l : List Int) {i : Nat} (h : 0 < l.getD i 0) : npn l (i + 1) = npn l i + 1 := if_pos h
theorem npn_le2 (l : List Int) {i : Nat} : ∀ {j : Nat}, i ≤ j → npn l i ≤ npn l j
  | 0, h => by
    obtain rfl : i = 0 := by omega
    exact Nat.le_refl _
  | j + 1, h => by
    rcases Nat.lt_or_ge i (j + 1) with x | x
    · exact Nat.le_trans (npn_le2 l (by omega : i ≤ j)) (npn_mono l j)
    · obtain rfl : i = j + 1 := by omega
      exact Nat.le_refl _
theorem npn_two {l : List Int} {a b : Nat} (ha : 0 < l.getD a 0) (hb : 0 < l.getD b 0) (hab : a < b) (h8 : b < 8) : 2 ≤ npn l 8 := by
  have h1 := npn_up l ha
  have h2 := npn_up l hb
  have h3 := npn_le2 l (by omega : a + 1 ≤ b)
  have h4 := npn_le2 l (by omega : b + 1 ≤ 8)
  omega
theorem Pv.full {S : St} {sb : Nat} {w : Wo} {g : Gh} (h : Pv S sb w g) (ha : ∀ j, j < w.P.fs.length → (w.P.at j).filled = true ∧ 0 < (w.P.at j).pins) : 2 ≤ npn g.pin 8 := by
  have h2 := h.ok.p.n2
  obtain ⟨a1, a2⟩ := ha 0 (by omega)
  obtain ⟨b1, b2⟩ := ha 1 (by omega)
  obtain ⟨p, hp, F⟩ := h.fr 0 (by omega) a1
  obtain ⟨q, hq, G⟩ := h.fr 1 (by omega) b1
  have e1 := F.p
  have e2 := G.p
  have hne : p ≠ q := fun x => by
    subst x
    have := h.un 0 1 (by omega) (by omega) a1 b1 (by rw [F.id, G.id])
    omega
  rcases Nat.lt_or_ge p q with x | x
  · exact npn_two (a := p) (b := q) (by show 0 < g.P p; omega) (by show 0 < g.P q; omega) x hq
  · exact npn_two (a := q) (b := p) (by show 0 < g.P q; omega) (by show 0 < g.P p; omega) (by omega) hp
theorem fl_224 (c : UInt8) : (fl c).length = 224 := List.length_replicate
theorem Pv.wset {S : St} {sb : Nat} {w : Wo} {g : Gh} (h : Pv S sb w g) {p : Nat} (hp : p < 8) {text : List UInt8} (ht : text.length = 224) {lsn : Int} (h1 : 1 ≤ lsn) (hN : g.N p < lsn) (hl : lsn ≤ (w.G.all.length : Int)) :
    (wset S w (p : Int) text lsn).2.G.all = w.G.all ∧ (wset S w (p : Int) text lsn).2.P.fs.length = w.P.fs.length ∧
    (((wset S w (p : Int) text lsn).1 = 0 ∧ Pv S sb (wset S w (p : Int) text lsn).2 (g.put p text lsn) ∧ Drt (wset S w (p : Int) text lsn).2.P p) ∨
    ((wset S w (p : Int) text lsn).1 = 7 ∧ Pv S sb (wset S w (p : Int) text lsn).2 g ∧ ∀ j, j < w.P.fs.length → ((wset S w (p : Int) text lsn).2.P.at j).filled = true ∧ 0 < ((wset S w (p : Int) text lsn).2.P.at j).pins)) := by
  obtain ⟨a1, a2, a3, a4⟩ := h.hold hp
  unfold Go.Sp.wset
  rw [if_neg (by omega), if_neg (by omega)]
  generalize hld S w (p : Int) = r at *
  obtain ⟨⟨o, e⟩, w2⟩ := r
  dsimp only at a1 a2 a3 a4
  rcases a4 with ⟨i, b1, b2, b3, b4⟩ | ⟨b1, b2⟩
  · obtain ⟨rfl, rfl⟩ := Prod.mk.inj b1
    obtain ⟨t1, t2⟩ := a1.turn hp (i := i) (by rw [a3]; exact b2) b3 b4 ht h1 hN (by rw [a2]; exact hl)
    exact ⟨a2, (mod_like _ _ _).n.trans a3, .inl ⟨rfl, t1, t2⟩⟩
  · obtain ⟨rfl, rfl⟩ := Prod.mk.inj b1
    exact ⟨a2, a3, .inr ⟨rfl, a1, b2⟩⟩
theorem cm_fits (c : UInt8) : fitN (c.toNat : Int) 6 := by
  have := c.toNat_lt
  exact ⟨by omega, by rw [show ((256 ^ 6 : Nat) : Int) = 281474976710656 by decide]; omega⟩
theorem Pv.len {S : St} {sb : Nat} {w : Wo} {g : Gh} (h : Pv S sb w g) : w.G.all.length ≤ 2320 := by
  have := h.ok.g.le
  have := h.sec
  omega
theorem Pv.wst {S : St} {sb : Nat} {w : Wo} {g : Gh} (h : Pv S sb w g) (id : Int) (c : UInt8) : (wst S w g id c).1 = true ∧ Pv S sb (wst S w g id c).2.1 (wst S w g id c).2.2 ∧ (wst S w g id c).2.1.P.fs.length = w.P.fs.length ∧ (wst S w g id c).2.2.pin = g.pin ∧
    (w.G.all.length + 19 ≤ 2320 → (∀ q, q < 8 → g.P q ≤ 0) → ∀ p : Nat, p < 8 → id = (p : Int) → (wst S w g id c).2.2 = g.put p (fl c) ((w.G.all.length : Int) + 1) ∧ Drt (wst S w g id c).2.1.P p ∧ (wst S w g id c).2.1.G.all.length = w.G.all.length + 19) := by
  obtain ⟨ρ, hW⟩ := h.wi
  obtain ⟨f, c1, c2⟩ := cm_frame (cm_fits c)
  have hA := h.app (cm (c.toNat : Int))
  unfold Go.Sp.wst
  have e := append_is (G := w.G) hW.dead (cm (c.toNat : Int))
  have hs := h.sec
  rw [c1, if_pos rfl, c2] at e
  by_cases hf : w.G.all.length + 19 ≤ 2320
  · rw [if_pos (by omega)] at e
    rw [e] at hA ⊢
    dsimp only at hA ⊢
    rw [if_pos rfl]
    have hl2 : (w.G.all ++ f).length = w.G.all.length + 19 := by rw [List.length_append, c2]
    generalize hG2 : ({ w.G with all := w.G.all ++ f } : Lg) = G2 at *
    have hG2l : G2.all.length = w.G.all.length + 19 := by rw [← hG2]; exact hl2
    by_cases hr : id < 0 ∨ 8 ≤ id
    · have ho := hA.hold_out hr
      have ew : Go.Sp.wset S ⟨w.P, G2, w.Z⟩ id (fl c) ((w.G.all.length + 1 : Nat) : Int) = (6, ⟨w.P, G2, w.Z⟩) := by
        unfold Go.Sp.wset
        rw [if_neg (by rw [fl_224]; simp), if_neg (by omega), ho]
      rw [ew]
      unfold wst2
      rw [if_pos hr]
      exact ⟨rfl, hA, rfl, rfl, fun _ _ p hp hid => by omega⟩
    · obtain ⟨p, rfl⟩ : ∃ p : Nat, id = (p : Int) := ⟨id.toNat, by omega⟩
      have hp : p < 8 := by omega
      have hls := (h.ls p hp).2
      obtain ⟨s1, s2, s3⟩ := hA.wset hp (fl_224 c) (lsn := ((w.G.all.length + 1 : Nat) : Int)) (by omega) (by omega) (by dsimp only; omega)
      generalize Go.Sp.wset S ⟨w.P, G2, w.Z⟩ (p : Int) (fl c) ((w.G.all.length + 1 : Nat) : Int) = b at *
      obtain ⟨e2, w2⟩ := b
      dsimp only at s1 s2 s3
      unfold wst2
      rw [if_neg hr]
      dsimp only
      rcases s3 with ⟨rfl, t1, t2⟩ | ⟨rfl, t1, t2⟩
      · rw [if_neg (by decide)]
        refine ⟨rfl, t1, s2, rfl, fun _ _ q hq hid => ?_⟩
        obtain rfl : q = p := by omega
        exact ⟨rfl, t2, by rw [s1]; exact hG2l⟩
      · rw [if_pos rfl]
        have h2p := t1.full (by rw [s2]; exact t2)
        refine ⟨decide_eq_true h2p, t1, s2, rfl, fun _ hz q hq hid => ?_⟩
        have hn := h.ok.p.n2
        obtain ⟨u1, u2⟩ := t2 0 (by omega)
        obtain ⟨p0, hp0, F⟩ := t1.fr 0 (by omega) u1
        have := hz p0 hp0
        have := F.p
        omega
  · rw [if_neg (by omega)] at e
    rw [e]
    dsimp only
    rw [if_neg (by decide)]
    exact ⟨rfl, h, rfl, rfl, fun hx => absurd hx hf⟩
theorem zf_at {q fb st lg n i : Nat} : ((Po.new q fb st lg n).at i).filled = false := by
  unfold Po.at Po.new
  dsimp only
  rw [List.getD_eq_getElem?_getD, List.getElem?_replicate]
  split <;> rfl
theorem Wnew.pv {S : St} {sb n : Nat} {w : Wo} (h : Wnew S sb n w) : Pv S sb w g0 := by
  obtain ⟨hok, hwi, hg, hs, hp, hz⟩ := h
  have hu : ∀ i, (w.P.at i).filled = false := fun i => by rw [hp]; exact zf_at
  have hS : S.base = 40 ∧ S.pages = 8 := by rw [hs]; exact ⟨rfl, rfl⟩
  have hG : w.G.base = 0 ∧ w.G.sectors = 40 := by rw [hg]; exact ⟨rfl, rfl⟩
  have g0T : ∀ p, g0.T p = [] := fun p => by unfold Gh.T g0; rw [List.getD_eq_getElem?_getD, List.getElem?_replicate]; split <;> rfl
  have g0N : ∀ p, g0.N p = 0 := fun p => by unfold Gh.N g0; rw [List.getD_eq_getElem?_getD, List.getElem?_replicate]; split <;> rfl
  have g0P : ∀ p, g0.P p = 0 := fun p => by unfold Gh.P g0; rw [List.getD_eq_getElem?_getD, List.getElem?_replicate]; split <;> rfl
  obtain ⟨ρ, hW⟩ := hwi
  refine ⟨hok, g0_ok, hS.2, by rw [hG.1, hG.2, hS.1]; decide, hG.2, ⟨ρ, hW⟩, fun i _ hf => ?_, fun i j _ _ hf => ?_, fun p hp' _ => .inl ⟨?_, g0N p, g0T p⟩, fun p _ hd => ?_, fun p _ => ?_, fun p _ hx => ?_, fun p _ => ?_⟩
  · rw [hu] at hf; cases hf
  · rw [hu] at hf; cases hf
  · refine rpg_none hok.s (by rw [hS.2]; exact hp') hW.calm.up fun i hi => ?_
    rw [hS.1]
    exact hz _ (by omega) (by omega)
  · obtain ⟨i, _, hf, _⟩ := hd
    rw [hu] at hf; cases hf
  · rw [g0N]; omega
  · rw [g0N] at hx; omega
  · rw [g0P]
    exact ⟨Int.le_refl _, fun x => by omega⟩
theorem Pv.dirt {S : St} {sb : Nat} {w : Wo} {g : Gh} (h : Pv S sb w g) (p : Nat) : w.P.dirt (p : Int) = true ↔ Drt w.P p := by
  unfold Po.dirt
  cases hf : w.P.find (p : Int) with
  | none =>
    have := find_none hf
    exact ⟨fun x => (by cases x), fun ⟨i, a, b, c, _⟩ => absurd ⟨i, a, b, c⟩ this⟩
  | some i =>
    obtain ⟨h1, h2, h3⟩ := find_some hf
    refine ⟨fun x => ⟨i, h1, h2, h3, x⟩, fun ⟨j, a, b, c, d⟩ => ?_⟩
    obtain rfl : i = j := h.un i j h1 a h2 b (by rw [h3, c])
    exact d
theorem Pv.two {S : St} {sb : Nat} {w : Wo} {g : Gh} (h : Pv S sb w g) (hn : w.P.fs.length = 2) (h0 : Drt w.P 0) (h1 : Drt w.P 1) (h2 : Drt w.P 2) : False := by
  obtain ⟨a, a1, _, a3, _⟩ := h0
  obtain ⟨b, b1, _, b3, _⟩ := h1
  obtain ⟨c, c1, _, c3, _⟩ := h2
  rw [hn] at a1 b1 c1
  have ab : a ≠ b := fun x => by subst x; omega
  have ac : a ≠ c := fun x => by subst x; omega
  have bc : b ≠ c := fun x => by subst x; omega
  omega
theorem wset_fq {wb : Nat} {S : St} {sb : Nat} {w : Wo} {g : Gh} (h : Pv S sb w g) (id : Int) (c : UInt8) : ∃ (w' : Wo) (g' : Gh), Fq eB Tryz.prog 47 #[.pointer (some ⟨wb, 0, none⟩), .int .i64 id, .int .u8 (c.toNat : Int)] (wld wb sb S.q w.G.q w.P.q g :: wos S sb w) (wld wb sb S.q w'.G.q w'.P.q g' :: wos S sb w') true ∧ Pv S sb w' g' ∧ w'.P.fs.length = w.P.fs.length ∧ g'.pin = g.pin ∧
    (w.G.all.length + 19 ≤ 2320 → (∀ q, q < 8 → g.P q ≤ 0) → ∀ p : Nat, p < 8 → id = (p : Int) → g' = g.put p (fl c) ((w.G.all.length : Int) + 1) ∧ Drt w'.P p ∧ w'.G.all.length = w.G.all.length + 19) := by
  have F := g47 wb S sb 80 w h.ok g h.gok id c
  obtain ⟨a1, a2, a3, a4, a5⟩ := h.wst id c
  obtain ⟨b1, b2, b3, b4⟩ := wst_ok h.ok h.gok id c
  rw [a1, ← b3, ← b2.q] at F
  exact ⟨_, _, by rw [b3, b2.q] at F ⊢; exact F, a2, a3, a4, a5⟩
theorem g0P (p : Nat) : g0.P p = 0 := by
  unfold Gh.P g0
  rw [List.getD_eq_getElem?_getD, List.getElem?_replicate]
  split <;> rfl
theorem Pv.there {S : St} {sb : Nat} {w : Wo} {g : Gh} (h : Pv S sb w g) {p : Nat} (hp : p < 8) (hN : 1 ≤ g.N p) (hd : ¬ Drt w.P p) : (w.Z.rpg S (p : Int)).2.2 = 0 := by
  rcases h.cl p hp hd with ⟨_, x, _⟩ | ⟨x, _⟩
  · omega
  · rw [x]
set_option maxHeartbeats 1000000 in
theorem g44 : Fp eB Tryz.prog 44 #[] [] true := fun L => by
  refine c44_fn rfl rfl ?_
  repeat' ((fail_if_success with_reducible refine nph ?_); first | (with_reducible first | (refine d_seq ?_; intro K hK) | (refine hK _ _ ?_; clear hK K) | (refine SG.p ?_; try intro b) | refine r_rq (by first | decide | omega) ?_) | ((with_reducible refine SC.p ?_); refine aI ?_ ?_) <;> intro hc <;> try simp only [push_cast, seval] at hc | ((with_reducible refine SL.p ?_); first | refine ⟨_, rfl, ?_⟩ | refine ⟨_, _, _, rfl, ?_⟩ | (refine ⟨?_, rfl, ?_⟩; focus (simp; done))) | ((with_reducible first | apply i_ldn | apply i_ldnq); iterate 3 exact rfl) | ((try with_reducible refine d_reg ?_); simp only [go_sem]) | clear hK K)
  refine i_cal (g41 2 (by decide) (by decide)) ?_
  rintro y X ⟨wb, sb, S, w, rfl, rfl, hNw⟩
  have h0 := hNw.pv
  have hl0 : w.G.all.length = 0 := by rw [hNw.g]; rfl
  have hn0 : w.P.fs.length = 2 := by rw [hNw.p]; simp [Po.new]
  obtain ⟨w1, g1, F1, h1, n1, p1, q1⟩ := wset_fq (wb := wb) h0 0 1
  obtain ⟨r1, d1, l1⟩ := q1 (by omega) (fun q _ => by rw [g0P]; exact Int.le_refl _) 0 (by decide) rfl
  have z1 : ∀ q, q < 8 → g1.P q ≤ 0 := fun q _ => by
    show g1.pin.getD q 0 ≤ 0
    rw [p1]
    exact Int.le_of_eq (g0P q)
  obtain ⟨w2, g2, F2, h2, n2, p2, q2⟩ := wset_fq (wb := wb) h1 1 2
  obtain ⟨r2, d2, l2⟩ := q2 (by omega) z1 1 (by decide) rfl
  have z2 : ∀ q, q < 8 → g2.P q ≤ 0 := fun q hq => by
    show g2.pin.getD q 0 ≤ 0
    rw [p2]
    exact z1 q hq
  obtain ⟨w3, g3, F3, h3, n3, p3, q3⟩ := wset_fq (wb := wb) h2 2 3
  obtain ⟨r3, d3, l3⟩ := q3 (by omega) z2 2 (by decide) rfl
  have N0 : 1 ≤ g3.N 0 := by
    rw [r3, put_N h2.gok (by decide), if_neg (by decide), r2, put_N h1.gok (by decide), if_neg (by decide), r1, put_N h0.gok (by decide), if_pos rfl]
    omega
  have N1 : 1 ≤ g3.N 1 := by
    rw [r3, put_N h2.gok (by decide), if_neg (by decide), r2, put_N h1.gok (by decide), if_pos rfl]
    omega
  have R0 := f49 S w3.Z h3.ok.z (by rw [h3.ok.nn]; exact h3.ok.s) 0
  have R1 := f49 S w3.Z h3.ok.z (by rw [h3.ok.nn]; exact h3.ok.s) 1
  rw [h3.ok.sb] at R0 R1
  have DT := g45 w3.P h3.ok.p 2
  rw [show w3.P.dirt 2 = true from (h3.dirt 2).2 d3] at DT
  have he : (w3.Z.rpg S 0).2.2 = 0 ∨ (w3.Z.rpg S 1).2.2 = 0 := by
    by_cases c0 : Drt w3.P 0
    · by_cases c1 : Drt w3.P 1
      · exact (h3.two (by omega) c0 c1 d3).elim
      · exact .inr (h3.there (p := 1) (by decide) N1 c1)
    · exact .inl (h3.there (p := 0) (by decide) N0 c0)
  generalize w3.Z.rpg S 0 = a0 at *
  generalize w3.Z.rpg S 1 = a1 at *
  obtain ⟨a01, a02, a03⟩ := a0
  obtain ⟨a11, a12, a13⟩ := a1
  dsimp only at he
  rw [show (((1 : UInt8).toNat : Nat) : Int) = 1 from rfl] at F1
  rw [show (((2 : UInt8).toNat : Nat) : Int) = 2 from rfl] at F2
  rw [show (((3 : UInt8).toNat : Nat) : Int) = 3 from rfl] at F3
  dsimp only [List.cons_append, List.nil_append]
  repeat' ((fail_if_success with_reducible refine nph ?_); first | (with_reducible first | (refine d_seq ?_; intro K hK) | (refine hK _ _ ?_; clear hK K) | (refine SG.p ?_; try intro b) | refine r_rq (by first | decide | omega) ?_) | ((with_reducible refine SC.p ?_); refine aI ?_ ?_) <;> intro hc <;> try simp only [push_cast, seval] at hc | ((with_reducible refine SL.p ?_); first | refine ⟨_, rfl, ?_⟩ | refine ⟨_, _, _, rfl, ?_⟩ | (refine ⟨?_, rfl, ?_⟩; focus (simp; done))) | ((with_reducible first | apply i_ldn | apply i_ldnq); iterate 3 exact rfl) | ((try with_reducible refine d_reg ?_); simp only [go_sem]) | clear hK K)
  all_goals try contradiction
  refine i_clq F1 ?_
  repeat' ((fail_if_success with_reducible refine nph ?_); first | (with_reducible first | (refine d_seq ?_; intro K hK) | (refine hK _ _ ?_; clear hK K) | (refine SG.p ?_; try intro b) | refine r_rq (by first | decide | omega) ?_) | ((with_reducible refine SC.p ?_); refine aI ?_ ?_) <;> intro hc <;> try simp only [push_cast, seval] at hc | ((with_reducible refine SL.p ?_); first | refine ⟨_, rfl, ?_⟩ | refine ⟨_, _, _, rfl, ?_⟩ | (refine ⟨?_, rfl, ?_⟩; focus (simp; done))) | ((with_reducible first | apply i_ldn | apply i_ldnq); iterate 3 exact rfl) | ((try with_reducible refine d_reg ?_); simp only [go_sem]) | clear hK K)
  all_goals try contradiction
  refine i_clq F2 ?_
  repeat' ((fail_if_success with_reducible refine nph ?_); first | (with_reducible first | (refine d_seq ?_; intro K hK) | (refine hK _ _ ?_; clear hK K) | (refine SG.p ?_; try intro b) | refine r_rq (by first | decide | omega) ?_) | ((with_reducible refine SC.p ?_); refine aI ?_ ?_) <;> intro hc <;> try simp only [push_cast, seval] at hc | ((with_reducible refine SL.p ?_); first | refine ⟨_, rfl, ?_⟩ | refine ⟨_, _, _, rfl, ?_⟩ | (refine ⟨?_, rfl, ?_⟩; focus (simp; done))) | ((with_reducible first | apply i_ldn | apply i_ldnq); iterate 3 exact rfl) | ((try with_reducible refine d_reg ?_); simp only [go_sem]) | clear hK K)
  all_goals try contradiction
  refine i_clq F3 ?_
  repeat' ((fail_if_success with_reducible refine nph ?_); first | (with_reducible first | (refine d_seq ?_; intro K hK) | (refine hK _ _ ?_; clear hK K) | (refine SG.p ?_; try intro b) | refine r_rq (by first | decide | omega) ?_) | ((with_reducible refine SC.p ?_); refine aI ?_ ?_) <;> intro hc <;> try simp only [push_cast, seval] at hc | ((with_reducible refine SL.p ?_); first | refine ⟨_, rfl, ?_⟩ | refine ⟨_, _, _, rfl, ?_⟩ | (refine ⟨?_, rfl, ?_⟩; focus (simp; done))) | ((with_reducible first | apply i_ldn | apply i_ldnq); iterate 3 exact rfl) | ((try with_reducible refine d_reg ?_); simp only [go_sem]) | clear hK K)
  all_goals try contradiction
  refine i_clp R0 ?_
  repeat' ((fail_if_success with_reducible refine nph ?_); first | (with_reducible first | (refine d_seq ?_; intro K hK) | (refine hK _ _ ?_; clear hK K) | (refine SG.p ?_; try intro b) | refine r_rq (by first | decide | omega) ?_) | ((with_reducible refine SC.p ?_); refine aI ?_ ?_) <;> intro hc <;> try simp only [push_cast, seval] at hc | ((with_reducible refine SL.p ?_); first | refine ⟨_, rfl, ?_⟩ | refine ⟨_, _, _, rfl, ?_⟩ | (refine ⟨?_, rfl, ?_⟩; focus (simp; done))) | ((with_reducible first | apply i_ldn | apply i_ldnq); iterate 3 exact rfl) | ((try with_reducible refine d_reg ?_); simp only [go_sem]) | clear hK K)
  refine i_clp R1 ?_
  repeat' ((fail_if_success with_reducible refine nph ?_); first | (with_reducible first | (refine d_seq ?_; intro K hK) | (refine hK _ _ ?_; clear hK K) | (refine SG.p ?_; try intro b) | refine r_rq (by first | decide | omega) ?_) | ((with_reducible refine SC.p ?_); refine aI ?_ ?_) <;> intro hc <;> try simp only [push_cast, seval] at hc | ((with_reducible refine SL.p ?_); first | refine ⟨_, rfl, ?_⟩ | refine ⟨_, _, _, rfl, ?_⟩ | (refine ⟨?_, rfl, ?_⟩; focus (simp; done))) | ((with_reducible first | apply i_ldn | apply i_ldnq); iterate 3 exact rfl) | ((try with_reducible refine d_reg ?_); simp only [go_sem]) | clear hK K)
  · refine i_clp DT ?_
    repeat' ((fail_if_success with_reducible refine nph ?_); first | (with_reducible first | (refine d_seq ?_; intro K hK) | (refine hK _ _ ?_; clear hK K) | (refine SG.p ?_; try intro b) | refine r_rq (by first | decide | omega) ?_) | ((with_reducible refine SC.p ?_); refine aI ?_ ?_) <;> intro hc <;> try simp only [push_cast, seval] at hc | ((with_reducible refine SL.p ?_); first | refine ⟨_, rfl, ?_⟩ | refine ⟨_, _, _, rfl, ?_⟩ | (refine ⟨?_, rfl, ?_⟩; focus (simp; done))) | ((with_reducible first | apply i_ldn | apply i_ldnq); iterate 3 exact rfl) | ((try with_reducible refine d_reg ?_); simp only [go_sem]) | clear hK K)
    (with_reducible first | apply i_ret0 | apply i_ret2 | apply i_ret3 | apply i_ret); exact rfl
    rfl
  · refine i_clp DT ?_
    repeat' ((fail_if_success with_reducible refine nph ?_); first | (with_reducible first | (refine d_seq ?_; intro K hK) | (refine hK _ _ ?_; clear hK K) | (refine SG.p ?_; try intro b) | refine r_rq (by first | decide | omega) ?_) | ((with_reducible refine SC.p ?_); refine aI ?_ ?_) <;> intro hc <;> try simp only [push_cast, seval] at hc | ((with_reducible refine SL.p ?_); first | refine ⟨_, rfl, ?_⟩ | refine ⟨_, _, _, rfl, ?_⟩ | (refine ⟨?_, rfl, ?_⟩; focus (simp; done))) | ((with_reducible first | apply i_ldn | apply i_ldnq); iterate 3 exact rfl) | ((try with_reducible refine d_reg ?_); simp only [go_sem]) | clear hK K)
    (with_reducible first | apply i_ret0 | apply i_ret2 | apply i_ret3 | apply i_ret); exact rfl
    rfl
  · exfalso
    rcases he with x | x
    · contradiction
    · contradiction
abbrev cDt (d : api_Dirty) : List Value := [.int .i64 d.Page, .int .i64 d.Rec]
def drd (P : Po) (i : Nat) : List api_Dirty := match P.find (i : Int) with
  | none => []
  | some j => if (P.at j).dirty = true then [⟨(i : Int), (P.at j).first⟩] else []
def drl (P : Po) : Nat → List api_Dirty
  | 0 => []
  | i + 1 => drl P i ++ drd P i
set_option maxHeartbeats 1000000 in
theorem g58 (P : Po) (h : P.ok) (S : St) (sb : Nat) (hs : P.st = S.q) (h8 : S.pages = 8) : Fn eSl Tryz.prog 58 #[P.p] [ppt P, pfs P, spt S sb] fun y X => X = [ow 137 2 y ((drl P 8).flatMap cDt), ppt P, pfs P, spt S sb] := fun L => by
  have FP := f57 S sb
  rw [h8] at FP
  refine c58_fn rfl rfl ?_
  repeat' ((fail_if_success with_reducible refine nph ?_); first | (with_reducible first | (refine d_seq ?_; intro K hK) | (refine hK _ _ ?_; clear hK K) | (refine SG.p ?_; try intro b) | refine r_rq (by first | decide | omega) ?_) | ((with_reducible refine SC.p ?_); refine aI ?_ ?_) <;> intro hc <;> try simp only [push_cast, seval] at hc | ((with_reducible refine SL.p ?_); first | refine ⟨_, rfl, ?_⟩ | refine ⟨_, _, _, rfl, ?_⟩ | (refine ⟨?_, rfl, ?_⟩; focus (simp; done))) | ((with_reducible first | apply i_ldn | apply i_ldnq); iterate 3 exact rfl) | ((try with_reducible refine d_reg ?_); simp only [go_sem]) | clear hK K)
  refine i_clp (g89 P h) ?_
  repeat' ((fail_if_success with_reducible refine nph ?_); first | (with_reducible first | (refine d_seq ?_; intro K hK) | (refine hK _ _ ?_; clear hK K) | (refine SG.p ?_; try intro b) | refine r_rq (by first | decide | omega) ?_) | ((with_reducible refine SC.p ?_); refine aI ?_ ?_) <;> intro hc <;> try simp only [push_cast, seval] at hc | ((with_reducible refine SL.p ?_); first | refine ⟨_, rfl, ?_⟩ | refine ⟨_, _, _, rfl, ?_⟩ | (refine ⟨?_, rfl, ?_⟩; focus (simp; done))) | ((with_reducible first | apply i_ldn | apply i_ldnq); iterate 3 exact rfl) | ((try with_reducible refine d_reg ?_); simp only [go_sem]) | clear hK K)
  all_goals try contradiction
  rw [hs]
  refine i_clp FP ?_
  repeat' ((fail_if_success with_reducible refine nph ?_); first | (with_reducible first | (refine d_seq ?_; intro K hK) | (refine hK _ _ ?_; clear hK K) | (refine SG.p ?_; try intro b) | refine r_rq (by first | decide | omega) ?_) | ((with_reducible refine SC.p ?_); refine aI ?_ ?_) <;> intro hc <;> try simp only [push_cast, seval] at hc | ((with_reducible refine SL.p ?_); first | refine ⟨_, rfl, ?_⟩ | refine ⟨_, _, _, rfl, ?_⟩ | (refine ⟨?_, rfl, ?_⟩; focus (simp; done))) | ((with_reducible first | apply i_ldn | apply i_ldnq); iterate 3 exact rfl) | ((try with_reducible refine d_reg ?_); simp only [go_sem]) | clear hK K)
  refine r_nilow 137 2 ?_
  refine d_lp [0, 3, 12, 13] (fun t : Nat × SlV => [(0, .pointer (some ⟨P.q, 0, none⟩)), (3, .slice t.2.1 t.2.2.1 t.2.2.2), (12, .int .i64 8), (13, .int .i64 (t.1 : Int))])
    (fun t => ow 137 2 t.2 ((drl P t.1).flatMap cDt) :: ppt P :: pfs P :: spt S sb :: L) (fun t => t.1 ≤ 8 ∧ t.2.2.1 ≤ t.1) (fun t => 8 - t.1) (0, (none, 0, 0)) rfl ?_ ⟨by dsimp only; omega, by dsimp only; omega⟩ ?_
  · show Sub (ow 137 2 (none, 0, 0) [] :: ppt P :: pfs P :: spt S sb :: L) _
    exact SX.p
  rintro ⟨i, ⟨p, pn, pc⟩⟩ ⟨hi, hp⟩
  dsimp only at hi hp ⊢
  repeat' ((fail_if_success with_reducible refine nph ?_); first | (with_reducible first | (refine d_seq ?_; intro K hK) | (refine hK _ _ ?_; clear hK K) | (refine SG.p ?_; try intro b) | refine r_rq (by first | decide | omega) ?_) | ((with_reducible refine SC.p ?_); refine aI ?_ ?_) <;> intro hc <;> try simp only [push_cast, seval] at hc | ((with_reducible refine SL.p ?_); first | refine ⟨_, rfl, ?_⟩ | refine ⟨_, _, _, rfl, ?_⟩ | (refine ⟨?_, rfl, ?_⟩; focus (simp; done))) | ((with_reducible first | apply i_ldn | apply i_ldnq); iterate 3 exact rfl) | ((try with_reducible refine d_reg ?_); simp only [go_sem]) | clear hK K)
  · have F := g91 P h (i : Int)
    have hd : drl P (i + 1) = drl P i ++ drd P i := rfl
    unfold drd at hd
    cases hf : P.find (i : Int) with
    | none =>
      rw [hf] at F hd
      dsimp only [Option.map] at F hd
      refine i_clp F ?_
      repeat' ((fail_if_success with_reducible refine nph ?_); first | (with_reducible first | (refine d_seq ?_; intro K hK) | (refine hK _ _ ?_; clear hK K) | (refine SG.p ?_; try intro b) | refine r_rq (by first | decide | omega) ?_) | ((with_reducible refine SC.p ?_); refine aI ?_ ?_) <;> intro hc <;> try simp only [push_cast, seval] at hc | ((with_reducible refine SL.p ?_); first | refine ⟨_, rfl, ?_⟩ | refine ⟨_, _, _, rfl, ?_⟩ | (refine ⟨?_, rfl, ?_⟩; focus (simp; done))) | ((with_reducible first | apply i_ldn | apply i_ldnq); iterate 3 exact rfl) | ((try with_reducible refine d_reg ?_); simp only [go_sem]) | clear hK K)
      all_goals try contradiction
      rw [w64 (by omega) (by omega)]
      rw [List.append_nil] at hd
      rw [← hd]
      exact i_bk (i + 1, (p, pn, pc)) rfl ⟨by dsimp only; omega, by dsimp only; omega⟩ (by dsimp only; omega)
    | some j =>
      rw [hf] at F hd
      dsimp only [Option.map] at F hd
      have hx := at_get (find_lt hf)
      generalize P.at j = f at *
      refine i_clp F ?_
      repeat' ((fail_if_success with_reducible refine nph ?_); first | (with_reducible first | (refine d_seq ?_; intro K hK) | (refine hK _ _ ?_; clear hK K) | (refine SG.p ?_; try intro b) | refine r_rq (by first | decide | omega) ?_) | ((with_reducible refine SC.p ?_); refine aI ?_ ?_) <;> intro hc <;> try simp only [push_cast, seval] at hc | ((with_reducible refine SL.p ?_); first | refine ⟨_, rfl, ?_⟩ | refine ⟨_, _, _, rfl, ?_⟩ | (refine ⟨?_, rfl, ?_⟩; focus (simp; done))) | ((with_reducible first | apply i_ldn | apply i_ldnq); iterate 3 exact rfl) | ((try with_reducible refine d_reg ?_); simp only [go_sem]) | clear hK K)
      all_goals try contradiction
      refine i_fl (e := eB) (y := f.dirty) cFr_len hx rfl ?_
      repeat' ((fail_if_success with_reducible refine nph ?_); first | (with_reducible first | (refine d_seq ?_; intro K hK) | (refine hK _ _ ?_; clear hK K) | (refine SG.p ?_; try intro b) | refine r_rq (by first | decide | omega) ?_) | ((with_reducible refine SC.p ?_); refine aI ?_ ?_) <;> intro hc <;> try simp only [push_cast, seval] at hc | ((with_reducible refine SL.p ?_); first | refine ⟨_, rfl, ?_⟩ | refine ⟨_, _, _, rfl, ?_⟩ | (refine ⟨?_, rfl, ?_⟩; focus (simp; done))) | ((with_reducible first | apply i_ldn | apply i_ldnq); iterate 3 exact rfl) | ((try with_reducible refine d_reg ?_); simp only [go_sem]) | clear hK K)
      · have hy : f.dirty = true := by assumption
        rw [if_pos hy] at hd
        refine i_fl (e := eI) (y := f.first) cFr_len hx rfl ?_
        repeat' ((fail_if_success with_reducible refine nph ?_); first | (with_reducible first | (refine d_seq ?_; intro K hK) | (refine hK _ _ ?_; clear hK K) | (refine SG.p ?_; try intro b) | refine r_rq (by first | decide | omega) ?_) | ((with_reducible refine SC.p ?_); refine aI ?_ ?_) <;> intro hc <;> try simp only [push_cast, seval] at hc | ((with_reducible refine SL.p ?_); first | refine ⟨_, rfl, ?_⟩ | refine ⟨_, _, _, rfl, ?_⟩ | (refine ⟨?_, rfl, ?_⟩; focus (simp; done))) | ((with_reducible first | apply i_ldn | apply i_ldnq); iterate 3 exact rfl) | ((try with_reducible refine d_reg ?_); simp only [go_sem]) | clear hK K)
        refine i_app (t := 137) (sz := 2) (m := 1) (news := [.int .i64 (i : Int), .int .i64 f.first]) (p, pn, pc) 16 (by kernel_rfl) (by decide) rfl rfl (by dsimp only; omega) fun o' ho' _ => ?_
        have e : (drl P i).flatMap cDt ++ [.int .i64 (i : Int), .int .i64 f.first] = (drl P (i + 1)).flatMap cDt := by rw [hd]; simp
        rw [e]
        repeat' ((fail_if_success with_reducible refine nph ?_); first | (with_reducible first | (refine d_seq ?_; intro K hK) | (refine hK _ _ ?_; clear hK K) | (refine SG.p ?_; try intro b) | refine r_rq (by first | decide | omega) ?_) | ((with_reducible refine SC.p ?_); refine aI ?_ ?_) <;> intro hc <;> try simp only [push_cast, seval] at hc | ((with_reducible refine SL.p ?_); first | refine ⟨_, rfl, ?_⟩ | refine ⟨_, _, _, rfl, ?_⟩ | (refine ⟨?_, rfl, ?_⟩; focus (simp; done))) | ((with_reducible first | apply i_ldn | apply i_ldnq); iterate 3 exact rfl) | ((try with_reducible refine d_reg ?_); simp only [go_sem]) | clear hK K)
        rw [w64 (by omega) (by omega)]
        exact i_bk (i + 1, o') rfl ⟨by dsimp only; omega, by dsimp only at ho' ⊢; omega⟩ (by dsimp only; omega)
      · have hy : ¬ f.dirty = true := by rw [show f.dirty = false by assumption]; decide
        rw [if_neg hy, List.append_nil] at hd
        rw [← hd]
        rw [w64 (by omega) (by omega)]
        exact i_bk (i + 1, (p, pn, pc)) rfl ⟨by dsimp only; omega, by dsimp only; omega⟩ (by dsimp only; omega)
  · obtain rfl : i = 8 := by omega
    exact i_done (e := eSl) (p, pn, pc) [ow 137 2 (p, pn, pc) ((drl P 8).flatMap cDt), ppt P, pfs P, spt S sb] rfl rfl
theorem cDt_len (d : api_Dirty) : (cDt d).length = 2 := rfl
end Go.Sp
namespace Go.Sp
open Go
set_option maxRecDepth 100000
set_option linter.unusedVariables false
open Go.Proofs
variable (K : Env → W) (k : Value → W) {e : Enc} {args : Array Value} {G : e.α → W} {L : List HP} {ρ : Env}
attribute [local instance] cI cB cP cA
noncomputable def c52 := cf Tryz.f52 232 [(0, [0, 1]), (1, [0, 3]), (2, [0]), (3, [0, 3, 13]), (4, [0, 3, 13]), (5, [0, 3]), (6, [0, 3, 13]), (7, [0, 3]), (8, [0, 3, 5, 6, 7]), (9, [5, 6, 7]), (10, [0, 3, 5, 6, 7]), (11, [0, 3, 13]), (12, [0, 3]), (13, [0, 3, 8]), (14, [8]), (15, [0, 3, 8]), (16, [0, 3, 8]), (17, [0, 8]), (18, [0, 3, 13]), (19, [0, 3]), (20, [0, 3, 9]), (21, [9]), (22, [0, 3, 9]), (23, [9]), (24, [0, 3, 13]), (25, [0, 3]), (26, [0, 3, 10]), (27, [0, 3, 10, 11]), (28, [0, 3, 11]), (29, [11])] [(0, [0, 3]), (1, [0, 3, 13]), (2, [4]), (3, [0, 3, 13, 29]), (4, [0, 3, 13, 29]), (5, [4]), (6, [0, 3, 13, 38]), (7, [0, 3, 5, 6, 7]), (8, [0, 3, 5, 6, 7, 54]), (9, [4]), (10, [4]), (11, [0, 3, 13, 98]), (12, [0, 3, 8]), (13, [0, 3, 8, 110]), (14, [4]), (15, [0, 3, 8, 114]), (16, [0, 8]), (17, [4]), (18, [0, 3, 13, 140]), (19, [0, 3, 9]), (20, [0, 3, 9, 162]), (21, [4]), (22, [9]), (23, [4]), (24, [0, 3, 181]), (25, [0, 3, 10]), (26, [0, 3, 10, 11]), (27, [0, 3, 11, 197]), (28, [4]), (29, [4]), (1000000, [4])] [(7, (true, [(0, 1), (1, 1), (2, 1), (3, 0), (4, 1), (5, 0), (6, 4), (7, 1), (8, 1), (9, 1), (10, 1), (11, 1), (12, 1), (13, 1)])), (10, (false, [(0, 1), (1, 1), (2, 1), (3, 1), (4, 3), (5, 1), (6, 1), (7, 1), (8, 1), (9, 1), (10, 1), (11, 1), (12, 1), (13, 1), (14, 0), (15, 1), (16, 1), (17, 1), (18, 0), (19, 1), (20, 1), (21, 1), (22, 1), (23, 1), (24, 1), (25, 0), (26, 1), (27, 1), (28, 1), (29, 0), (30, 1), (31, 1), (32, 1), (33, 1)])), (12, (true, [(0, 1), (1, 1), (2, 1), (3, 0), (4, 1), (5, 0), (6, 4), (7, 1)])), (16, (true, [(0, 1), (1, 1), (2, 0), (3, 1), (4, 1), (5, 0), (6, 1), (7, 1), (8, 1), (9, 0), (10, 1), (11, 1), (12, 1), (13, 1), (14, 4)])), (19, (true, [(0, 1), (1, 1), (2, 1), (3, 0), (4, 1), (5, 0), (6, 4), (7, 1)])), (20, (true, [(0, 1), (1, 0), (2, 3), (3, 1), (4, 1), (5, 1), (6, 1), (7, 0), (8, 1), (9, 1), (10, 1), (11, 0), (12, 1), (13, 1)])), (22, (true, [(0, 1), (1, 1), (2, 0), (3, 1), (4, 1), (5, 0), (6, 1), (7, 1), (8, 1), (9, 0), (10, 1), (11, 1), (12, 1), (13, 1), (14, 4)])), (25, (true, [(0, 1), (1, 1), (2, 1), (3, 0), (4, 1), (5, 0), (6, 4), (7, 1)])), (26, (true, [(0, 1), (1, 1), (2, 1), (3, 0), (4, 1), (5, 0), (6, 4), (7, 1)])), (28, (true, [(0, 1), (1, 1), (2, 1), (3, 1), (4, 1), (5, 1), (6, 0), (7, 1), (8, 0), (9, 3), (10, 1), (11, 1), (12, 1), (13, 1), (14, 1), (15, 1), (16, 0), (17, 1), (18, 0), (19, 1), (20, 1), (21, 0), (22, 1), (23, 1), (24, 1), (25, 0), (26, 4), (27, 1), (28, 1)]))] []
@[go_sem] theorem c52_i : c52.li 0 = [0, 1] ∧ c52.li 1 = [0, 3] ∧ c52.li 2 = [0] ∧ c52.li 3 = [0, 3, 13] ∧ c52.li 4 = [0, 3, 13] ∧ c52.li 5 = [0, 3] ∧ c52.li 6 = [0, 3, 13] ∧ c52.li 7 = [0, 3] ∧ c52.li 8 = [0, 3, 5, 6, 7] ∧ c52.li 9 = [5, 6, 7] ∧ c52.li 10 = [0, 3, 5, 6, 7] ∧ c52.li 11 = [0, 3, 13] ∧ c52.li 12 = [0, 3] ∧ c52.li 13 = [0, 3, 8] ∧ c52.li 14 = [8] ∧ c52.li 15 = [0, 3, 8] ∧ c52.li 16 = [0, 3, 8] ∧ c52.li 17 = [0, 8] ∧ c52.li 18 = [0, 3, 13] ∧ c52.li 19 = [0, 3] ∧ c52.li 20 = [0, 3, 9] ∧ c52.li 21 = [9] ∧ c52.li 22 = [0, 3, 9] ∧ c52.li 23 = [9] ∧ c52.li 24 = [0, 3, 13] ∧ c52.li 25 = [0, 3] ∧ c52.li 26 = [0, 3, 10] ∧ c52.li 27 = [0, 3, 10, 11] ∧ c52.li 28 = [0, 3, 11] ∧ c52.li 29 = [11] := ⟨rfl, rfl, rfl, rfl, rfl, rfl, rfl, rfl, rfl, rfl, rfl, rfl, rfl, rfl, rfl, rfl, rfl, rfl, rfl, rfl, rfl, rfl, rfl, rfl, rfl, rfl, rfl, rfl, rfl, rfl⟩
@[go_sem] theorem c52_r0 (v0 : Option Addr) (v1 : gharrylaw10_Op) : RP c52 0 [(0, v0), (1, v_gharrylaw10_Op v1)] K =
 (nwc #[v1.Kind, v1.Id, .int .u8 v1.C] 90 fun y1_ => (K [(0, v0), (3, y1_)])) := by kernel_rfl
@[go_sem] theorem c52_r1 (v0 : Option Addr) (v3 : Addr) : RP c52 1 [(0, v0), (3, v3)] K =
 (ld eI v3 fun (y1_ : Int) => (K [(0, v0), (3, v3), (13, y1_)])) := by kernel_rfl
@[go_sem] theorem c52_r2 (v0 : Option Addr) : RP c52 2 [(0, v0)] K =
 (nn v0 fun y1_ => (ld eP (y1_.add 3) fun (y2_ : Option Addr) => (cal eI Tryz.prog 57 #[y2_] fun (y3_ : Int) => (cnd (y3_ == 0) (nn v0 fun y4_ => (ld eP (y4_.add 3) fun (y5_ : Option Addr) => (cal eSl Tryz.prog 58 #[y5_] fun (y6_ : (Option Addr × Nat × Nat)) => (K [(4, .bool ((y6_.2.1 : Int) == 0))])))) (K [(4, false)]))))) := by kernel_rfl
@[go_sem] theorem c52_r3 (v0 : Option Addr) (v3 : Addr) (v13 : Int) : RP c52 3 [(0, v0), (3, v3), (13, v13)] K =
 (K [(0, v0), (3, v3), (13, v13), (29, .bool (v13 == 0))]) := by kernel_rfl
@[go_sem] theorem c52_r4 (v0 : Option Addr) (v3 : Addr) (v13 : Int) : RP c52 4 [(0, v0), (3, v3), (13, v13)] K =
 (K [(0, v0), (3, v3), (13, v13), (29, .bool (v13 == 1))]) := by kernel_rfl
@[go_sem] theorem c52_r5 (v0 : Option Addr) (v3 : Addr) : RP c52 5 [(0, v0), (3, v3)] K =
 (ld eI (v3.add 1) fun (y1_ : Int) => (ld eU8 (v3.add 2) fun (y2_ : Int) => (cal eB Tryz.prog 47 #[v0, y1_, .int .u8 y2_] fun (y3_ : Bool) => (K [(4, y3_)])))) := by kernel_rfl
@[go_sem] theorem c52_r6 (v0 : Option Addr) (v3 : Addr) (v13 : Int) : RP c52 6 [(0, v0), (3, v3), (13, v13)] K =
 (K [(0, v0), (3, v3), (13, v13), (38, .bool (v13 == 2))]) := by kernel_rfl
@[go_sem] theorem c52_r7 (v0 : Option Addr) (v3 : Addr) : RP c52 7 [(0, v0), (3, v3)] K =
 (ph fun S0 => (nn v0 fun y1_ => (ldq S0 eP (y1_.add 3) fun (y2_ : Option Addr) => (ldq S0 eI (v3.add 1) fun (y3_ : Int) => (cal (eT3 eS eI eI) Tryz.prog 49 #[y2_, y3_] fun (y4_ : ((List UInt8) × Int × Int)) => (K [(0, v0), (3, v3), (5, str y4_.1), (6, .int .i64 y4_.2.1), (7, .int .i64 y4_.2.2)])))))) := by kernel_rfl
@[go_sem] theorem c52_r8 (v0 : Option Addr) (v3 : Addr) (v5 : List UInt8) (v6 v7 : Int) : RP c52 8 [(0, v0), (3, v3), (5, str v5), (6, v6), (7, v7)] K =
 (ld eI (v3.add 1) fun (y1_ : Int) => (cal eB Tryz.prog 94 #[y1_] fun (y2_ : Bool) => (K [(0, v0), (3, v3), (5, str v5), (6, v6), (7, v7), (54, .bool (!y2_))]))) := by kernel_rfl
@[go_sem] theorem c52_r9 (v5 : List UInt8) (v6 v7 : Int) : RP c52 9 [(5, str v5), (6, v6), (7, v7)] K =
 (cnd (v5 == ([] : List UInt8)) (cnd (v6 == 0) (K [(4, .bool (v7 == 6))]) (K [(4, false)])) (K [(4, false)])) := by kernel_rfl
@[go_sem] theorem c52_r10 (v0 : Option Addr) (v3 : Addr) (v5 : List UInt8) (v6 v7 : Int) : RP c52 10 [(0, v0), (3, v3), (5, str v5), (6, v6), (7, v7)] K =
 (cnd (v7 == 7) (cal eI Tryz.prog 93 #[v0] fun (y1_ : Int) => (ph fun S1 => (cnd (decide (2 ≤ y1_)) (K [(4, true)]) (cnd (v7 == 0) (ldq S1 eI (v3.add 1) fun (y2_ : Int) => (nn v0 fun y3_ => (rq (0 ≤ y2_ ∧ y2_ < ((8 : Nat) : Int)) (ldq S1 eS (Addr.add (y3_.add 4) (y2_.toNat * 1)) fun (y4_ : List UInt8) => (cnd (v5 == y4_) (ldq S1 eI (v3.add 1) fun (y5_ : Int) => (nn v0 fun y6_ => (rq (0 ≤ y5_ ∧ y5_ < ((8 : Nat) : Int)) (ldq S1 eI (Addr.add (y6_.add 12) (y5_.toNat * 1)) fun (y7_ : Int) => (K [(4, .bool (v6 == y7_))]))))) (K [(4, false)])))))) (K [(4, false)]))))) (ph fun S2 => (cnd (v7 == 0) (ldq S2 eI (v3.add 1) fun (y8_ : Int) => (nn v0 fun y9_ => (rq (0 ≤ y8_ ∧ y8_ < ((8 : Nat) : Int)) (ldq S2 eS (Addr.add (y9_.add 4) (y8_.toNat * 1)) fun (y10_ : List UInt8) => (cnd (v5 == y10_) (ldq S2 eI (v3.add 1) fun (y11_ : Int) => (nn v0 fun y12_ => (rq (0 ≤ y11_ ∧ y11_ < ((8 : Nat) : Int)) (ldq S2 eI (Addr.add (y12_.add 12) (y11_.toNat * 1)) fun (y13_ : Int) => (K [(4, .bool (v6 == y13_))]))))) (K [(4, false)])))))) (K [(4, false)])))) := by kernel_rfl
@[go_sem] theorem c52_r11 (v0 : Option Addr) (v3 : Addr) (v13 : Int) : RP c52 11 [(0, v0), (3, v3), (13, v13)] K =
 (K [(0, v0), (3, v3), (13, v13), (98, .bool (v13 == 3))]) := by kernel_rfl
@[go_sem] theorem c52_r12 (v0 : Option Addr) (v3 : Addr) : RP c52 12 [(0, v0), (3, v3)] K =
 (ph fun S0 => (nn v0 fun y1_ => (ldq S0 eP (y1_.add 3) fun (y2_ : Option Addr) => (ldq S0 eI (v3.add 1) fun (y3_ : Int) => (cal eI Tryz.prog 48 #[y2_, y3_] fun (y4_ : Int) => (K [(0, v0), (3, v3), (8, y4_)])))))) := by kernel_rfl
@[go_sem] theorem c52_r13 (v0 : Option Addr) (v3 : Addr) (v8 : Int) : RP c52 13 [(0, v0), (3, v3), (8, v8)] K =
 (ld eI (v3.add 1) fun (y1_ : Int) => (cal eB Tryz.prog 94 #[y1_] fun (y2_ : Bool) => (K [(0, v0), (3, v3), (8, v8), (110, .bool (!y2_))]))) := by kernel_rfl
@[go_sem] theorem c52_r14 (v8 : Int) : RP c52 14 [(8, v8)] K =
 (K [(4, .bool (v8 == 6))]) := by kernel_rfl
@[go_sem] theorem c52_r15 (v0 : Option Addr) (v3 : Addr) (v8 : Int) : RP c52 15 [(0, v0), (3, v3), (8, v8)] K =
 (K [(0, v0), (3, v3), (8, v8), (114, .bool (v8 == 0))]) := by kernel_rfl
@[go_sem] theorem c52_r16 (v0 : Option Addr) (v3 : Addr) (v8 : Int) : RP c52 16 [(0, v0), (3, v3), (8, v8)] K =
 (ph fun S0 => (ldq S0 eI (v3.add 1) fun (y1_ : Int) => (ldq S0 eI (v3.add 1) fun (y2_ : Int) => (nn v0 fun y3_ => (rq (0 ≤ y2_ ∧ y2_ < ((8 : Nat) : Int)) (ldq S0 eI (Addr.add (y3_.add 20) (y2_.toNat * 1)) fun (y4_ : Int) => (nn v0 fun y5_ => (rq (0 ≤ y1_ ∧ y1_ < ((8 : Nat) : Int)) (st (Addr.add (y5_.add 20) (y1_.toNat * 1)) (IntKind.wrap .i64 (y4_ + 1)) (K [(0, v0), (8, v8)])))))))))) := by kernel_rfl
@[go_sem] theorem c52_r17 (v0 : Option Addr) (v8 : Int) : RP c52 17 [(0, v0), (8, v8)] K =
 (cnd (v8 == 0) (K [(4, true)]) (cnd (v8 == 7) (cal eI Tryz.prog 93 #[v0] fun (y1_ : Int) => (K [(4, decide (2 ≤ y1_))])) (K [(4, false)]))) := by kernel_rfl
@[go_sem] theorem c52_r18 (v0 : Option Addr) (v3 : Addr) (v13 : Int) : RP c52 18 [(0, v0), (3, v3), (13, v13)] K =
 (K [(0, v0), (3, v3), (13, v13), (140, .bool (v13 == 4))]) := by kernel_rfl
@[go_sem] theorem c52_r19 (v0 : Option Addr) (v3 : Addr) : RP c52 19 [(0, v0), (3, v3)] K =
 (ph fun S0 => (nn v0 fun y1_ => (ldq S0 eP (y1_.add 3) fun (y2_ : Option Addr) => (ldq S0 eI (v3.add 1) fun (y3_ : Int) => (cal eI Tryz.prog 50 #[y2_, y3_] fun (y4_ : Int) => (K [(0, v0), (3, v3), (9, y4_)])))))) := by kernel_rfl
@[go_sem] theorem c52_r20 (v0 : Option Addr) (v3 : Addr) (v9 : Int) : RP c52 20 [(0, v0), (3, v3), (9, v9)] K =
 (ph fun S0 => (ldq S0 eI (v3.add 1) fun (y1_ : Int) => (cal eB Tryz.prog 94 #[y1_] fun (y2_ : Bool) => (ph fun S1 => (cnd (!y2_) (K [(0, v0), (3, v3), (9, v9), (162, true)]) (ldq S1 eI (v3.add 1) fun (y3_ : Int) => (nn v0 fun y4_ => (rq (0 ≤ y3_ ∧ y3_ < ((8 : Nat) : Int)) (ldq S1 eI (Addr.add (y4_.add 20) (y3_.toNat * 1)) fun (y5_ : Int) => (K [(0, v0), (3, v3), (9, v9), (162, .bool (y5_ == 0))])))))))))) := by kernel_rfl
@[go_sem] theorem c52_r21 (v9 : Int) : RP c52 21 [(9, v9)] K =
 (K [(4, .bool (v9 == 8))]) := by kernel_rfl
@[go_sem] theorem c52_r22 (v0 : Option Addr) (v3 : Addr) (v9 : Int) : RP c52 22 [(0, v0), (3, v3), (9, v9)] K =
 (ph fun S0 => (ldq S0 eI (v3.add 1) fun (y1_ : Int) => (ldq S0 eI (v3.add 1) fun (y2_ : Int) => (nn v0 fun y3_ => (rq (0 ≤ y2_ ∧ y2_ < ((8 : Nat) : Int)) (ldq S0 eI (Addr.add (y3_.add 20) (y2_.toNat * 1)) fun (y4_ : Int) => (nn v0 fun y5_ => (rq (0 ≤ y1_ ∧ y1_ < ((8 : Nat) : Int)) (st (Addr.add (y5_.add 20) (y1_.toNat * 1)) (IntKind.wrap .i64 (y4_ - 1)) (K [(9, v9)])))))))))) := by kernel_rfl
@[go_sem] theorem c52_r23 (v9 : Int) : RP c52 23 [(9, v9)] K =
 (K [(4, .bool (v9 == 0))]) := by kernel_rfl
@[go_sem] theorem c52_r24 (v0 : Option Addr) (v3 : Addr) (v13 : Int) : RP c52 24 [(0, v0), (3, v3), (13, v13)] K =
 (K [(0, v0), (3, v3), (181, .bool (v13 == 5))]) := by kernel_rfl
@[go_sem] theorem c52_r25 (v0 : Option Addr) (v3 : Addr) : RP c52 25 [(0, v0), (3, v3)] K =
 (ph fun S0 => (nn v0 fun y1_ => (ldq S0 eP (y1_.add 3) fun (y2_ : Option Addr) => (ldq S0 eI (v3.add 1) fun (y3_ : Int) => (cal eB Tryz.prog 45 #[y2_, y3_] fun (y4_ : Bool) => (K [(0, v0), (3, v3), (10, y4_)])))))) := by kernel_rfl
@[go_sem] theorem c52_r26 (v0 : Option Addr) (v3 : Addr) (v10 : Bool) : RP c52 26 [(0, v0), (3, v3), (10, v10)] K =
 (ph fun S0 => (nn v0 fun y1_ => (ldq S0 eP (y1_.add 3) fun (y2_ : Option Addr) => (ldq S0 eI (v3.add 1) fun (y3_ : Int) => (cal eI Tryz.prog 56 #[y2_, y3_] fun (y4_ : Int) => (K [(0, v0), (3, v3), (10, v10), (11, y4_)])))))) := by kernel_rfl
@[go_sem] theorem c52_r27 (v0 : Option Addr) (v3 : Addr) (v10 : Bool) (v11 : Int) : RP c52 27 [(0, v0), (3, v3), (10, v10), (11, v11)] K =
 (K [(0, v0), (3, v3), (11, v11), (197, v10)]) := by kernel_rfl
@[go_sem] theorem c52_r28 (v0 : Option Addr) (v3 : Addr) (v11 : Int) : RP c52 28 [(0, v0), (3, v3), (11, v11)] K =
 (ph fun S0 => (cnd (v11 == 0) (nn v0 fun y1_ => (ldq S0 eP (y1_.add 3) fun (y2_ : Option Addr) => (ldq S0 eI (v3.add 1) fun (y3_ : Int) => (cal eB Tryz.prog 45 #[y2_, y3_] fun (y4_ : Bool) => (ph fun S1 => (cnd (!y4_) (nn v0 fun y5_ => (ldq S1 eP (y5_.add 1) fun (y6_ : Option Addr) => (ldq S1 eI (v3.add 1) fun (y7_ : Int) => (ldq S1 eI (v3.add 1) fun (y8_ : Int) => (nn v0 fun y9_ => (rq (0 ≤ y8_ ∧ y8_ < ((8 : Nat) : Int)) (ldq S1 eI (Addr.add (y9_.add 12) (y8_.toNat * 1)) fun (y10_ : Int) => (cal eB Tryz.prog 51 #[y6_, y7_, y10_] fun (y11_ : Bool) => (K [(4, y11_)]))))))))) (K [(4, false)]))))))) (ph fun S2 => (K [(4, false)])))) := by kernel_rfl
@[go_sem] theorem c52_r29 (v11 : Int) : RP c52 29 [(11, v11)] K =
 (cnd (v11 == 0) (K [(4, true)]) (K [(4, .bool (v11 == 8))])) := by kernel_rfl
@[go_sem] theorem c52_o : c52.lo 1000000 = [4] := rfl
@[go_sem] theorem c52_e (v4 : Bool) : RTp c52 [(4, v4)] k = (k (v4)) := by kernel_rfl
theorem c52_ok : (c52.P.follows .mixedOrders && okc c52 c52.body) = true := by kernel_rfl
theorem c52_fn (hρ : envA 0 args.toList = ρ) (hs : Nat.ble args.size 232 = true) (h : E L (D c52 (.seq (.reg 0) (.seq (.reg 1) (.block 0 (.seq (.seq (.reg 3) (.cond (.tmp 29) (.skip) (.reg 4))) (.cond (.tmp 29) (.seq (.reg 5) (.ret)) (.seq (.reg 6) (.cond (.tmp 38) (.seq (.reg 7) (.seq (.seq (.reg 8) (.cond (.tmp 54) (.seq (.reg 9) (.ret)) (.skip))) (.seq (.reg 10) (.ret)))) (.seq (.reg 11) (.cond (.tmp 98) (.seq (.reg 12) (.seq (.seq (.reg 13) (.cond (.tmp 110) (.seq (.reg 14) (.ret)) (.skip))) (.seq (.seq (.reg 15) (.cond (.tmp 114) (.reg 16) (.skip))) (.seq (.reg 17) (.ret))))) (.seq (.reg 18) (.cond (.tmp 140) (.seq (.reg 19) (.seq (.seq (.reg 20) (.cond (.tmp 162) (.seq (.reg 21) (.ret)) (.skip))) (.seq (.reg 22) (.seq (.reg 23) (.ret))))) (.seq (.reg 24) (.cond (.tmp 181) (.seq (.reg 25) (.seq (.reg 26) (.seq (.seq (.reg 27) (.cond (.tmp 197) (.seq (.reg 28) (.ret)) (.skip))) (.seq (.reg 29) (.ret))))) (.seq (.reg 2) (.ret))))))))))))))) (fnQ c52 e G) ρ)) : E L (cal e Tryz.prog 52 args G) :=
  d_fn (c := c52) Tryz.func52 (by kernel_rfl) (by kernel_rfl) (by kernel_rfl) c52_ok (by kernel_rfl) (by kernel_rfl) hρ hs h
end Go.Sp
namespace Go.Sp
open Go Go.Proofs
set_option linter.unusedSimpArgs false
set_option linter.unusedVariables false
set_option maxRecDepth 10000
abbrev opv (k id : Int) (c : UInt8) : Value := v_gharrylaw10_Op ⟨k, id, (c.toNat : Int)⟩
abbrev wpa (wb : Nat) (S : St) (sb : Nat) (w : Wo) (g : Gh) : List HP := wld wb sb S.q w.G.q w.P.q g :: wos S sb w
theorem wflu_ok {S : St} {sb : Nat} {w : Wo} (h : w.ok S sb 80) (id : Int) : (wflu S w id).2.ok S sb 80 ∧ (wflu S w id).2.P.q = w.P.q ∧ (wflu S w id).2.G.q = w.G.q := by
  unfold wflu
  cases hf : w.P.find id with
  | none => exact ⟨h, rfl, rfl⟩
  | some i =>
    obtain ⟨a, b, d⟩ := svp_ok h (find_lt hf)
    exact ⟨a, b.q, d⟩
theorem fla_ok {S : St} {sb : Nat} : ∀ (k i : Nat) (w : Wo), w.ok S sb 80 → i + k ≤ w.P.fs.length → (fla S k i w).2.ok S sb 80 ∧ w.P.like (fla S k i w).2.P ∧ (fla S k i w).2.G.q = w.G.q
  | 0, i, w, h, _ => ⟨h, .rfl', rfl⟩
  | k + 1, i, w, h, hi => by
    obtain ⟨a, b, d⟩ := svp_ok h (i := i) (by omega)
    unfold fla
    split
    · obtain ⟨a2, b2, d2⟩ := fla_ok k (i + 1) (svp S w i).2 a (by rw [b.n]; omega)
      exact ⟨a2, b.tr b2, d2.trans d⟩
    · exact ⟨a, b, d⟩
section
variable (wb : Nat) (S : St) (sb : Nat) (w : Wo) (h : w.ok S sb 80) (g : Gh) (hg : g.ok) (id : Int) (c : UInt8)
include h hg
theorem g52a {k : Int} (hk : k = 0 ∨ k = 1) : Fq eB Tryz.prog 52 #[.pointer (some ⟨wb, 0, none⟩), opv k id c] (wpa wb S sb w g) (wld wb sb S.q w.G.q w.P.q (wst S w g id c).2.2 :: wos S sb (wst S w g id c).2.1) (wst S w g id c).1 := fun L => by
  have F := g47 wb S sb 80 w h g hg id c
  generalize wst S w g id c = R at *
  obtain ⟨e, w', g'⟩ := R
  dsimp only at F ⊢
  refine c52_fn rfl rfl ?_
  rcases hk with rfl | rfl
  all_goals
    repeat' ((fail_if_success with_reducible refine nph ?_); first | (with_reducible first | (refine d_seq ?_; intro K hK) | (refine hK _ _ ?_; clear hK K) | (refine SG.p ?_; try intro b) | refine r_rq (by first | decide | omega) ?_) | ((with_reducible refine SC.p ?_); refine aI ?_ ?_) <;> intro hc <;> try simp only [push_cast, seval] at hc | ((with_reducible refine SL.p ?_); first | refine ⟨_, rfl, ?_⟩ | refine ⟨_, _, _, rfl, ?_⟩ | (refine ⟨?_, rfl, ?_⟩; focus (simp; done))) | ((with_reducible first | apply i_ldn | apply i_ldnq); iterate 3 exact rfl) | ((try with_reducible refine d_reg ?_); simp only [go_sem]) | clear hK K)
    all_goals try contradiction
    refine i_clq F ?_
    repeat' ((fail_if_success with_reducible refine nph ?_); first | (with_reducible first | (refine d_seq ?_; intro K hK) | (refine hK _ _ ?_; clear hK K) | (refine SG.p ?_; try intro b) | refine r_rq (by first | decide | omega) ?_) | ((with_reducible refine SC.p ?_); refine aI ?_ ?_) <;> intro hc <;> try simp only [push_cast, seval] at hc | ((with_reducible refine SL.p ?_); first | refine ⟨_, rfl, ?_⟩ | refine ⟨_, _, _, rfl, ?_⟩ | (refine ⟨?_, rfl, ?_⟩; focus (simp; done))) | ((with_reducible first | apply i_ldn | apply i_ldnq); iterate 3 exact rfl) | ((try with_reducible refine d_reg ?_); simp only [go_sem]) | clear hK K)
    (with_reducible first | apply i_ret0 | apply i_ret2 | apply i_ret3 | apply i_ret); exact rfl
    rfl
def stg (r : List UInt8 × Int × Int) (g : Gh) (id : Int) : Bool :=
  if id < 0 ∨ 8 ≤ id then decide (r = ([], 0, 6)) else if r.2.2 = 7 then decide (2 ≤ npn g.pin 8) else decide (r = (g.T id.toNat, g.N id.toNat, 0))
theorem g52b : Fq eB Tryz.prog 52 #[.pointer (some ⟨wb, 0, none⟩), opv 2 id c] (wpa wb S sb w g) (wld wb sb S.q w.G.q w.P.q g :: wos S sb (hld S w id).2) (stg (wget S w id) g id) := fun L => by
  have F := g49 S sb 80 w h id
  have IN := g94 id
  have PN := g93 wb sb S.q w.G.q w.P.q g hg
  generalize wget S w id = r at *
  generalize (hld S w id).2 = w' at *
  obtain ⟨s, n, e⟩ := r
  generalize hR : stg (s, n, e) g id = R
  unfold stg at hR
  dsimp only at F hR ⊢
  refine c52_fn rfl rfl ?_
  repeat' ((fail_if_success with_reducible refine nph ?_); first | (with_reducible first | (refine d_seq ?_; intro K hK) | (refine hK _ _ ?_; clear hK K) | (refine SG.p ?_; try intro b) | refine r_rq (by first | decide | omega) ?_) | ((with_reducible refine SC.p ?_); refine aI ?_ ?_) <;> intro hc <;> try simp only [push_cast, seval] at hc | ((with_reducible refine SL.p ?_); first | refine ⟨_, rfl, ?_⟩ | refine ⟨_, _, _, rfl, ?_⟩ | (refine ⟨?_, rfl, ?_⟩; focus (simp; done))) | ((with_reducible first | apply i_ldn | apply i_ldnq); iterate 3 exact rfl) | ((try with_reducible refine d_reg ?_); simp only [go_sem]) | clear hK K)
  all_goals try contradiction
  refine r_ph0 ?_
  repeat' ((fail_if_success with_reducible refine nph ?_); first | (with_reducible first | (refine d_seq ?_; intro K hK) | (refine hK _ _ ?_; clear hK K) | (refine SG.p ?_; try intro b) | refine r_rq (by first | decide | omega) ?_) | ((with_reducible refine SC.p ?_); refine aI ?_ ?_) <;> intro hc <;> try simp only [push_cast, seval] at hc | ((with_reducible refine SL.p ?_); first | refine ⟨_, rfl, ?_⟩ | refine ⟨_, _, _, rfl, ?_⟩ | (refine ⟨?_, rfl, ?_⟩; focus (simp; done))) | ((with_reducible first | apply i_ldn | apply i_ldnq); iterate 3 exact rfl) | ((try with_reducible refine d_reg ?_); simp only [go_sem]) | clear hK K)
  refine i_clq F ?_
  repeat' ((fail_if_success with_reducible refine nph ?_); first | (with_reducible first | (refine d_seq ?_; intro K hK) | (refine hK _ _ ?_; clear hK K) | (refine SG.p ?_; try intro b) | refine r_rq (by first | decide | omega) ?_) | ((with_reducible refine SC.p ?_); refine aI ?_ ?_) <;> intro hc <;> try simp only [push_cast, seval] at hc | ((with_reducible refine SL.p ?_); first | refine ⟨_, rfl, ?_⟩ | refine ⟨_, _, _, rfl, ?_⟩ | (refine ⟨?_, rfl, ?_⟩; focus (simp; done))) | ((with_reducible first | apply i_ldn | apply i_ldnq); iterate 3 exact rfl) | ((try with_reducible refine d_reg ?_); simp only [go_sem]) | clear hK K)
  refine i_clp IN ?_
  by_cases hr : id < 0 ∨ 8 ≤ id
  · rw [if_pos hr] at hR
    rw [decide_eq_false (by omega)]
    repeat' ((fail_if_success with_reducible refine nph ?_); first | (with_reducible first | (refine d_seq ?_; intro K hK) | (refine hK _ _ ?_; clear hK K) | (refine SG.p ?_; try intro b) | refine r_rq (by first | decide | omega) ?_) | ((with_reducible refine SC.p ?_); refine aI ?_ ?_) <;> intro hc <;> try simp only [push_cast, seval] at hc | ((with_reducible refine SL.p ?_); first | refine ⟨_, rfl, ?_⟩ | refine ⟨_, _, _, rfl, ?_⟩ | (refine ⟨?_, rfl, ?_⟩; focus (simp; done))) | ((with_reducible first | apply i_ldn | apply i_ldnq); iterate 3 exact rfl) | ((try with_reducible refine d_reg ?_); simp only [go_sem]) | clear hK K)
    all_goals try contradiction
    all_goals
      (with_reducible first | apply i_ret0 | apply i_ret2 | apply i_ret3 | apply i_ret); exact rfl
      subst hR
      rw [Bool.eq_iff_iff]
      simp_all
  · rw [if_neg hr] at hR
    rw [decide_eq_true (by omega)]
    obtain ⟨m, rfl⟩ : ∃ m : Nat, id = (m : Int) := ⟨id.toNat, by omega⟩
    have hm : m < 8 := by omega
    have hT := gcl_txt (sb := sb) (sq := S.q) (lq := w.G.q) (pq := w.P.q) hg hm
    have hN := gcl_lsn (sb := sb) (sq := S.q) (lq := w.G.q) (pq := w.P.q) hg hm
    rw [Int.toNat_natCast] at hR
    repeat' ((fail_if_success with_reducible refine nph ?_); first | (with_reducible first | (refine d_seq ?_; intro K hK) | (refine hK _ _ ?_; clear hK K) | (refine SG.p ?_; try intro b) | refine r_rq (by first | decide | omega) ?_) | ((with_reducible refine SC.p ?_); refine aI ?_ ?_) <;> intro hc <;> try simp only [push_cast, seval] at hc | ((with_reducible refine SL.p ?_); first | refine ⟨_, rfl, ?_⟩ | refine ⟨_, _, _, rfl, ?_⟩ | (refine ⟨?_, rfl, ?_⟩; focus (simp; done))) | ((with_reducible first | apply i_ldn | apply i_ldnq); iterate 3 exact rfl) | ((try with_reducible refine d_reg ?_); simp only [go_sem]) | clear hK K)
    all_goals try contradiction
    · have h7 : e = 7 := by assumption
      subst h7
      rw [if_pos rfl] at hR
      refine i_clp PN ?_
      refine r_ph0 ?_
      repeat' ((fail_if_success with_reducible refine nph ?_); first | (with_reducible first | (refine d_seq ?_; intro K hK) | (refine hK _ _ ?_; clear hK K) | (refine SG.p ?_; try intro b) | refine r_rq (by first | decide | omega) ?_) | ((with_reducible refine SC.p ?_); refine aI ?_ ?_) <;> intro hc <;> try simp only [push_cast, seval] at hc | ((with_reducible refine SL.p ?_); first | refine ⟨_, rfl, ?_⟩ | refine ⟨_, _, _, rfl, ?_⟩ | (refine ⟨?_, rfl, ?_⟩; focus (simp; done))) | ((with_reducible first | apply i_ldn | apply i_ldnq); iterate 3 exact rfl) | ((try with_reducible refine d_reg ?_); simp only [go_sem]) | clear hK K)
      all_goals try contradiction
      all_goals
        (with_reducible first | apply i_ret0 | apply i_ret2 | apply i_ret3 | apply i_ret); exact rfl
        rw [← hR]
        first | (rw [decide_eq_true (by omega)]; done) | (rw [decide_eq_false (by omega)]; done)
    · refine r_ph0 ?_
      have h7 : ¬ e = 7 := by assumption
      rw [if_neg h7] at hR
      repeat' ((fail_if_success with_reducible refine nph ?_); first | (with_reducible first | (refine d_seq ?_; intro K hK) | (refine hK _ _ ?_; clear hK K) | (refine SG.p ?_; try intro b) | refine r_rq (by first | decide | omega) ?_) | ((with_reducible refine SC.p ?_); refine aI ?_ ?_) <;> intro hc <;> try simp only [push_cast, seval] at hc | ((with_reducible refine SL.p ?_); first | refine ⟨_, rfl, ?_⟩ | refine ⟨_, _, _, rfl, ?_⟩ | (refine ⟨?_, rfl, ?_⟩; focus (simp; done))) | ((with_reducible first | apply i_ldn | apply i_ldnq); iterate 3 exact rfl) | ((try with_reducible refine d_reg ?_); simp only [go_sem]) | clear hK K)
      all_goals try contradiction
      · refine i_ldq (e := eS) (o := 4 + m) hT ?_
        repeat' ((fail_if_success with_reducible refine nph ?_); first | (with_reducible first | (refine d_seq ?_; intro K hK) | (refine hK _ _ ?_; clear hK K) | (refine SG.p ?_; try intro b) | refine r_rq (by first | decide | omega) ?_) | ((with_reducible refine SC.p ?_); refine aI ?_ ?_) <;> intro hc <;> try simp only [push_cast, seval] at hc | ((with_reducible refine SL.p ?_); first | refine ⟨_, rfl, ?_⟩ | refine ⟨_, _, _, rfl, ?_⟩ | (refine ⟨?_, rfl, ?_⟩; focus (simp; done))) | ((with_reducible first | apply i_ldn | apply i_ldnq); iterate 3 exact rfl) | ((try with_reducible refine d_reg ?_); simp only [go_sem]) | clear hK K)
        · refine i_ldq (e := eI) (o := 12 + m) hN ?_
          repeat' ((fail_if_success with_reducible refine nph ?_); first | (with_reducible first | (refine d_seq ?_; intro K hK) | (refine hK _ _ ?_; clear hK K) | (refine SG.p ?_; try intro b) | refine r_rq (by first | decide | omega) ?_) | ((with_reducible refine SC.p ?_); refine aI ?_ ?_) <;> intro hc <;> try simp only [push_cast, seval] at hc | ((with_reducible refine SL.p ?_); first | refine ⟨_, rfl, ?_⟩ | refine ⟨_, _, _, rfl, ?_⟩ | (refine ⟨?_, rfl, ?_⟩; focus (simp; done))) | ((with_reducible first | apply i_ldn | apply i_ldnq); iterate 3 exact rfl) | ((try with_reducible refine d_reg ?_); simp only [go_sem]) | clear hK K)
          (with_reducible first | apply i_ret0 | apply i_ret2 | apply i_ret3 | apply i_ret); exact rfl
          subst hR
          rw [Bool.eq_iff_iff]
          simp_all
        · (with_reducible first | apply i_ret0 | apply i_ret2 | apply i_ret3 | apply i_ret); exact rfl
          subst hR
          rw [Bool.eq_iff_iff]
          simp_all
      · (with_reducible first | apply i_ret0 | apply i_ret2 | apply i_ret3 | apply i_ret); exact rfl
        subst hR
        rw [Bool.eq_iff_iff]
        simp_all
def stb (r : Int × Wo) (g : Gh) (id : Int) : Bool × Wo × Gh :=
  if id < 0 ∨ 8 ≤ id then (decide (r.1 = 6), r.2, g) else if r.1 = 0 then (true, r.2, { g with pin := g.pin.set id.toNat (IntKind.wrap .i64 (g.P id.toNat + 1)) }) else (decide (r.1 = 7 ∧ 2 ≤ npn g.pin 8), r.2, g)
set_option maxHeartbeats 1000000 in
theorem g52c : Fq eB Tryz.prog 52 #[.pointer (some ⟨wb, 0, none⟩), opv 3 id c] (wpa wb S sb w g) (wld wb sb S.q w.G.q w.P.q (stb (wpin S w id) g id).2.2 :: wos S sb (stb (wpin S w id) g id).2.1) (stb (wpin S w id) g id).1 := fun L => by
  have F := g48 S sb 80 w h id
  have IN := g94 id
  have PN := g93 wb sb S.q w.G.q w.P.q g hg
  generalize wpin S w id = r at *
  obtain ⟨e, w'⟩ := r
  generalize hR : stb (e, w') g id = R
  unfold stb at hR
  dsimp only at F hR ⊢
  refine c52_fn rfl rfl ?_
  repeat' ((fail_if_success with_reducible refine nph ?_); first | (with_reducible first | (refine d_seq ?_; intro K hK) | (refine hK _ _ ?_; clear hK K) | (refine SG.p ?_; try intro b) | refine r_rq (by first | decide | omega) ?_) | ((with_reducible refine SC.p ?_); refine aI ?_ ?_) <;> intro hc <;> try simp only [push_cast, seval] at hc | ((with_reducible refine SL.p ?_); first | refine ⟨_, rfl, ?_⟩ | refine ⟨_, _, _, rfl, ?_⟩ | (refine ⟨?_, rfl, ?_⟩; focus (simp; done))) | ((with_reducible first | apply i_ldn | apply i_ldnq); iterate 3 exact rfl) | ((try with_reducible refine d_reg ?_); simp only [go_sem]) | clear hK K)
  all_goals try contradiction
  refine r_ph0 ?_
  repeat' ((fail_if_success with_reducible refine nph ?_); first | (with_reducible first | (refine d_seq ?_; intro K hK) | (refine hK _ _ ?_; clear hK K) | (refine SG.p ?_; try intro b) | refine r_rq (by first | decide | omega) ?_) | ((with_reducible refine SC.p ?_); refine aI ?_ ?_) <;> intro hc <;> try simp only [push_cast, seval] at hc | ((with_reducible refine SL.p ?_); first | refine ⟨_, rfl, ?_⟩ | refine ⟨_, _, _, rfl, ?_⟩ | (refine ⟨?_, rfl, ?_⟩; focus (simp; done))) | ((with_reducible first | apply i_ldn | apply i_ldnq); iterate 3 exact rfl) | ((try with_reducible refine d_reg ?_); simp only [go_sem]) | clear hK K)
  refine i_clq F ?_
  repeat' ((fail_if_success with_reducible refine nph ?_); first | (with_reducible first | (refine d_seq ?_; intro K hK) | (refine hK _ _ ?_; clear hK K) | (refine SG.p ?_; try intro b) | refine r_rq (by first | decide | omega) ?_) | ((with_reducible refine SC.p ?_); refine aI ?_ ?_) <;> intro hc <;> try simp only [push_cast, seval] at hc | ((with_reducible refine SL.p ?_); first | refine ⟨_, rfl, ?_⟩ | refine ⟨_, _, _, rfl, ?_⟩ | (refine ⟨?_, rfl, ?_⟩; focus (simp; done))) | ((with_reducible first | apply i_ldn | apply i_ldnq); iterate 3 exact rfl) | ((try with_reducible refine d_reg ?_); simp only [go_sem]) | clear hK K)
  refine i_clp IN ?_
  by_cases hr : id < 0 ∨ 8 ≤ id
  · rw [if_pos hr] at hR
    subst hR
    rw [decide_eq_false (by omega)]
    repeat' ((fail_if_success with_reducible refine nph ?_); first | (with_reducible first | (refine d_seq ?_; intro K hK) | (refine hK _ _ ?_; clear hK K) | (refine SG.p ?_; try intro b) | refine r_rq (by first | decide | omega) ?_) | ((with_reducible refine SC.p ?_); refine aI ?_ ?_) <;> intro hc <;> try simp only [push_cast, seval] at hc | ((with_reducible refine SL.p ?_); first | refine ⟨_, rfl, ?_⟩ | refine ⟨_, _, _, rfl, ?_⟩ | (refine ⟨?_, rfl, ?_⟩; focus (simp; done))) | ((with_reducible first | apply i_ldn | apply i_ldnq); iterate 3 exact rfl) | ((try with_reducible refine d_reg ?_); simp only [go_sem]) | clear hK K)
    all_goals try contradiction
    (with_reducible first | apply i_ret0 | apply i_ret2 | apply i_ret3 | apply i_ret); exact rfl
    rw [Bool.eq_iff_iff]
    simp
  · rw [if_neg hr] at hR
    rw [decide_eq_true (by omega)]
    obtain ⟨m, rfl⟩ : ∃ m : Nat, id = (m : Int) := ⟨id.toNat, by omega⟩
    have hm : m < 8 := by omega
    have hT := gcl_pin (sb := sb) (sq := S.q) (lq := w.G.q) (pq := w.P.q) hg hm
    have gl := gcl_len (sb := sb) (sq := S.q) (lq := w.G.q) (pq := w.P.q) hg
    have ST := fun n => set_pin (sb := sb) (sq := S.q) (lq := w.G.q) (pq := w.P.q) hg hm n
    rw [Int.toNat_natCast] at hR
    by_cases h0 : e = 0
    · subst h0
      rw [if_pos rfl] at hR
      subst hR
      repeat' ((fail_if_success with_reducible refine nph ?_); first | (with_reducible first | (refine d_seq ?_; intro K hK) | (refine hK _ _ ?_; clear hK K) | (refine SG.p ?_; try intro b) | refine r_rq (by first | decide | omega) ?_) | ((with_reducible refine SC.p ?_); refine aI ?_ ?_) <;> intro hc <;> try simp only [push_cast, seval] at hc | ((with_reducible refine SL.p ?_); first | refine ⟨_, rfl, ?_⟩ | refine ⟨_, _, _, rfl, ?_⟩ | (refine ⟨?_, rfl, ?_⟩; focus (simp; done))) | ((with_reducible first | apply i_ldn | apply i_ldnq); iterate 3 exact rfl) | ((try with_reducible refine d_reg ?_); simp only [go_sem]) | clear hK K)
      all_goals try contradiction
      refine r_ph0 ?_
      repeat' ((fail_if_success with_reducible refine nph ?_); first | (with_reducible first | (refine d_seq ?_; intro K hK) | (refine hK _ _ ?_; clear hK K) | (refine SG.p ?_; try intro b) | refine r_rq (by first | decide | omega) ?_) | ((with_reducible refine SC.p ?_); refine aI ?_ ?_) <;> intro hc <;> try simp only [push_cast, seval] at hc | ((with_reducible refine SL.p ?_); first | refine ⟨_, rfl, ?_⟩ | refine ⟨_, _, _, rfl, ?_⟩ | (refine ⟨?_, rfl, ?_⟩; focus (simp; done))) | ((with_reducible first | apply i_ldn | apply i_ldnq); iterate 3 exact rfl) | ((try with_reducible refine d_reg ?_); simp only [go_sem]) | clear hK K)
      refine i_ldq (e := eI) (o := 20 + m) hT ?_
      repeat' ((fail_if_success with_reducible refine nph ?_); first | (with_reducible first | (refine d_seq ?_; intro K hK) | (refine hK _ _ ?_; clear hK K) | (refine SG.p ?_; try intro b) | refine r_rq (by first | decide | omega) ?_) | ((with_reducible refine SC.p ?_); refine aI ?_ ?_) <;> intro hc <;> try simp only [push_cast, seval] at hc | ((with_reducible refine SL.p ?_); first | refine ⟨_, rfl, ?_⟩ | refine ⟨_, _, _, rfl, ?_⟩ | (refine ⟨?_, rfl, ?_⟩; focus (simp; done))) | ((with_reducible first | apply i_ldn | apply i_ldnq); iterate 3 exact rfl) | ((try with_reducible refine d_reg ?_); simp only [go_sem]) | clear hK K)
      refine i_st (by rw [gl]; omega) rfl ?_
      rw [ST]
      repeat' ((fail_if_success with_reducible refine nph ?_); first | (with_reducible first | (refine d_seq ?_; intro K hK) | (refine hK _ _ ?_; clear hK K) | (refine SG.p ?_; try intro b) | refine r_rq (by first | decide | omega) ?_) | ((with_reducible refine SC.p ?_); refine aI ?_ ?_) <;> intro hc <;> try simp only [push_cast, seval] at hc | ((with_reducible refine SL.p ?_); first | refine ⟨_, rfl, ?_⟩ | refine ⟨_, _, _, rfl, ?_⟩ | (refine ⟨?_, rfl, ?_⟩; focus (simp; done))) | ((with_reducible first | apply i_ldn | apply i_ldnq); iterate 3 exact rfl) | ((try with_reducible refine d_reg ?_); simp only [go_sem]) | clear hK K)
      all_goals try contradiction
      (with_reducible first | apply i_ret0 | apply i_ret2 | apply i_ret3 | apply i_ret); exact rfl
      rfl
    · rw [if_neg h0] at hR
      subst hR
      repeat' ((fail_if_success with_reducible refine nph ?_); first | (with_reducible first | (refine d_seq ?_; intro K hK) | (refine hK _ _ ?_; clear hK K) | (refine SG.p ?_; try intro b) | refine r_rq (by first | decide | omega) ?_) | ((with_reducible refine SC.p ?_); refine aI ?_ ?_) <;> intro hc <;> try simp only [push_cast, seval] at hc | ((with_reducible refine SL.p ?_); first | refine ⟨_, rfl, ?_⟩ | refine ⟨_, _, _, rfl, ?_⟩ | (refine ⟨?_, rfl, ?_⟩; focus (simp; done))) | ((with_reducible first | apply i_ldn | apply i_ldnq); iterate 3 exact rfl) | ((try with_reducible refine d_reg ?_); simp only [go_sem]) | clear hK K)
      all_goals try contradiction
      · refine i_clp PN ?_
        repeat' ((fail_if_success with_reducible refine nph ?_); first | (with_reducible first | (refine d_seq ?_; intro K hK) | (refine hK _ _ ?_; clear hK K) | (refine SG.p ?_; try intro b) | refine r_rq (by first | decide | omega) ?_) | ((with_reducible refine SC.p ?_); refine aI ?_ ?_) <;> intro hc <;> try simp only [push_cast, seval] at hc | ((with_reducible refine SL.p ?_); first | refine ⟨_, rfl, ?_⟩ | refine ⟨_, _, _, rfl, ?_⟩ | (refine ⟨?_, rfl, ?_⟩; focus (simp; done))) | ((with_reducible first | apply i_ldn | apply i_ldnq); iterate 3 exact rfl) | ((try with_reducible refine d_reg ?_); simp only [go_sem]) | clear hK K)
        (with_reducible first | apply i_ret0 | apply i_ret2 | apply i_ret3 | apply i_ret); exact rfl
        rw [Bool.eq_iff_iff]
        simp_all
        omega
      · (with_reducible first | apply i_ret0 | apply i_ret2 | apply i_ret3 | apply i_ret); exact rfl
        rw [Bool.eq_iff_iff]
        simp_all
def stu (r : Int × Po) (w : Wo) (g : Gh) (id : Int) : Bool × Wo × Gh :=
  if id < 0 ∨ 8 ≤ id ∨ g.P id.toNat = 0 then (decide (r.1 = 8), ⟨r.2, w.G, w.Z⟩, g) else (decide (r.1 = 0), ⟨r.2, w.G, w.Z⟩, { g with pin := g.pin.set id.toNat (IntKind.wrap .i64 (g.P id.toNat - 1)) })
set_option maxHeartbeats 1000000 in
theorem g52d : Fq eB Tryz.prog 52 #[.pointer (some ⟨wb, 0, none⟩), opv 4 id c] (wpa wb S sb w g) (wld wb sb S.q w.G.q w.P.q (stu (w.P.unp id) w g id).2.2 :: wos S sb (stu (w.P.unp id) w g id).2.1) (stu (w.P.unp id) w g id).1 := fun L => by
  have F := g50 w.P h.p id
  have IN := g94 id
  generalize w.P.unp id = r at *
  obtain ⟨e, P'⟩ := r
  generalize hR : stu (e, P') w g id = R
  unfold stu at hR
  dsimp only at F hR ⊢
  refine c52_fn rfl rfl ?_
  repeat' ((fail_if_success with_reducible refine nph ?_); first | (with_reducible first | (refine d_seq ?_; intro K hK) | (refine hK _ _ ?_; clear hK K) | (refine SG.p ?_; try intro b) | refine r_rq (by first | decide | omega) ?_) | ((with_reducible refine SC.p ?_); refine aI ?_ ?_) <;> intro hc <;> try simp only [push_cast, seval] at hc | ((with_reducible refine SL.p ?_); first | refine ⟨_, rfl, ?_⟩ | refine ⟨_, _, _, rfl, ?_⟩ | (refine ⟨?_, rfl, ?_⟩; focus (simp; done))) | ((with_reducible first | apply i_ldn | apply i_ldnq); iterate 3 exact rfl) | ((try with_reducible refine d_reg ?_); simp only [go_sem]) | clear hK K)
  all_goals try contradiction
  refine r_ph0 ?_
  repeat' ((fail_if_success with_reducible refine nph ?_); first | (with_reducible first | (refine d_seq ?_; intro K hK) | (refine hK _ _ ?_; clear hK K) | (refine SG.p ?_; try intro b) | refine r_rq (by first | decide | omega) ?_) | ((with_reducible refine SC.p ?_); refine aI ?_ ?_) <;> intro hc <;> try simp only [push_cast, seval] at hc | ((with_reducible refine SL.p ?_); first | refine ⟨_, rfl, ?_⟩ | refine ⟨_, _, _, rfl, ?_⟩ | (refine ⟨?_, rfl, ?_⟩; focus (simp; done))) | ((with_reducible first | apply i_ldn | apply i_ldnq); iterate 3 exact rfl) | ((try with_reducible refine d_reg ?_); simp only [go_sem]) | clear hK K)
  refine i_clq F ?_
  repeat' ((fail_if_success with_reducible refine nph ?_); first | (with_reducible first | (refine d_seq ?_; intro K hK) | (refine hK _ _ ?_; clear hK K) | (refine SG.p ?_; try intro b) | refine r_rq (by first | decide | omega) ?_) | ((with_reducible refine SC.p ?_); refine aI ?_ ?_) <;> intro hc <;> try simp only [push_cast, seval] at hc | ((with_reducible refine SL.p ?_); first | refine ⟨_, rfl, ?_⟩ | refine ⟨_, _, _, rfl, ?_⟩ | (refine ⟨?_, rfl, ?_⟩; focus (simp; done))) | ((with_reducible first | apply i_ldn | apply i_ldnq); iterate 3 exact rfl) | ((try with_reducible refine d_reg ?_); simp only [go_sem]) | clear hK K)
  refine r_ph0 ?_
  repeat' ((fail_if_success with_reducible refine nph ?_); first | (with_reducible first | (refine d_seq ?_; intro K hK) | (refine hK _ _ ?_; clear hK K) | (refine SG.p ?_; try intro b) | refine r_rq (by first | decide | omega) ?_) | ((with_reducible refine SC.p ?_); refine aI ?_ ?_) <;> intro hc <;> try simp only [push_cast, seval] at hc | ((with_reducible refine SL.p ?_); first | refine ⟨_, rfl, ?_⟩ | refine ⟨_, _, _, rfl, ?_⟩ | (refine ⟨?_, rfl, ?_⟩; focus (simp; done))) | ((with_reducible first | apply i_ldn | apply i_ldnq); iterate 3 exact rfl) | ((try with_reducible refine d_reg ?_); simp only [go_sem]) | clear hK K)
  refine i_clp IN ?_
  refine r_ph0 ?_
  by_cases hr : id < 0 ∨ 8 ≤ id
  · rw [if_pos (by omega)] at hR
    subst hR
    rw [decide_eq_false (by omega)]
    repeat' ((fail_if_success with_reducible refine nph ?_); first | (with_reducible first | (refine d_seq ?_; intro K hK) | (refine hK _ _ ?_; clear hK K) | (refine SG.p ?_; try intro b) | refine r_rq (by first | decide | omega) ?_) | ((with_reducible refine SC.p ?_); refine aI ?_ ?_) <;> intro hc <;> try simp only [push_cast, seval] at hc | ((with_reducible refine SL.p ?_); first | refine ⟨_, rfl, ?_⟩ | refine ⟨_, _, _, rfl, ?_⟩ | (refine ⟨?_, rfl, ?_⟩; focus (simp; done))) | ((with_reducible first | apply i_ldn | apply i_ldnq); iterate 3 exact rfl) | ((try with_reducible refine d_reg ?_); simp only [go_sem]) | clear hK K)
    all_goals try contradiction
    (with_reducible first | apply i_ret0 | apply i_ret2 | apply i_ret3 | apply i_ret); exact rfl
    rw [Bool.eq_iff_iff]
    simp
  · rw [decide_eq_true (by omega)]
    obtain ⟨m, rfl⟩ : ∃ m : Nat, id = (m : Int) := ⟨id.toNat, by omega⟩
    have hm : m < 8 := by omega
    have hT := gcl_pin (sb := sb) (sq := S.q) (lq := w.G.q) (pq := w.P.q) hg hm
    have gl := gcl_len (sb := sb) (sq := S.q) (lq := w.G.q) (pq := w.P.q) hg
    have ST := fun n => set_pin (sb := sb) (sq := S.q) (lq := w.G.q) (pq := w.P.q) hg hm n
    rw [Int.toNat_natCast] at hR
    repeat' ((fail_if_success with_reducible refine nph ?_); first | (with_reducible first | (refine d_seq ?_; intro K hK) | (refine hK _ _ ?_; clear hK K) | (refine SG.p ?_; try intro b) | refine r_rq (by first | decide | omega) ?_) | ((with_reducible refine SC.p ?_); refine aI ?_ ?_) <;> intro hc <;> try simp only [push_cast, seval] at hc | ((with_reducible refine SL.p ?_); first | refine ⟨_, rfl, ?_⟩ | refine ⟨_, _, _, rfl, ?_⟩ | (refine ⟨?_, rfl, ?_⟩; focus (simp; done))) | ((with_reducible first | apply i_ldn | apply i_ldnq); iterate 3 exact rfl) | ((try with_reducible refine d_reg ?_); simp only [go_sem]) | clear hK K)
    all_goals try contradiction
    refine i_ldq (e := eI) (o := 20 + m) hT ?_
    by_cases h0 : g.P m = 0
    · rw [if_pos (.inr (.inr h0))] at hR
      subst hR
      rw [show g.pin.getD m 0 = 0 from h0]
      repeat' ((fail_if_success with_reducible refine nph ?_); first | (with_reducible first | (refine d_seq ?_; intro K hK) | (refine hK _ _ ?_; clear hK K) | (refine SG.p ?_; try intro b) | refine r_rq (by first | decide | omega) ?_) | ((with_reducible refine SC.p ?_); refine aI ?_ ?_) <;> intro hc <;> try simp only [push_cast, seval] at hc | ((with_reducible refine SL.p ?_); first | refine ⟨_, rfl, ?_⟩ | refine ⟨_, _, _, rfl, ?_⟩ | (refine ⟨?_, rfl, ?_⟩; focus (simp; done))) | ((with_reducible first | apply i_ldn | apply i_ldnq); iterate 3 exact rfl) | ((try with_reducible refine d_reg ?_); simp only [go_sem]) | clear hK K)
      all_goals try contradiction
      (with_reducible first | apply i_ret0 | apply i_ret2 | apply i_ret3 | apply i_ret); exact rfl
      rw [Bool.eq_iff_iff]
      simp
    · rw [if_neg (by omega)] at hR
      subst hR
      repeat' ((fail_if_success with_reducible refine nph ?_); first | (with_reducible first | (refine d_seq ?_; intro K hK) | (refine hK _ _ ?_; clear hK K) | (refine SG.p ?_; try intro b) | refine r_rq (by first | decide | omega) ?_) | ((with_reducible refine SC.p ?_); refine aI ?_ ?_) <;> intro hc <;> try simp only [push_cast, seval] at hc | ((with_reducible refine SL.p ?_); first | refine ⟨_, rfl, ?_⟩ | refine ⟨_, _, _, rfl, ?_⟩ | (refine ⟨?_, rfl, ?_⟩; focus (simp; done))) | ((with_reducible first | apply i_ldn | apply i_ldnq); iterate 3 exact rfl) | ((try with_reducible refine d_reg ?_); simp only [go_sem]) | clear hK K)
      all_goals try contradiction
      refine r_ph0 ?_
      repeat' ((fail_if_success with_reducible refine nph ?_); first | (with_reducible first | (refine d_seq ?_; intro K hK) | (refine hK _ _ ?_; clear hK K) | (refine SG.p ?_; try intro b) | refine r_rq (by first | decide | omega) ?_) | ((with_reducible refine SC.p ?_); refine aI ?_ ?_) <;> intro hc <;> try simp only [push_cast, seval] at hc | ((with_reducible refine SL.p ?_); first | refine ⟨_, rfl, ?_⟩ | refine ⟨_, _, _, rfl, ?_⟩ | (refine ⟨?_, rfl, ?_⟩; focus (simp; done))) | ((with_reducible first | apply i_ldn | apply i_ldnq); iterate 3 exact rfl) | ((try with_reducible refine d_reg ?_); simp only [go_sem]) | clear hK K)
      refine i_ldq (e := eI) (o := 20 + m) hT ?_
      repeat' ((fail_if_success with_reducible refine nph ?_); first | (with_reducible first | (refine d_seq ?_; intro K hK) | (refine hK _ _ ?_; clear hK K) | (refine SG.p ?_; try intro b) | refine r_rq (by first | decide | omega) ?_) | ((with_reducible refine SC.p ?_); refine aI ?_ ?_) <;> intro hc <;> try simp only [push_cast, seval] at hc | ((with_reducible refine SL.p ?_); first | refine ⟨_, rfl, ?_⟩ | refine ⟨_, _, _, rfl, ?_⟩ | (refine ⟨?_, rfl, ?_⟩; focus (simp; done))) | ((with_reducible first | apply i_ldn | apply i_ldnq); iterate 3 exact rfl) | ((try with_reducible refine d_reg ?_); simp only [go_sem]) | clear hK K)
      refine i_st (by rw [gl]; omega) rfl ?_
      rw [ST]
      repeat' ((fail_if_success with_reducible refine nph ?_); first | (with_reducible first | (refine d_seq ?_; intro K hK) | (refine hK _ _ ?_; clear hK K) | (refine SG.p ?_; try intro b) | refine r_rq (by first | decide | omega) ?_) | ((with_reducible refine SC.p ?_); refine aI ?_ ?_) <;> intro hc <;> try simp only [push_cast, seval] at hc | ((with_reducible refine SL.p ?_); first | refine ⟨_, rfl, ?_⟩ | refine ⟨_, _, _, rfl, ?_⟩ | (refine ⟨?_, rfl, ?_⟩; focus (simp; done))) | ((with_reducible first | apply i_ldn | apply i_ldnq); iterate 3 exact rfl) | ((try with_reducible refine d_reg ?_); simp only [go_sem]) | clear hK K)
      (with_reducible first | apply i_ret0 | apply i_ret2 | apply i_ret3 | apply i_ret); exact rfl
      rw [Bool.eq_iff_iff]
      simp
def stf (S : St) (was : Bool) (r : Int × Wo) (g : Gh) (id : Int) : Bool :=
  if was = true then decide (r.1 = 0 ∧ r.2.P.dirt id = false ∧ (r.2.Z.rpg S id).2.2 = 0 ∧ (r.2.Z.rpg S id).2.1 = g.N id.toNat) else decide (r.1 = 0 ∨ r.1 = 8)
set_option maxHeartbeats 1000000 in
theorem g52e (hid : w.P.dirt id = true → 0 ≤ id ∧ id < 8) : Fq eB Tryz.prog 52 #[.pointer (some ⟨wb, 0, none⟩), opv 5 id c] (wpa wb S sb w g) (wld wb sb S.q w.G.q w.P.q g :: wos S sb (wflu S w id).2) (stf S (w.P.dirt id) (wflu S w id) g id) := fun L => by
  have D1 := g45 w.P h.p id
  have F := g56 S sb 80 w h id
  obtain ⟨k1, k2, k3⟩ := wflu_ok h id
  have D2 := g45 (wflu S w id).2.P k1.p id
  have IS := fun n => f53 S (wflu S w id).2.Z k1.z (by rw [k1.nn]; exact k1.s) id n
  rw [k1.sb] at IS
  rw [show (wflu S w id).2.P.p = w.P.p from congrArg (fun q => Value.pointer (some ⟨q, 0, none⟩)) k2] at D2
  generalize wflu S w id = r at *
  obtain ⟨e, w'⟩ := r
  dsimp only at *
  generalize hR : stf S (w.P.dirt id) (e, w') g id = R
  unfold stf at hR
  dsimp only at hR
  generalize w'.Z.rpg S id = rr at *
  obtain ⟨r1, r2, r3⟩ := rr
  generalize w.P.dirt id = was at *
  generalize w'.P.dirt id = dn at *
  dsimp only at hR IS
  refine c52_fn rfl rfl ?_
  repeat' ((fail_if_success with_reducible refine nph ?_); first | (with_reducible first | (refine d_seq ?_; intro K hK) | (refine hK _ _ ?_; clear hK K) | (refine SG.p ?_; try intro b) | refine r_rq (by first | decide | omega) ?_) | ((with_reducible refine SC.p ?_); refine aI ?_ ?_) <;> intro hc <;> try simp only [push_cast, seval] at hc | ((with_reducible refine SL.p ?_); first | refine ⟨_, rfl, ?_⟩ | refine ⟨_, _, _, rfl, ?_⟩ | (refine ⟨?_, rfl, ?_⟩; focus (simp; done))) | ((with_reducible first | apply i_ldn | apply i_ldnq); iterate 3 exact rfl) | ((try with_reducible refine d_reg ?_); simp only [go_sem]) | clear hK K)
  all_goals try contradiction
  refine r_ph0 ?_
  repeat' ((fail_if_success with_reducible refine nph ?_); first | (with_reducible first | (refine d_seq ?_; intro K hK) | (refine hK _ _ ?_; clear hK K) | (refine SG.p ?_; try intro b) | refine r_rq (by first | decide | omega) ?_) | ((with_reducible refine SC.p ?_); refine aI ?_ ?_) <;> intro hc <;> try simp only [push_cast, seval] at hc | ((with_reducible refine SL.p ?_); first | refine ⟨_, rfl, ?_⟩ | refine ⟨_, _, _, rfl, ?_⟩ | (refine ⟨?_, rfl, ?_⟩; focus (simp; done))) | ((with_reducible first | apply i_ldn | apply i_ldnq); iterate 3 exact rfl) | ((try with_reducible refine d_reg ?_); simp only [go_sem]) | clear hK K)
  refine i_clp D1 ?_
  repeat' ((fail_if_success with_reducible refine nph ?_); first | (with_reducible first | (refine d_seq ?_; intro K hK) | (refine hK _ _ ?_; clear hK K) | (refine SG.p ?_; try intro b) | refine r_rq (by first | decide | omega) ?_) | ((with_reducible refine SC.p ?_); refine aI ?_ ?_) <;> intro hc <;> try simp only [push_cast, seval] at hc | ((with_reducible refine SL.p ?_); first | refine ⟨_, rfl, ?_⟩ | refine ⟨_, _, _, rfl, ?_⟩ | (refine ⟨?_, rfl, ?_⟩; focus (simp; done))) | ((with_reducible first | apply i_ldn | apply i_ldnq); iterate 3 exact rfl) | ((try with_reducible refine d_reg ?_); simp only [go_sem]) | clear hK K)
  refine r_ph0 ?_
  repeat' ((fail_if_success with_reducible refine nph ?_); first | (with_reducible first | (refine d_seq ?_; intro K hK) | (refine hK _ _ ?_; clear hK K) | (refine SG.p ?_; try intro b) | refine r_rq (by first | decide | omega) ?_) | ((with_reducible refine SC.p ?_); refine aI ?_ ?_) <;> intro hc <;> try simp only [push_cast, seval] at hc | ((with_reducible refine SL.p ?_); first | refine ⟨_, rfl, ?_⟩ | refine ⟨_, _, _, rfl, ?_⟩ | (refine ⟨?_, rfl, ?_⟩; focus (simp; done))) | ((with_reducible first | apply i_ldn | apply i_ldnq); iterate 3 exact rfl) | ((try with_reducible refine d_reg ?_); simp only [go_sem]) | clear hK K)
  refine i_clq F ?_
  repeat' ((fail_if_success with_reducible refine nph ?_); first | (with_reducible first | (refine d_seq ?_; intro K hK) | (refine hK _ _ ?_; clear hK K) | (refine SG.p ?_; try intro b) | refine r_rq (by first | decide | omega) ?_) | ((with_reducible refine SC.p ?_); refine aI ?_ ?_) <;> intro hc <;> try simp only [push_cast, seval] at hc | ((with_reducible refine SL.p ?_); first | refine ⟨_, rfl, ?_⟩ | refine ⟨_, _, _, rfl, ?_⟩ | (refine ⟨?_, rfl, ?_⟩; focus (simp; done))) | ((with_reducible first | apply i_ldn | apply i_ldnq); iterate 3 exact rfl) | ((try with_reducible refine d_reg ?_); simp only [go_sem]) | clear hK K)
  · have hw : was = true := by assumption
    obtain ⟨m, rfl⟩ : ∃ m : Nat, id = (m : Int) := ⟨id.toNat, by have := hid hw; omega⟩
    have hm : m < 8 := by have := hid hw; omega
    have hN := gcl_lsn (sb := sb) (sq := S.q) (lq := w.G.q) (pq := w.P.q) hg hm
    rw [if_pos hw, Int.toNat_natCast] at hR
    have IS2 := IS (g.lsn.getD m 0)
    refine r_ph0 ?_
    repeat' ((fail_if_success with_reducible refine nph ?_); first | (with_reducible first | (refine d_seq ?_; intro K hK) | (refine hK _ _ ?_; clear hK K) | (refine SG.p ?_; try intro b) | refine r_rq (by first | decide | omega) ?_) | ((with_reducible refine SC.p ?_); refine aI ?_ ?_) <;> intro hc <;> try simp only [push_cast, seval] at hc | ((with_reducible refine SL.p ?_); first | refine ⟨_, rfl, ?_⟩ | refine ⟨_, _, _, rfl, ?_⟩ | (refine ⟨?_, rfl, ?_⟩; focus (simp; done))) | ((with_reducible first | apply i_ldn | apply i_ldnq); iterate 3 exact rfl) | ((try with_reducible refine d_reg ?_); simp only [go_sem]) | clear hK K)
    · refine i_clp D2 ?_
      refine r_ph0 ?_
      repeat' ((fail_if_success with_reducible refine nph ?_); first | (with_reducible first | (refine d_seq ?_; intro K hK) | (refine hK _ _ ?_; clear hK K) | (refine SG.p ?_; try intro b) | refine r_rq (by first | decide | omega) ?_) | ((with_reducible refine SC.p ?_); refine aI ?_ ?_) <;> intro hc <;> try simp only [push_cast, seval] at hc | ((with_reducible refine SL.p ?_); first | refine ⟨_, rfl, ?_⟩ | refine ⟨_, _, _, rfl, ?_⟩ | (refine ⟨?_, rfl, ?_⟩; focus (simp; done))) | ((with_reducible first | apply i_ldn | apply i_ldnq); iterate 3 exact rfl) | ((try with_reducible refine d_reg ?_); simp only [go_sem]) | clear hK K)
      · refine i_ldq (e := eI) (o := 12 + m) hN ?_
        repeat' ((fail_if_success with_reducible refine nph ?_); first | (with_reducible first | (refine d_seq ?_; intro K hK) | (refine hK _ _ ?_; clear hK K) | (refine SG.p ?_; try intro b) | refine r_rq (by first | decide | omega) ?_) | ((with_reducible refine SC.p ?_); refine aI ?_ ?_) <;> intro hc <;> try simp only [push_cast, seval] at hc | ((with_reducible refine SL.p ?_); first | refine ⟨_, rfl, ?_⟩ | refine ⟨_, _, _, rfl, ?_⟩ | (refine ⟨?_, rfl, ?_⟩; focus (simp; done))) | ((with_reducible first | apply i_ldn | apply i_ldnq); iterate 3 exact rfl) | ((try with_reducible refine d_reg ?_); simp only [go_sem]) | clear hK K)
        refine i_clp IS2 ?_
        repeat' ((fail_if_success with_reducible refine nph ?_); first | (with_reducible first | (refine d_seq ?_; intro K hK) | (refine hK _ _ ?_; clear hK K) | (refine SG.p ?_; try intro b) | refine r_rq (by first | decide | omega) ?_) | ((with_reducible refine SC.p ?_); refine aI ?_ ?_) <;> intro hc <;> try simp only [push_cast, seval] at hc | ((with_reducible refine SL.p ?_); first | refine ⟨_, rfl, ?_⟩ | refine ⟨_, _, _, rfl, ?_⟩ | (refine ⟨?_, rfl, ?_⟩; focus (simp; done))) | ((with_reducible first | apply i_ldn | apply i_ldnq); iterate 3 exact rfl) | ((try with_reducible refine d_reg ?_); simp only [go_sem]) | clear hK K)
        (with_reducible first | apply i_ret0 | apply i_ret2 | apply i_ret3 | apply i_ret); exact rfl
        subst hR
        rw [Bool.eq_iff_iff]
        simp_all
      · (with_reducible first | apply i_ret0 | apply i_ret2 | apply i_ret3 | apply i_ret); exact rfl
        subst hR
        rw [Bool.eq_iff_iff]
        simp_all
    · refine r_ph0 ?_
      repeat' ((fail_if_success with_reducible refine nph ?_); first | (with_reducible first | (refine d_seq ?_; intro K hK) | (refine hK _ _ ?_; clear hK K) | (refine SG.p ?_; try intro b) | refine r_rq (by first | decide | omega) ?_) | ((with_reducible refine SC.p ?_); refine aI ?_ ?_) <;> intro hc <;> try simp only [push_cast, seval] at hc | ((with_reducible refine SL.p ?_); first | refine ⟨_, rfl, ?_⟩ | refine ⟨_, _, _, rfl, ?_⟩ | (refine ⟨?_, rfl, ?_⟩; focus (simp; done))) | ((with_reducible first | apply i_ldn | apply i_ldnq); iterate 3 exact rfl) | ((try with_reducible refine d_reg ?_); simp only [go_sem]) | clear hK K)
      (with_reducible first | apply i_ret0 | apply i_ret2 | apply i_ret3 | apply i_ret); exact rfl
      subst hR
      rw [Bool.eq_iff_iff]
      simp_all
  all_goals
    rw [if_neg (by simp_all)] at hR
    (with_reducible first | apply i_ret0 | apply i_ret2 | apply i_ret3 | apply i_ret); exact rfl
    subst hR
    rw [Bool.eq_iff_iff]
    simp_all
def sta (r : Int × Wo) : Bool := decide (r.1 = 0 ∧ drl r.2.P 8 = [])
set_option maxHeartbeats 1000000 in
theorem g52f (hS : S.pages = 8) {k : Int} (hk : ¬ (k = 0 ∨ k = 1 ∨ k = 2 ∨ k = 3 ∨ k = 4 ∨ k = 5)) : Fq eB Tryz.prog 52 #[.pointer (some ⟨wb, 0, none⟩), opv k id c] (wpa wb S sb w g) (wld wb sb S.q w.G.q w.P.q g :: wos S sb (fla S w.P.fs.length 0 w).2) (sta (fla S w.P.fs.length 0 w)) := fun L => by
  have hg1 := hg
  have F := g57 S sb 80 w h
  obtain ⟨k1, k2, k3⟩ := fla_ok w.P.fs.length 0 w h (by omega)
  have T := g58 (fla S w.P.fs.length 0 w).2.P k1.p S sb (k2.st.trans h.st) hS
  rw [show (fla S w.P.fs.length 0 w).2.P.p = w.P.p from congrArg (fun q => Value.pointer (some ⟨q, 0, none⟩)) k2.q] at T
  unfold sta
  generalize fla S w.P.fs.length 0 w = r at *
  obtain ⟨e, w'⟩ := r
  dsimp only at *
  generalize drl w'.P 8 = l at *
  refine c52_fn rfl rfl ?_
  repeat' ((fail_if_success with_reducible refine nph ?_); first | (with_reducible first | (refine d_seq ?_; intro K hK) | (refine hK _ _ ?_; clear hK K) | (refine SG.p ?_; try intro b) | refine r_rq (by first | decide | omega) ?_) | ((with_reducible refine SC.p ?_); refine aI ?_ ?_) <;> intro hc <;> try simp only [push_cast, seval] at hc | ((with_reducible refine SL.p ?_); first | refine ⟨_, rfl, ?_⟩ | refine ⟨_, _, _, rfl, ?_⟩ | (refine ⟨?_, rfl, ?_⟩; focus (simp; done))) | ((with_reducible first | apply i_ldn | apply i_ldnq); iterate 3 exact rfl) | ((try with_reducible refine d_reg ?_); simp only [go_sem]) | clear hK K)
  all_goals try (exfalso; omega)
  refine i_clq F ?_
  repeat' ((fail_if_success with_reducible refine nph ?_); first | (with_reducible first | (refine d_seq ?_; intro K hK) | (refine hK _ _ ?_; clear hK K) | (refine SG.p ?_; try intro b) | refine r_rq (by first | decide | omega) ?_) | ((with_reducible refine SC.p ?_); refine aI ?_ ?_) <;> intro hc <;> try simp only [push_cast, seval] at hc | ((with_reducible refine SL.p ?_); first | refine ⟨_, rfl, ?_⟩ | refine ⟨_, _, _, rfl, ?_⟩ | (refine ⟨?_, rfl, ?_⟩; focus (simp; done))) | ((with_reducible first | apply i_ldn | apply i_ldnq); iterate 3 exact rfl) | ((try with_reducible refine d_reg ?_); simp only [go_sem]) | clear hK K)
  · refine i_cal T ?_
    rintro ⟨p, pn, pc⟩ X rfl
    dsimp only [List.cons_append, List.nil_append]
    refine i_ow (t := 137) (sz := 2) (p, pn, pc) fun hR => ?_
    obtain rfl : pn = l.length := hR.len cDt_len (by decide)
    repeat' ((fail_if_success with_reducible refine nph ?_); first | (with_reducible first | (refine d_seq ?_; intro K hK) | (refine hK _ _ ?_; clear hK K) | (refine SG.p ?_; try intro b) | refine r_rq (by first | decide | omega) ?_) | ((with_reducible refine SC.p ?_); refine aI ?_ ?_) <;> intro hc <;> try simp only [push_cast, seval] at hc | ((with_reducible refine SL.p ?_); first | refine ⟨_, rfl, ?_⟩ | refine ⟨_, _, _, rfl, ?_⟩ | (refine ⟨?_, rfl, ?_⟩; focus (simp; done))) | ((with_reducible first | apply i_ldn | apply i_ldnq); iterate 3 exact rfl) | ((try with_reducible refine d_reg ?_); simp only [go_sem]) | clear hK K)
    (with_reducible first | apply i_ret0 | apply i_ret2 | apply i_ret3 | apply i_ret); exact rfl
    rw [Bool.eq_iff_iff]
    simp_all
  · (with_reducible first | apply i_ret0 | apply i_ret2 | apply i_ret3 | apply i_ret); exact rfl
    rw [Bool.eq_iff_iff]
    simp_all
end
theorem pin_P {g : Gh} (hg : g.ok) {p : Nat} (hp : p < 8) (v : Int) (q : Nat) : ({ g with pin := g.pin.set p v } : Gh).P q = if p = q then v else g.P q := by
  have := hg.p
  unfold Gh.P
  dsimp only
  rw [List.getD_eq_getElem?_getD, List.getD_eq_getElem?_getD, List.getElem?_set]
  by_cases h : p = q
  · rw [if_pos h, if_pos h, if_pos (by omega)]
    rfl
  · rw [if_neg h, if_neg h]
theorem Pv.pins {S : St} {sb : Nat} {w : Wo} {g : Gh} (h : Pv S sb w g) {p i : Nat} (hp : p < 8) (hi : i < w.P.fs.length) (hf : (w.P.at i).filled = true) (hid : (w.P.at i).id = (p : Int)) {v : Int} (hv : 0 ≤ v) :
    Pv S sb ⟨w.P.mod i { w.P.at i with pins := v }, w.G, w.Z⟩ { g with pin := g.pin.set p v } ∧ (∀ q, Drt (w.P.mod i { w.P.at i with pins := v }) q ↔ Drt w.P q) ∧ (∀ q, Rsd (w.P.mod i { w.P.at i with pins := v }) q ↔ Rsd w.P q) := by
  obtain ⟨p', hp', F⟩ := h.fr i hi hf
  have : p' = p := by have := F.id; omega
  subst this
  have ma := fun j => at_set (f := { w.P.at i with pins := v }) (j := j) hi
  have hl' := mod_like w.P i { w.P.at i with pins := v }
  have hlen := hl'.n
  have hhd : (w.P.mod i { w.P.at i with pins := v }).hand < w.P.fs.length := h.ok.p.h
  have key : ∀ j, ((w.P.mod i { w.P.at i with pins := v }).at j).filled = (w.P.at j).filled ∧ ((w.P.mod i { w.P.at i with pins := v }).at j).id = (w.P.at j).id ∧ ((w.P.mod i { w.P.at i with pins := v }).at j).dirty = (w.P.at j).dirty := fun j => by
    rw [ma]
    by_cases hj : i = j
    · rw [if_pos hj, ← hj]
      exact ⟨rfl, rfl, rfl⟩
    · rw [if_neg hj]
      exact ⟨rfl, rfl, rfl⟩
  have self : (w.P.mod i { w.P.at i with pins := v }).at i = { w.P.at i with pins := v } := by rw [ma, if_pos rfl]
  have other : ∀ j, i ≠ j → (w.P.mod i { w.P.at i with pins := v }).at j = w.P.at j := fun j hj => by rw [ma, if_neg hj]
  have pP := pin_P h.gok hp v
  generalize w.P.mod i { w.P.at i with pins := v } = P' at *
  have hD : ∀ q, Drt P' q ↔ Drt w.P q := fun q => by
    constructor
    · rintro ⟨j, a, b, c, d⟩
      obtain ⟨k1, k2, k3⟩ := key j
      exact ⟨j, by rw [hlen] at a; exact a, by rw [← k1]; exact b, by rw [← k2]; exact c, by rw [← k3]; exact d⟩
    · rintro ⟨j, a, b, c, d⟩
      obtain ⟨k1, k2, k3⟩ := key j
      exact ⟨j, by rw [hlen]; exact a, by rw [k1]; exact b, by rw [k2]; exact c, by rw [k3]; exact d⟩
  have hR : ∀ q, Rsd P' q ↔ Rsd w.P q := fun q => by
    constructor
    · rintro ⟨j, a, b, c⟩
      obtain ⟨k1, k2, k3⟩ := key j
      exact ⟨j, by rw [hlen] at a; exact a, by rw [← k1]; exact b, by rw [← k2]; exact c⟩
    · rintro ⟨j, a, b, c⟩
      obtain ⟨k1, k2, k3⟩ := key j
      exact ⟨j, by rw [hlen]; exact a, by rw [k1]; exact b, by rw [k2]; exact c⟩
  refine ⟨⟨h.ok.mvP hl' hhd, ⟨h.gok.t, h.gok.l, by simpa using h.gok.p⟩, h.sp, h.bs, h.sec, h.wi, fun j a b => ?_, fun a b c1 c2 c3 c4 c5 => ?_, fun q hq hd => h.cl q hq (fun x => hd ((hD q).2 x)), fun q hq hd => h.di q hq ((hD q).1 hd), h.ls, h.tx, fun q hq => ?_⟩, hD, hR⟩
  · dsimp only at a b ⊢
    rw [hlen] at a
    by_cases hj : i = j
    · subst hj
      rw [self]
      exact ⟨p', hp, F.id, F.t, F.n, by rw [pP, if_pos rfl], F.d⟩
    · rw [other j hj] at b ⊢
      obtain ⟨q, hq, Fq⟩ := h.fr j a b
      have hqp : p' ≠ q := fun x => by
        subst x
        exact hj (h.un i j hi a hf b (by rw [hid, Fq.id]))
      exact ⟨q, hq, Fq.id, Fq.t, Fq.n, by rw [pP, if_neg hqp]; exact Fq.p, Fq.d⟩
  · dsimp only at c1 c2 c3 c4 c5
    rw [hlen] at c1 c2
    rw [(key a).1] at c3
    rw [(key b).1] at c4
    rw [(key a).2.1, (key b).2.1] at c5
    exact h.un a b c1 c2 c3 c4 c5
  · rw [pP]
    by_cases hqp : p' = q
    · rw [if_pos hqp]
      exact ⟨hv, fun _ => (hR q).2 (by rw [← hqp]; exact ⟨i, hi, hf, hid⟩)⟩
    · rw [if_neg hqp]
      exact ⟨(h.pn q hq).1, fun x => (hR q).2 ((h.pn q hq).2 x)⟩
theorem pig : ∀ (n : Nat) (R : Nat → Nat → Prop), (∀ i p q, R i p → R i q → p = q) → (∀ p, p ≤ n → ∃ i, i < n ∧ R i p) → False
  | 0, R, _, h => by
    obtain ⟨i, hi, _⟩ := h 0 (Nat.le_refl _)
    omega
  | n + 1, R, hf, h => by
    obtain ⟨i0, hi0, hR0⟩ := h (n + 1) (Nat.le_refl _)
    refine pig n (fun j p => R (if j < i0 then j else j + 1) p) (fun i p q a b => hf _ p q a b) fun p hp => ?_
    obtain ⟨i, hi, hR⟩ := h p (by omega)
    have hne : i ≠ i0 := fun x => by
      subst x
      have := hf i p (n + 1) hR hR0
      omega
    rcases Nat.lt_or_ge i i0 with x | x
    · exact ⟨i, by omega, by rw [if_pos x]; exact hR⟩
    · refine ⟨i - 1, by omega, ?_⟩
      rw [if_neg (by omega), show i - 1 + 1 = i by omega]
      exact hR
theorem Pv.pig {S : St} {sb : Nat} {w : Wo} {g : Gh} (h : Pv S sb w g) (hr : ∀ p, p ≤ w.P.fs.length → Rsd w.P p) : False := by
  refine Go.Sp.pig w.P.fs.length (fun i p => (w.P.at i).id = (p : Int)) (fun i p q a b => by omega) fun p hp => ?_
  obtain ⟨i, a, _, c⟩ := hr p hp
  exact ⟨i, a, c⟩
theorem Pv.room {S : St} {sb : Nat} {w : Wo} {g : Gh} (h : Pv S sb w g) {k : Nat} (hk : k < w.P.fs.length) (hz : ∀ q, k ≤ q → q < 8 → g.P q ≤ 0) (ha : ∀ j, j < w.P.fs.length → (w.P.at j).filled = true ∧ 0 < (w.P.at j).pins) : False := by
  refine Go.Sp.pig k (fun i j => j < w.P.fs.length ∧ (w.P.at j).id = (i : Int)) (fun i p q a b => ?_) fun j hj => ?_
  · exact h.un p q a.1 b.1 (ha p a.1).1 (ha q b.1).1 (by rw [a.2, b.2])
  · obtain ⟨a1, a2⟩ := ha j (by omega)
    obtain ⟨p, hp, F⟩ := h.fr j (by omega) a1
    have e1 := F.p
    refine ⟨p, ?_, by omega, F.id⟩
    rcases Nat.lt_or_ge p k with x | x
    · exact x
    · have := hz p x hp
      omega
def swk (S : St) (w : Wo) (g : Gh) (k id : Int) (c : UInt8) : Bool × Wo × Gh :=
  if k = 0 ∨ k = 1 then wst S w g id c
  else if k = 2 then (stg (wget S w id) g id, (hld S w id).2, g)
  else if k = 3 then stb (wpin S w id) g id
  else if k = 4 then stu (w.P.unp id) w g id
  else if k = 5 then (stf S (w.P.dirt id) (wflu S w id) g id, (wflu S w id).2, g)
  else (sta (fla S w.P.fs.length 0 w), (fla S w.P.fs.length 0 w).2, g)
theorem g52 (wb : Nat) (S : St) (sb : Nat) (w : Wo) (h : w.ok S sb 80) (g : Gh) (hg : g.ok) (hS : S.pages = 8) (k id : Int) (c : UInt8) (hid : w.P.dirt id = true → 0 ≤ id ∧ id < 8) :
    Fq eB Tryz.prog 52 #[.pointer (some ⟨wb, 0, none⟩), opv k id c] (wpa wb S sb w g) (wld wb sb S.q w.G.q w.P.q (swk S w g k id c).2.2 :: wos S sb (swk S w g k id c).2.1) (swk S w g k id c).1 := by
  unfold swk
  by_cases h0 : k = 0 ∨ k = 1
  · rw [if_pos h0]; exact g52a wb S sb w h g hg id c h0
  rw [if_neg h0]
  by_cases h2 : k = 2
  · subst h2; exact g52b wb S sb w h g hg id c
  rw [if_neg h2]
  by_cases h3 : k = 3
  · subst h3; exact g52c wb S sb w h g hg id c
  rw [if_neg h3]
  by_cases h4 : k = 4
  · subst h4; exact g52d wb S sb w h g hg id c
  rw [if_neg h4]
  by_cases h5 : k = 5
  · subst h5; exact g52e wb S sb w h g hg id c hid
  rw [if_neg h5]
  exact g52f wb S sb w h g hg id c hS (by omega)
theorem Pv.one {S : St} {sb : Nat} {w : Wo} {g : Gh} (h : Pv S sb w g) {i : Nat} (hi : i < w.P.fs.length) (hf : (w.P.at i).filled = true) {p : Nat} (hid : (w.P.at i).id = (p : Int)) : p < 8 ∧ Fok g p (w.P.at i) := by
  obtain ⟨q, hq, F⟩ := h.fr i hi hf
  obtain rfl : q = p := by have := F.id; omega
  exact ⟨hq, F⟩
theorem Pv.get {S : St} {sb : Nat} {w : Wo} {g : Gh} (h : Pv S sb w g) (id : Int) : stg (wget S w id) g id = true ∧ Pv S sb (hld S w id).2 g ∧ (hld S w id).2.P.fs.length = w.P.fs.length ∧ (hld S w id).2.G.all = w.G.all := by
  unfold stg
  by_cases hr : id < 0 ∨ 8 ≤ id
  · have e := h.hold_out hr
    unfold wget
    rw [if_pos hr, e]
    exact ⟨rfl, h, rfl, rfl⟩
  · rw [if_neg hr]
    obtain ⟨p, rfl⟩ : ∃ p : Nat, id = (p : Int) := ⟨id.toNat, by omega⟩
    obtain ⟨a1, a2, a3, a4⟩ := h.hold (p := p) (by omega)
    refine ⟨?_, a1, a3, a2⟩
    rw [Int.toNat_natCast]
    unfold wget
    generalize hld S w (p : Int) = r at *
    obtain ⟨⟨o, e⟩, w2⟩ := r
    dsimp only at a1 a2 a3 a4
    rcases a4 with ⟨i, b1, b2, b3, b4⟩ | ⟨b1, b2⟩
    · obtain ⟨rfl, rfl⟩ := Prod.mk.inj b1
      dsimp only
      obtain ⟨hp, F⟩ := a1.one (by rw [a3]; exact b2) b3 b4
      rw [if_neg (by decide)]
      exact decide_eq_true (by rw [F.t, F.n])
    · obtain ⟨rfl, rfl⟩ := Prod.mk.inj b1
      dsimp only
      rw [if_pos rfl]
      exact decide_eq_true (a1.full (by rw [a3]; exact b2))
theorem Pv.pin {S : St} {sb : Nat} {w : Wo} {g : Gh} (h : Pv S sb w g) (id : Int) {m : Int} (hm : m ≤ 1000) (hp : ∀ q, q < 8 → g.P q ≤ m) :
    (stb (wpin S w id) g id).1 = true ∧ Pv S sb (stb (wpin S w id) g id).2.1 (stb (wpin S w id) g id).2.2 ∧ (stb (wpin S w id) g id).2.1.P.fs.length = w.P.fs.length ∧ ∀ q, q < 8 → (stb (wpin S w id) g id).2.2.P q ≤ m + 1 := by
  unfold stb
  by_cases hr : id < 0 ∨ 8 ≤ id
  · have e := h.hold_out hr
    unfold wpin
    rw [if_pos hr, e]
    exact ⟨rfl, h, rfl, fun q hq => by have := hp q hq; dsimp only; omega⟩
  · rw [if_neg hr]
    obtain ⟨p, rfl⟩ : ∃ p : Nat, id = (p : Int) := ⟨id.toNat, by omega⟩
    obtain ⟨a1, a2, a3, a4⟩ := h.hold (p := p) (by omega)
    rw [Int.toNat_natCast]
    unfold wpin
    generalize hld S w (p : Int) = r at *
    obtain ⟨⟨o, e⟩, w2⟩ := r
    dsimp only at a1 a2 a3 a4
    rcases a4 with ⟨i, b1, b2, b3, b4⟩ | ⟨b1, b2⟩
    · obtain ⟨rfl, rfl⟩ := Prod.mk.inj b1
      dsimp only
      have hi : i < w2.P.fs.length := by rw [a3]; exact b2
      obtain ⟨h8, F⟩ := a1.one hi b3 b4
      have h0 := (a1.pn p h8).1
      have h1 := hp p h8
      rw [if_pos rfl, F.p]
      rw [w64 (by omega) (by omega)]
      obtain ⟨P1, _, _⟩ := a1.pins h8 hi b3 b4 (v := g.P p + 1) (by omega)
      refine ⟨rfl, P1, (mod_like _ _ _).n.trans a3, fun q hq => ?_⟩
      have := hp q hq
      refine Int.le_trans (Int.le_of_eq (pin_P h.gok h8 (g.P p + 1) q)) ?_
      split <;> omega
    · obtain ⟨rfl, rfl⟩ := Prod.mk.inj b1
      dsimp only
      rw [if_neg (by decide)]
      exact ⟨decide_eq_true ⟨rfl, a1.full (by rw [a3]; exact b2)⟩, a1, a3, fun q hq => by have := hp q hq; dsimp only; omega⟩
theorem Pv.unp {S : St} {sb : Nat} {w : Wo} {g : Gh} (h : Pv S sb w g) (id : Int) {m : Int} (hm : m ≤ 1000) (hp : ∀ q, q < 8 → g.P q ≤ m) :
    (stu (w.P.unp id) w g id).1 = true ∧ Pv S sb (stu (w.P.unp id) w g id).2.1 (stu (w.P.unp id) w g id).2.2 ∧ (stu (w.P.unp id) w g id).2.1.P.fs.length = w.P.fs.length ∧ ∀ q, q < 8 → (stu (w.P.unp id) w g id).2.2.P q ≤ m + 1 := by
  have hp1 : ∀ q, q < 8 → g.P q ≤ m + 1 := fun q hq => by have := hp q hq; omega
  unfold stu
  cases hf : w.P.find id with
  | none =>
    have eu : w.P.unp id = (8, w.P) := by unfold Po.unp; rw [hf]
    rw [eu]
    by_cases hr : id < 0 ∨ 8 ≤ id ∨ g.P id.toNat = 0
    · rw [if_pos hr]
      exact ⟨rfl, h, rfl, hp1⟩
    · exfalso
      obtain ⟨p, rfl⟩ : ∃ p : Nat, id = (p : Int) := ⟨id.toNat, by omega⟩
      rw [Int.toNat_natCast] at hr
      obtain ⟨q1, q2⟩ := h.pn p (by omega)
      exact find_none hf (q2 (by omega))
  | some i =>
    obtain ⟨f1, f2, f3⟩ := find_some hf
    obtain ⟨p, h8, F⟩ := h.fr i f1 f2
    obtain rfl : id = (p : Int) := by rw [← f3]; exact F.id
    obtain ⟨q1, q2⟩ := h.pn p h8
    have h1 := hp p h8
    rw [Int.toNat_natCast]
    by_cases h0 : g.P p = 0
    · have eu : w.P.unp (p : Int) = (8, w.P) := by unfold Po.unp; rw [hf]; dsimp only; rw [if_pos (by rw [F.p]; exact h0)]
      rw [eu, if_pos (.inr (.inr h0))]
      exact ⟨rfl, h, rfl, hp1⟩
    · have eu : w.P.unp (p : Int) = (0, w.P.mod i { w.P.at i with pins := g.P p - 1 }) := by
        unfold Po.unp
        rw [hf]
        dsimp only
        rw [if_neg (by rw [F.p]; exact h0), F.p, w64 (by omega) (by omega)]
      rw [eu, if_neg (by omega), w64 (by omega) (by omega)]
      obtain ⟨P1, _, _⟩ := h.pins h8 f1 f2 f3 (v := g.P p - 1) (by omega)
      refine ⟨rfl, P1, (mod_like _ _ _).n, fun q hq => ?_⟩
      have := hp q hq
      refine Int.le_trans (Int.le_of_eq (pin_P h.gok h8 (g.P p - 1) q)) ?_
      split <;> omega
theorem Pv.flu {S : St} {sb : Nat} {w : Wo} {g : Gh} (h : Pv S sb w g) (id : Int) : stf S (w.P.dirt id) (wflu S w id) g id = true ∧ Pv S sb (wflu S w id).2 g ∧ (wflu S w id).2.P.fs.length = w.P.fs.length ∧ (wflu S w id).2.G.all = w.G.all := by
  unfold stf wflu
  cases hf : w.P.find id with
  | none =>
    have : w.P.dirt id = false := by unfold Po.dirt; rw [hf]
    rw [this]
    exact ⟨rfl, h, rfl, rfl⟩
  | some i =>
    obtain ⟨f1, f2, f3⟩ := find_some hf
    obtain ⟨p, h8, F⟩ := h.fr i f1 f2
    obtain rfl : id = (p : Int) := by rw [← f3]; exact F.id
    have hd : w.P.dirt (p : Int) = (w.P.at i).dirty := by unfold Po.dirt; rw [hf]
    obtain ⟨s1, s2, s3, s4, s5, s6, s7, s8, s9⟩ := h.save f1 f2
    have i2 : i < (svp S w i).2.P.fs.length := by rw [s3.n]; exact f1
    dsimp only
    refine ⟨?_, s2, s3.n, s8⟩
    rw [hd, Int.toNat_natCast]
    cases hdy : (w.P.at i).dirty
    · rw [if_neg (by decide), s1]
      exact decide_eq_true (.inl rfl)
    · rw [if_pos rfl]
      obtain ⟨d1, d2⟩ := F.d hdy
      have hn := F.n
      have hdr : (svp S w i).2.P.dirt (p : Int) = false := by
        unfold Po.dirt
        cases hf2 : (svp S w i).2.P.find (p : Int) with
        | none => rfl
        | some j =>
          obtain ⟨e1, e2, e3⟩ := find_some hf2
          have hid2 : ((svp S w i).2.P.at i).id = (p : Int) := by
            obtain ⟨r, hr8, FR⟩ := s2.fr i i2 s4
            by_cases hij : j = i
            · subst hij; exact e3
            · rw [s9 j hij] at e2 e3
              exact absurd (h.un j i (by rw [← s3.n]; exact e1) f1 e2 f2 (by rw [e3, f3])) hij
          obtain rfl : j = i := s2.un j i e1 i2 e2 s4 (by rw [e3, hid2])
          exact s5
      have hnd : ¬ Drt (svp S w i).2.P p := fun x => by
        rw [(s2.dirt p).2 x] at hdr
        cases hdr
      rcases s2.cl p h8 hnd with ⟨_, x, _⟩ | ⟨x, _⟩
      · omega
      · rw [x]
        exact decide_eq_true ⟨s1, hdr, rfl, rfl⟩
def Rf (f : Fr) : Prop := (f.filled = false → f.dirty = false) ∧ (f.filled = true → 0 ≤ f.id ∧ f.id < 8)
def Ra (P : Po) : Prop := ∀ i, i < P.fs.length → Rf (P.at i)
theorem Ra.st {P P' : Po} (h : Ra P) {i : Nat} (hi : i < P.fs.length) {f : Fr} (e : P'.fs = P.fs.set i f) (hf : Rf f) : Ra P' := fun j hj => by
  have hj' : j < P.fs.length := by rw [e, List.length_set] at hj; exact hj
  have : P'.at j = (P.mod i f).at j := by unfold Po.at Po.mod; rw [e]
  rw [this, at_set hi]
  split
  · exact hf
  · exact h j hj'
theorem Ra.ul {P P' : Po} (h : Ra P) (u : ulk P P') (hn : P'.fs.length = P.fs.length) : Ra P' := fun j hj => by
  rw [hn] at hj
  obtain ⟨x, hx⟩ := u j hj
  rw [hx]
  exact h j hj
theorem Ra.svp {S : St} {w : Wo} (h : Ra w.P) {i : Nat} (hi : i < w.P.fs.length) : Ra (svp S w i).2.P := by
  have hc : Ra (w.P.cln i) := h.st hi (f := { w.P.at i with dirty := false, first := 0 }) rfl ⟨fun _ => rfl, (h i hi).2⟩
  unfold Go.Sp.svp
  split
  · exact h
  split
  · exact h
  dsimp only
  split
  · exact h
  split
  · exact h
  · exact hc
theorem Ra.hld {S : St} {sb : Nat} {w : Wo} (h : Ra w.P) (ok : w.ok S sb 80) (hS : S.pages = 8) (id : Int) : Ra (hld S w id).2.P ∧ ∀ i, (hld S w id).1.1 = some i → i < w.P.fs.length ∧ ((hld S w id).2.P.at i).filled = true := by
  have hok := ok.p
  unfold Go.Sp.hld
  cases hf : w.P.find id with
  | some i =>
    obtain ⟨h1, h2, h3⟩ := find_some hf
    refine ⟨h.ul (ulk_use h1 true w.P.hand) List.length_set, fun j hj => ?_⟩
    cases hj
    obtain ⟨u, hu⟩ := ulk_use (P := w.P) h1 true w.P.hand i h1
    have e : (w.P.use i).at i = { w.P.at i with used := u } := hu
    dsimp only
    rw [e]
    exact ⟨h1, h2⟩
  | none =>
    dsimp only
    unfold hl1
    split
    · exact ⟨h, fun i hi => by cases hi⟩
    · rename_i hc
      have hin : 0 ≤ id ∧ id < 8 := by
        by_cases hr : id < 0 ∨ 8 ≤ id
        · exfalso
          have h6 : S.chk id = 6 := by unfold St.chk; rw [if_pos (by omega)]
          have : w.Z.rpg S id = ([], 0, 6) := by unfold Dk.rpg; rw [if_neg (by rw [h6]; decide)]
          rw [this] at hc
          exact hc ⟨by decide, by decide, by decide⟩
        · omega
      have hnf : Rf (nfr (w.Z.rpg S id) id) := ⟨fun x => (by cases x), fun _ => hin⟩
      obtain ⟨v1, v2, v3⟩ := vic_like (2 * w.P.fs.length + 1) w.P hok
      obtain ⟨v4, v5⟩ := vic_ulk (2 * w.P.fs.length + 1) w.P hok
      generalize vic (2 * w.P.fs.length + 1) w.P = v at *
      obtain ⟨o, V⟩ := v
      dsimp only at v1 v2 v3 v4 v5
      have hV : Ra V := h.ul v4 v1.n
      unfold hl2
      cases o with
      | none => exact ⟨hV, fun i hi => by cases hi⟩
      | some i =>
        have hi := v3 i rfl
        have hiV : i < V.fs.length := by rw [v1.n]; exact hi
        dsimp only
        split
        · obtain ⟨s1, s2, s3⟩ := svp_ok (w := ⟨V, w.G, w.Z⟩) (ok.mvP v1 (by have := v2.h; have := v1.n; omega)) hiV
          have sR := Ra.svp (S := S) (w := ⟨V, w.G, w.Z⟩) hV hiV
          have hi2 : i < (Go.Sp.svp S ⟨V, w.G, w.Z⟩ i).2.P.fs.length := by rw [s2.n]; exact hiV
          split
          · refine ⟨sR.st hi2 (f := nfr (w.Z.rpg S id) id) rfl hnf, fun j hj => ?_⟩
            cases hj
            refine ⟨hi, ?_⟩
            dsimp only
            rw [put_at hi2, if_pos rfl]
          · exact ⟨sR, fun j hj => by cases hj⟩
        · refine ⟨hV.st hiV (f := nfr (w.Z.rpg S id) id) rfl hnf, fun j hj => ?_⟩
          cases hj
          refine ⟨hi, ?_⟩
          dsimp only
          rw [put_at hiV, if_pos rfl]
theorem Ra.md {P : Po} (h : Ra P) {i : Nat} (hi : i < P.fs.length) (hf : (P.at i).filled = true) {f : Fr} (e1 : f.filled = (P.at i).filled) (e2 : f.id = (P.at i).id) : Ra (P.mod i f) :=
  h.st hi (f := f) rfl ⟨fun x => (by rw [e1, hf] at x; cases x), fun x => (by rw [e2]; exact (h i hi).2 hf)⟩
theorem Ra.wset {S : St} {sb : Nat} {w : Wo} (h : Ra w.P) (ok : w.ok S sb 80) (hS : S.pages = 8) (id : Int) (t : List UInt8) (n : Int) : Ra (wset S w id t n).2.P := by
  obtain ⟨a, b⟩ := h.hld ok hS id
  obtain ⟨_, l, _⟩ := hld_ok ok id
  unfold Go.Sp.wset
  split
  · exact h
  split
  · exact h
  generalize Go.Sp.hld S w id = r at *
  obtain ⟨⟨o, e⟩, w2⟩ := r
  cases o with
  | none => exact a
  | some i =>
    obtain ⟨b1, b2⟩ := b i rfl
    exact a.md (by rw [l.n]; exact b1) b2 rfl rfl
theorem Ra.wst {S : St} {sb : Nat} {w : Wo} (h : Ra w.P) (ok : w.ok S sb 80) (hS : S.pages = 8) (g : Gh) (id : Int) (c : UInt8) : Ra (wst S w g id c).2.1.P := by
  obtain ⟨a1, a2⟩ := append_okG ok.g (cm (c.toNat : Int))
  have o2 : (⟨w.P, (w.G.append (cm (c.toNat : Int))).2, w.Z⟩ : Wo).ok S sb 80 := ⟨ok.p, ok.z, ok.sb, ok.nn, a1, ok.s, ok.st, ok.lg.trans a2.symm⟩
  have hw := Ra.wset (w := ⟨w.P, (w.G.append (cm (c.toNat : Int))).2, w.Z⟩) h o2 hS id (fl c) (w.G.append (cm (c.toNat : Int))).1.1
  unfold Go.Sp.wst wst2
  split
  · split
    · exact hw
    split
    · exact hw
    · exact hw
  · exact h
theorem Ra.fla {S : St} {sb : Nat} : ∀ (k i : Nat) (w : Wo), Ra w.P → w.ok S sb 80 → i + k ≤ w.P.fs.length → Ra (fla S k i w).2.P
  | 0, _, _, h, _, _ => h
  | k + 1, i, w, h, ok, hi => by
    obtain ⟨a, b, d⟩ := svp_ok ok (i := i) (by omega)
    have r := h.svp (S := S) (i := i) (by omega)
    unfold Go.Sp.fla
    split
    · exact Ra.fla k (i + 1) _ r a (by rw [b.n]; omega)
    · exact r
theorem Ra.swk {S : St} {sb : Nat} {w : Wo} (h : Ra w.P) (ok : w.ok S sb 80) (hS : S.pages = 8) (g : Gh) (k id : Int) (c : UInt8) : Ra (swk S w g k id c).2.1.P := by
  unfold Go.Sp.swk
  split
  · exact h.wst ok hS g id c
  obtain ⟨a, b⟩ := h.hld ok hS id
  obtain ⟨_, l, _⟩ := hld_ok ok id
  split
  · exact a
  split
  · unfold stb
    have : Ra (wpin S w id).2.P := by
      unfold wpin
      generalize Go.Sp.hld S w id = r at *
      obtain ⟨⟨o, e⟩, w2⟩ := r
      cases o with
      | none => exact a
      | some i =>
        obtain ⟨b1, b2⟩ := b i rfl
        exact a.md (by rw [l.n]; exact b1) b2 rfl rfl
    split
    · exact this
    split
    · exact this
    · exact this
  split
  · unfold stu
    have : Ra (w.P.unp id).2 := by
      unfold Po.unp
      cases hf : w.P.find id with
      | none => exact h
      | some i =>
        obtain ⟨f1, f2, f3⟩ := find_some hf
        dsimp only
        split
        · exact h
        · exact h.md f1 f2 rfl rfl
    split
    · exact this
    · exact this
  split
  · unfold wflu
    cases hf : w.P.find id with
    | none => exact h
    | some i => exact h.svp (find_lt hf)
  · exact Ra.fla w.P.fs.length 0 w h ok (by omega)
theorem swk_q {S : St} {sb : Nat} {w : Wo} (ok : w.ok S sb 80) {g : Gh} (hg : g.ok) (k id : Int) (c : UInt8) : (swk S w g k id c).2.1.G.q = w.G.q ∧ (swk S w g k id c).2.1.P.q = w.P.q := by
  unfold Go.Sp.swk
  obtain ⟨_, l, q, _⟩ := hld_ok ok id
  split
  · obtain ⟨_, b, d, _⟩ := wst_ok ok hg id c
    exact ⟨d, b.q⟩
  split
  · exact ⟨q, l.q⟩
  split
  · have : (wpin S w id).2.G.q = w.G.q ∧ (wpin S w id).2.P.q = w.P.q := by
      unfold wpin
      generalize Go.Sp.hld S w id = r at *
      obtain ⟨⟨o, e⟩, w2⟩ := r
      cases o with
      | none => exact ⟨q, l.q⟩
      | some i => exact ⟨q, l.q⟩
    unfold stb
    split
    · exact this
    split
    · exact this
    · exact this
  split
  · have : (w.P.unp id).2.q = w.P.q := by
      unfold Po.unp
      split
      · rfl
      · split <;> rfl
    unfold stu
    split
    · exact ⟨rfl, this⟩
    · exact ⟨rfl, this⟩
  split
  · obtain ⟨_, b, d⟩ := wflu_ok ok id
    exact ⟨d, b⟩
  · obtain ⟨_, b, d⟩ := fla_ok w.P.fs.length 0 w ok (by omega)
    exact ⟨d, b.q⟩
theorem Ra.dirt {P : Po} (h : Ra P) {id : Int} (hd : P.dirt id = true) : 0 ≤ id ∧ id < 8 := by
  unfold Po.dirt at hd
  cases hf : P.find id with
  | none => rw [hf] at hd; cases hd
  | some i =>
    obtain ⟨f1, f2, f3⟩ := find_some hf
    rw [← f3]
    exact (h i f1).2 f2
theorem Ra.new (q fb st lg n : Nat) : Ra (Po.new q fb st lg n) := fun i hi => by
  have : (Po.new q fb st lg n).at i = zf := by
    unfold Po.at Po.new
    rw [List.getD_eq_getElem?_getD, List.getElem?_replicate]
    split <;> rfl
  rw [this]
  exact ⟨fun _ => rfl, fun x => (by cases x)⟩
theorem Pv.fla {S : St} {sb : Nat} {g : Gh} : ∀ (k i : Nat) (w : Wo), Pv S sb w g → Ra w.P → i + k = w.P.fs.length → (∀ j, j < i → (w.P.at j).dirty = false) →
    (fla S k i w).1 = 0 ∧ Pv S sb (fla S k i w).2 g ∧ (fla S k i w).2.P.fs.length = w.P.fs.length ∧ (fla S k i w).2.G.all = w.G.all ∧ ∀ j, j < w.P.fs.length → ((fla S k i w).2.P.at j).dirty = false
  | 0, i, w, h, _, hi, hd => ⟨rfl, h, rfl, rfl, fun j hj => hd j (by omega)⟩
  | k + 1, i, w, h, r, hi, hd => by
    have h0 : i < w.P.fs.length := by omega
    have key : (svp S w i).1 = 0 ∧ Pv S sb (svp S w i).2 g ∧ (svp S w i).2.P.fs.length = w.P.fs.length ∧ (svp S w i).2.G.all = w.G.all ∧ ∀ j, j < i + 1 → ((svp S w i).2.P.at j).dirty = false := by
      cases hf : (w.P.at i).filled
      · have hdi := (r i h0).1 hf
        have e : svp S w i = (0, w) := by unfold svp; rw [if_pos hdi]
        rw [e]
        exact ⟨rfl, h, rfl, rfl, fun j hj => by
          rcases Nat.lt_or_ge j i with x | x
          · exact hd j x
          · obtain rfl : j = i := by omega
            exact hdi⟩
      · obtain ⟨s1, s2, s3, s4, s5, s6, s7, s8, s9⟩ := h.save h0 hf
        exact ⟨s1, s2, s3.n, s8, fun j hj => by
          by_cases hji : j = i
          · rw [hji]; exact s5
          · rw [s9 j hji]; exact hd j (by omega)⟩
    obtain ⟨k1, k2, k3, k4, k5⟩ := key
    have rs := r.svp (S := S) h0
    obtain ⟨m1, m2, m3, m4, m5⟩ := Pv.fla k (i + 1) (svp S w i).2 k2 rs (by rw [k3]; omega) k5
    unfold Go.Sp.fla
    rw [if_pos k1]
    exact ⟨m1, m2, m3.trans k3, m4.trans k4, fun j hj => m5 j (by rw [k3]; exact hj)⟩
theorem drl_none {P : Po} (h : ∀ j, j < P.fs.length → (P.at j).dirty = false) : ∀ i, drl P i = []
  | 0 => rfl
  | i + 1 => by
    unfold drl drd
    rw [drl_none h i]
    cases hf : P.find (i : Int) with
    | none => rfl
    | some j =>
      dsimp only
      rw [if_neg (by rw [h j (find_lt hf)]; decide)]
      rfl
theorem Pv.swk {S : St} {sb : Nat} {w : Wo} {g : Gh} (h : Pv S sb w g) (r : Ra w.P) (k id : Int) (c : UInt8) {m : Int} (hm : m ≤ 1000) (hp : ∀ q, q < 8 → g.P q ≤ m) :
    (swk S w g k id c).1 = true ∧ Pv S sb (swk S w g k id c).2.1 (swk S w g k id c).2.2 ∧ (swk S w g k id c).2.1.P.fs.length = w.P.fs.length ∧ ∀ q, q < 8 → (swk S w g k id c).2.2.P q ≤ m + 1 := by
  have hp1 : ∀ q, q < 8 → g.P q ≤ m + 1 := fun q hq => by have := hp q hq; omega
  unfold Go.Sp.swk
  split
  · obtain ⟨a1, a2, a3, a4, _⟩ := h.wst id c
    exact ⟨a1, a2, a3, fun q hq => by
      show (Go.Sp.wst S w g id c).2.2.pin.getD q 0 ≤ m + 1
      rw [a4]
      exact hp1 q hq⟩
  split
  · obtain ⟨a1, a2, a3, _⟩ := h.get id
    exact ⟨a1, a2, a3, hp1⟩
  split
  · exact h.pin id hm hp
  split
  · exact h.unp id hm hp
  split
  · obtain ⟨a1, a2, a3, _⟩ := h.flu id
    exact ⟨a1, a2, a3, hp1⟩
  · obtain ⟨a1, a2, a3, _, a5⟩ := Pv.fla w.P.fs.length 0 w h r (by omega) (fun j hj => by omega)
    refine ⟨?_, a2, a3, hp1⟩
    unfold sta
    exact decide_eq_true ⟨a1, drl_none (fun j hj => a5 j (by rw [← a3]; exact hj)) 8⟩
end Go.Sp
namespace Go.Sp
open Go
set_option maxRecDepth 100000
set_option linter.unusedVariables false
open Go.Proofs
variable (K : Env → W) (k : Value → W) {e : Enc} {args : Array Value} {G : e.α → W} {L : List HP} {ρ : Env}
attribute [local instance] cI cB cP cA
end Go.Sp
namespace Go.Sp
open Go Go.Proofs
set_option linter.unusedSimpArgs false
set_option linter.unusedVariables false
set_option maxRecDepth 10000
theorem Pv.disk {S : St} {sb : Nat} {w : Wo} {g : Gh} (h : Pv S sb w g) {p : Nat} (hp : p < 8) :
    (w.Z.rpg S (p : Int) = ([], 0, 8) ∧ (0 < g.N p → w.P.dirt (p : Int) = true)) ∨ ∃ t n, w.Z.rpg S (p : Int) = (t, n, 0) ∧ 1 ≤ n ∧ n ≤ (w.G.durable : Int) ∧ n ≤ g.N p ∧ (n = g.N p → t = g.T p) ∧ (n ≠ g.N p → w.P.dirt (p : Int) = true) := by
  by_cases hd : Drt w.P p
  · have hx := (h.dirt p).2 hd
    rcases h.di p hp hd with e | ⟨t, n, e, n1, n2, n3⟩
    · exact .inl ⟨e, fun _ => hx⟩
    · exact .inr ⟨t, n, e, n1, n2, by omega, fun x => by omega, fun _ => hx⟩
  · rcases h.cl p hp hd with ⟨e, n0, _⟩ | ⟨e, n1, n2⟩
    · exact .inl ⟨e, fun x => by omega⟩
    · exact .inr ⟨_, _, e, n1, n2, Int.le_refl _, fun _ => rfl, fun x => absurd rfl x⟩
section
variable {e : Enc} {L L' R : List HP} {A : HP} {a : Addr} {n c i : Nat} {xs : List api_Dirty} {x : api_Dirty} {k : Int → W}
end
theorem Pv.drd {S : St} {sb : Nat} {w : Wo} {g : Gh} (h : Pv S sb w g) (i : Nat) : (w.P.dirt (i : Int) = false ∧ drd w.P i = []) ∨ (w.P.dirt (i : Int) = true ∧ ∃ r, drd w.P i = [⟨(i : Int), r⟩] ∧ 1 ≤ r ∧ r ≤ g.N i) := by
  unfold Po.dirt Go.Sp.drd
  cases hf : w.P.find (i : Int) with
  | none => exact .inl ⟨rfl, rfl⟩
  | some j =>
    obtain ⟨f1, f2, f3⟩ := find_some hf
    obtain ⟨_, F⟩ := h.one f1 f2 f3
    dsimp only
    cases hd : (w.P.at j).dirty
    · exact .inl ⟨rfl, if_neg (by decide)⟩
    · obtain ⟨d1, d2⟩ := F.d hd
      exact .inr ⟨rfl, _, if_pos rfl, d1, by rw [← F.n]; exact d2⟩
end Go.Sp
namespace Go.Sp
open Go
set_option maxRecDepth 100000
set_option linter.unusedVariables false
open Go.Proofs
variable (K : Env → W) (k : Value → W) {e : Enc} {args : Array Value} {G : e.α → W} {L : List HP} {ρ : Env}
attribute [local instance] cI cB cP cA
end Go.Sp
namespace Go.Sp
open Go Go.Proofs
set_option linter.unusedSimpArgs false
set_option linter.unusedVariables false
set_option maxRecDepth 10000
abbrev cOp (x : gharrylaw10_Op) : List Value := [.int .i64 x.Kind, .int .i64 x.Id, .int .u8 x.C]
theorem cOp_len (x : gharrylaw10_Op) : (cOp x).length = 3 := rfl
def goodOp (x : gharrylaw10_Op) : Prop := ∃ c : UInt8, (c.toNat : Int) = x.C
theorem op_of {cs : List Value} (h : lfs [.i .i64, .i .i64, .i .u8] cs) : ∃ x : gharrylaw10_Op, cs = cOp x ∧ goodOp x := by
  rcases cs with _ | ⟨v0, _ | ⟨v1, _ | ⟨v2, _ | ⟨v3, r⟩⟩⟩⟩ <;> try (simp [lfs] at h; done)
  obtain ⟨⟨k, rfl, _⟩, ⟨i, rfl, _⟩, ⟨t, rfl, ht⟩, _⟩ := h
  have : 0 ≤ t ∧ t ≤ 255 := by simpa [Lit.wf, IntKind.min, IntKind.max, IntKind.signed, IntKind.bits] using ht
  refine ⟨⟨k, i, t⟩, rfl, UInt8.ofNat t.toNat, ?_⟩
  rw [UInt8.toNat_ofNat']
  dsimp only
  omega
def swg (g : Gh) (n : Nat) (k id : Int) (c : UInt8) : Gh × Nat :=
  if (k = 0 ∨ k = 1) ∧ n + 19 ≤ 2320 then (if id < 0 ∨ 8 ≤ id then g else g.put id.toNat (fl c) ((n : Int) + 1), n + 19) else (g, n)
theorem swg_P (g : Gh) (n : Nat) (k id : Int) (c : UInt8) (q : Nat) : (swg g n k id c).1.P q = g.P q := by
  unfold swg
  split
  · dsimp only
    split <;> rfl
  · rfl
theorem npn_zero {l : List Int} (h : ∀ q, q < 8 → l.getD q 0 ≤ 0) : ∀ i, i ≤ 8 → npn l i = 0
  | 0, _ => rfl
  | i + 1, hi => by
    have := h i (by omega)
    unfold npn
    rw [if_neg (by omega), npn_zero h i (by omega)]
theorem Pv.wst_same {S : St} {sb : Nat} {w : Wo} {g : Gh} (h : Pv S sb w g) (hz : ∀ q, q < 8 → g.P q ≤ 0) (id : Int) (c : UInt8) {k : Int} (hk : k = 0 ∨ k = 1) :
    ((Go.Sp.wst S w g id c).2.2, (Go.Sp.wst S w g id c).2.1.G.all.length) = swg g w.G.all.length k id c := by
  unfold swg
  by_cases hf : w.G.all.length + 19 ≤ 2320
  · rw [if_pos ⟨hk, hf⟩]
    by_cases hr : id < 0 ∨ 8 ≤ id
    · obtain ⟨ρ, hW⟩ := h.wi
      obtain ⟨f, c1, c2⟩ := cm_frame (cm_fits c)
      have hA := h.app (cm (c.toNat : Int))
      have e := append_is (G := w.G) hW.dead (cm (c.toNat : Int))
      have hs := h.sec
      rw [c1, if_pos rfl, c2, if_pos (by omega)] at e
      rw [e] at hA
      rw [if_pos hr]
      unfold Go.Sp.wst
      rw [e]
      dsimp only at hA ⊢
      rw [if_pos rfl]
      have ew : Go.Sp.wset S ⟨w.P, { w.G with all := w.G.all ++ f }, w.Z⟩ id (fl c) ((w.G.all.length + 1 : Nat) : Int) = (6, ⟨w.P, { w.G with all := w.G.all ++ f }, w.Z⟩) := by
        unfold Go.Sp.wset
        rw [if_neg (by rw [fl_224]; simp), if_neg (by omega), hA.hold_out hr]
      rw [ew]
      unfold wst2
      rw [if_pos hr]
      dsimp only
      rw [List.length_append, c2]
    · obtain ⟨p, rfl⟩ : ∃ p : Nat, id = (p : Int) := ⟨id.toNat, by omega⟩
      obtain ⟨_, _, _, _, a⟩ := h.wst (p : Int) c
      obtain ⟨a1, _, a2⟩ := a hf hz p (by omega) rfl
      rw [if_neg hr, a1, a2, Int.toNat_natCast]
  · rw [if_neg (fun x => hf x.2)]
    obtain ⟨ρ, hW⟩ := h.wi
    obtain ⟨f, c1, c2⟩ := cm_frame (cm_fits c)
    have e := append_is (G := w.G) hW.dead (cm (c.toNat : Int))
    have hs := h.sec
    rw [c1, if_pos rfl, c2, if_neg (by omega)] at e
    unfold Go.Sp.wst
    rw [e]
    dsimp only
    rw [if_neg (by decide)]
theorem Pv.swk_same {S : St} {sb : Nat} {w : Wo} {g : Gh} (h : Pv S sb w g) (r : Ra w.P) (hz : ∀ q, q < 8 → g.P q ≤ 0) {k : Int} (h3 : k ≠ 3) (h4 : k ≠ 4) (id : Int) (c : UInt8) :
    ((Go.Sp.swk S w g k id c).2.2, (Go.Sp.swk S w g k id c).2.1.G.all.length) = swg g w.G.all.length k id c := by
  unfold Go.Sp.swk
  by_cases h0 : k = 0 ∨ k = 1
  · rw [if_pos h0]; exact h.wst_same hz id c h0
  have e : swg g w.G.all.length k id c = (g, w.G.all.length) := by unfold swg; rw [if_neg (fun x => h0 x.1)]
  rw [e, if_neg h0]
  split
  · obtain ⟨_, _, _, a⟩ := h.get id
    dsimp only
    rw [a]
  split
  · obtain ⟨_, _, _, a⟩ := h.flu id
    dsimp only
    rw [a]
  · obtain ⟨_, _, _, a, _⟩ := Pv.fla w.P.fs.length 0 w h r (by omega) (fun j hj => by omega)
    dsimp only
    rw [a]
theorem Pv.gets {S : St} {sb : Nat} {w : Wo} {g : Gh} (h : Pv S sb w g) (hz : ∀ q, q < 8 → g.P q ≤ 0) {p : Nat} (hp : p < 8) : wget S w (p : Int) = (g.T p, g.N p, 0) ∧ Pv S sb (hld S w (p : Int)).2 g := by
  obtain ⟨a, b, _⟩ := h.get (p : Int)
  refine ⟨?_, b⟩
  unfold stg at a
  rw [if_neg (by omega), Int.toNat_natCast, npn_zero hz 8 (Nat.le_refl _)] at a
  split at a
  · simp at a
  · exact of_decide_eq_true a
end Go.Sp
namespace Go.Sp
open Go
set_option maxRecDepth 100000
set_option linter.unusedVariables false
open Go.Proofs
variable (K : Env → W) (k : Value → W) {e : Enc} {args : Array Value} {G : e.α → W} {L : List HP} {ρ : Env}
attribute [local instance] cI cB cP cA
noncomputable def c11 := cf Tryz.f11 116 [(0, [0, 1, 2]), (1, [0, 1, 2]), (2, []), (3, [0, 1, 2]), (4, [1, 2, 7]), (5, [2, 7, 8]), (6, []), (7, [2, 7, 8]), (8, [2, 7, 8, 9]), (9, [2, 7, 8, 9]), (10, [2, 7, 8, 9]), (11, [2, 7, 8, 9, 10]), (12, [2, 7, 8, 9, 10]), (13, []), (14, [7, 8]), (15, [7, 8, 11]), (16, [7, 8, 11]), (17, [7, 8, 11]), (18, [7, 8, 11, 12, 13, 14]), (19, [7, 8, 11, 12, 13, 14, 15, 16, 17]), (20, []), (21, [])] [(0, [0, 1, 2]), (1, [0, 1, 2, 31]), (2, [6]), (3, [1, 2, 7]), (4, [2, 7, 8]), (5, [2, 7, 8, 42]), (6, [6]), (7, [2, 7, 8, 9]), (8, [2, 7, 8, 9, 50]), (9, [2, 7, 8, 9]), (10, [2, 7, 8, 9, 10]), (11, [2, 7, 8, 9, 10, 64]), (12, [2, 7, 8, 9, 74]), (13, [6]), (14, [7, 8, 11]), (15, [7, 8, 11, 76]), (16, [7, 8, 11]), (17, [7, 8, 11, 12, 13, 14]), (18, [7, 8, 11, 12, 13, 14, 15, 16, 17]), (19, [7, 8, 11, 114]), (20, [6]), (21, [6]), (1000000, [6])] [] []
@[go_sem] theorem c11_i : c11.li 0 = [0, 1, 2] ∧ c11.li 1 = [0, 1, 2] ∧ c11.li 2 = [] ∧ c11.li 3 = [0, 1, 2] ∧ c11.li 4 = [1, 2, 7] ∧ c11.li 5 = [2, 7, 8] ∧ c11.li 6 = [] ∧ c11.li 7 = [2, 7, 8] ∧ c11.li 8 = [2, 7, 8, 9] ∧ c11.li 9 = [2, 7, 8, 9] ∧ c11.li 10 = [2, 7, 8, 9] ∧ c11.li 11 = [2, 7, 8, 9, 10] ∧ c11.li 12 = [2, 7, 8, 9, 10] ∧ c11.li 13 = [] ∧ c11.li 14 = [7, 8] ∧ c11.li 15 = [7, 8, 11] ∧ c11.li 16 = [7, 8, 11] ∧ c11.li 17 = [7, 8, 11] ∧ c11.li 18 = [7, 8, 11, 12, 13, 14] ∧ c11.li 19 = [7, 8, 11, 12, 13, 14, 15, 16, 17] ∧ c11.li 20 = [] ∧ c11.li 21 = [] := ⟨rfl, rfl, rfl, rfl, rfl, rfl, rfl, rfl, rfl, rfl, rfl, rfl, rfl, rfl, rfl, rfl, rfl, rfl, rfl, rfl, rfl, rfl⟩
@[go_sem] theorem c11_r0 (v0 v1 : Int) (v2p : Option Addr) (v2n v2c : Nat) : RP c11 0 [(0, v0), (1, v1), (2, .slice v2p v2n v2c)] K =
 (K [(0, v0), (1, v1), (2, .slice v2p v2n v2c)]) := by kernel_rfl
@[go_sem] theorem c11_r1 (v0 v1 : Int) (v2p : Option Addr) (v2n v2c : Nat) : RP c11 1 [(0, v0), (1, v1), (2, .slice v2p v2n v2c)] K =
 (cnd (decide (v0 < 2)) (K [(0, v0), (1, v1), (2, .slice v2p v2n v2c), (31, true)]) (cnd (decide (10 < v0)) (K [(0, v0), (1, v1), (2, .slice v2p v2n v2c), (31, true)]) (cnd (decide (v1 < 2)) (K [(0, v0), (1, v1), (2, .slice v2p v2n v2c), (31, true)]) (K [(0, v0), (1, v1), (2, .slice v2p v2n v2c), (31, decide (10 < v1))])))) := by kernel_rfl
@[go_sem] theorem c11_r2 : RP c11 2 [] K =
 (cal eB Tryz.prog 44 #[] fun (y1_ : Bool) => (K [(6, y1_)])) := by kernel_rfl
@[go_sem] theorem c11_r3 (v0 v1 : Int) (v2p : Option Addr) (v2n v2c : Nat) : RP c11 3 [(0, v0), (1, v1), (2, .slice v2p v2n v2c)] K =
 (cal eP Tryz.prog 41 #[v0] fun (y1_ : Option Addr) => (K [(1, v1), (2, .slice v2p v2n v2c), (7, y1_)])) := by kernel_rfl
@[go_sem] theorem c11_r4 (v1 : Int) (v2p : Option Addr) (v2n v2c : Nat) (v7 : Option Addr) : RP c11 4 [(1, v1), (2, .slice v2p v2n v2c), (7, v7)] K =
 (cal eP Tryz.prog 41 #[v1] fun (y1_ : Option Addr) => (K [(2, .slice v2p v2n v2c), (7, v7), (8, y1_)])) := by kernel_rfl
@[go_sem] theorem c11_r5 (v2p : Option Addr) (v2n v2c : Nat) (v7 v8 : Option Addr) : RP c11 5 [(2, .slice v2p v2n v2c), (7, v7), (8, v8)] K =
 (cnd (v7.isNone) (K [(2, .slice v2p v2n v2c), (7, v7), (8, v8), (42, true)]) (K [(2, .slice v2p v2n v2c), (7, v7), (8, v8), (42, .bool (v8.isNone))])) := by kernel_rfl
@[go_sem] theorem c11_r6 : RP c11 6 [] K =
 (K [(6, false)]) := by kernel_rfl
@[go_sem] theorem c11_r7 (v2p : Option Addr) (v2n v2c : Nat) (v7 v8 : Option Addr) : RP c11 7 [(2, .slice v2p v2n v2c), (7, v7), (8, v8)] K =
 (K [(2, .slice v2p v2n v2c), (7, v7), (8, v8), (9, .int .i64 0)]) := by kernel_rfl
@[go_sem] theorem c11_r8 (v2p : Option Addr) (v2n v2c : Nat) (v7 v8 : Option Addr) (v9 : Int) : RP c11 8 [(2, .slice v2p v2n v2c), (7, v7), (8, v8), (9, v9)] K =
 (cnd (decide (v9 < v2n)) (K [(2, .slice v2p v2n v2c), (7, v7), (8, v8), (9, v9), (50, decide (v9 < 60))]) (K [(2, .slice v2p v2n v2c), (7, v7), (8, v8), (9, v9), (50, false)])) := by kernel_rfl
@[go_sem] theorem c11_r9 (v2p : Option Addr) (v2n v2c : Nat) (v7 v8 : Option Addr) (v9 : Int) : RP c11 9 [(2, .slice v2p v2n v2c), (7, v7), (8, v8), (9, v9)] K =
 (K [(2, .slice v2p v2n v2c), (7, v7), (8, v8), (9, IntKind.wrap .i64 (v9 + 1))]) := by kernel_rfl
@[go_sem] theorem c11_r10 (v2p : Option Addr) (v2n v2c : Nat) (v7 v8 : Option Addr) (v9 : Int) : RP c11 10 [(2, .slice v2p v2n v2c), (7, v7), (8, v8), (9, v9)] K =
 (rq (0 ≤ v9 ∧ v9 < v2n) (nn v2p fun y1_ => (ldn e_gharrylaw10_Op 3 (Addr.add y1_ (v9.toNat * 3)) fun (y2_ : gharrylaw10_Op) => (nwc #[.int .i64 0, .int .i64 0, .int .u8 0] 90 fun y3_ => (stl [y2_.Kind, y2_.Id, .int .u8 y2_.C] y3_ 0 (K [(2, .slice v2p v2n v2c), (7, v7), (8, v8), (9, v9), (10, y3_)])))))) := by kernel_rfl
@[go_sem] theorem c11_r11 (v2p : Option Addr) (v2n v2c : Nat) (v7 v8 : Option Addr) (v9 : Int) (v10 : Addr) : RP c11 11 [(2, .slice v2p v2n v2c), (7, v7), (8, v8), (9, v9), (10, v10)] K =
 (ld eI v10 fun (y1_ : Int) => (cnd (y1_ == 3) (K [(2, .slice v2p v2n v2c), (7, v7), (8, v8), (9, v9), (10, v10), (64, true)]) (ld eI v10 fun (y2_ : Int) => (K [(2, .slice v2p v2n v2c), (7, v7), (8, v8), (9, v9), (10, v10), (64, .bool (y2_ == 4))])))) := by kernel_rfl
@[go_sem] theorem c11_r12 (v2p : Option Addr) (v2n v2c : Nat) (v7 v8 : Option Addr) (v9 : Int) (v10 : Addr) : RP c11 12 [(2, .slice v2p v2n v2c), (7, v7), (8, v8), (9, v9), (10, v10)] K =
 (ldn e_gharrylaw10_Op 3 v10 fun (y1_ : gharrylaw10_Op) => (cal eB Tryz.prog 52 #[v7, v_gharrylaw10_Op y1_] fun (y2_ : Bool) => (cnd (!y2_) (K [(2, .slice v2p v2n v2c), (7, v7), (8, v8), (9, v9), (74, true)]) (ldn e_gharrylaw10_Op 3 v10 fun (y3_ : gharrylaw10_Op) => (cal eB Tryz.prog 52 #[v8, v_gharrylaw10_Op y3_] fun (y4_ : Bool) => (K [(2, .slice v2p v2n v2c), (7, v7), (8, v8), (9, v9), (74, .bool (!y4_))])))))) := by kernel_rfl
@[go_sem] theorem c11_r13 : RP c11 13 [] K =
 (K [(6, false)]) := by kernel_rfl
@[go_sem] theorem c11_r14 (v7 v8 : Option Addr) : RP c11 14 [(7, v7), (8, v8)] K =
 (K [(7, v7), (8, v8), (11, .int .i64 0)]) := by kernel_rfl
@[go_sem] theorem c11_r15 (v7 v8 : Option Addr) (v11 : Int) : RP c11 15 [(7, v7), (8, v8), (11, v11)] K =
 (K [(7, v7), (8, v8), (11, v11), (76, decide (v11 < 8))]) := by kernel_rfl
@[go_sem] theorem c11_r16 (v7 v8 : Option Addr) (v11 : Int) : RP c11 16 [(7, v7), (8, v8), (11, v11)] K =
 (K [(7, v7), (8, v8), (11, IntKind.wrap .i64 (v11 + 1))]) := by kernel_rfl
@[go_sem] theorem c11_r17 (v7 v8 : Option Addr) (v11 : Int) : RP c11 17 [(7, v7), (8, v8), (11, v11)] K =
 (nn v7 fun y1_ => (ld eP (y1_.add 3) fun (y2_ : Option Addr) => (cal (eT3 eS eI eI) Tryz.prog 49 #[y2_, v11] fun (y3_ : ((List UInt8) × Int × Int)) => (K [(7, v7), (8, v8), (11, v11), (12, str y3_.1), (13, .int .i64 y3_.2.1), (14, .int .i64 y3_.2.2)])))) := by kernel_rfl
@[go_sem] theorem c11_r18 (v7 v8 : Option Addr) (v11 : Int) (v12 : List UInt8) (v13 v14 : Int) : RP c11 18 [(7, v7), (8, v8), (11, v11), (12, str v12), (13, v13), (14, v14)] K =
 (nn v8 fun y1_ => (ld eP (y1_.add 3) fun (y2_ : Option Addr) => (cal (eT3 eS eI eI) Tryz.prog 49 #[y2_, v11] fun (y3_ : ((List UInt8) × Int × Int)) => (K [(7, v7), (8, v8), (11, v11), (12, str v12), (13, v13), (14, v14), (15, str y3_.1), (16, .int .i64 y3_.2.1), (17, .int .i64 y3_.2.2)])))) := by kernel_rfl
@[go_sem] theorem c11_r19 (v7 v8 : Option Addr) (v11 : Int) (v12 : List UInt8) (v13 v14 : Int) (v15 : List UInt8) (v16 v17 : Int) : RP c11 19 [(7, v7), (8, v8), (11, v11), (12, str v12), (13, v13), (14, v14), (15, str v15), (16, v16), (17, v17)] K =
 (cnd (!(v12 == v15)) (K [(7, v7), (8, v8), (11, v11), (114, true)]) (cnd (v13 != v16) (K [(7, v7), (8, v8), (11, v11), (114, true)]) (cnd (v14 != 0) (K [(7, v7), (8, v8), (11, v11), (114, true)]) (K [(7, v7), (8, v8), (11, v11), (114, .bool (v17 != 0))])))) := by kernel_rfl
@[go_sem] theorem c11_r20 : RP c11 20 [] K =
 (K [(6, false)]) := by kernel_rfl
@[go_sem] theorem c11_r21 : RP c11 21 [] K =
 (cal eB Tryz.prog 44 #[] fun (y1_ : Bool) => (K [(6, y1_)])) := by kernel_rfl
@[go_sem] theorem c11_o : c11.lo 1000000 = [6] := rfl
@[go_sem] theorem c11_e (v6 : Bool) : RTp c11 [(6, v6)] k = (k (v6)) := by kernel_rfl
theorem c11_ok : (c11.P.follows .mixedOrders && okc c11 c11.body) = true := by kernel_rfl
theorem c11_fn (hρ : envA 0 args.toList = ρ) (hs : Nat.ble args.size 116 = true) (h : E L (D c11 (.seq (.reg 0) (.seq (.seq (.reg 1) (.cond (.tmp 31) (.seq (.reg 2) (.ret)) (.skip))) (.seq (.reg 3) (.seq (.reg 4) (.seq (.seq (.reg 5) (.cond (.tmp 42) (.seq (.reg 6) (.ret)) (.skip))) (.seq (.seq (.reg 7) (.block 0 (.loop (.seq (.seq (.reg 8) (.cond (.tmp 50) (.skip) (.exit 0))) (.seq (.block 1 (.seq (.reg 10) (.seq (.seq (.reg 11) (.cond (.tmp 64) (.exit 1) (.skip))) (.seq (.reg 12) (.cond (.tmp 74) (.seq (.reg 13) (.ret)) (.skip)))))) (.reg 9)))))) (.seq (.seq (.reg 14) (.block 2 (.loop (.seq (.seq (.reg 15) (.cond (.tmp 76) (.skip) (.exit 2))) (.seq (.block 3 (.seq (.reg 17) (.seq (.reg 18) (.seq (.reg 19) (.cond (.tmp 114) (.seq (.reg 20) (.ret)) (.skip)))))) (.reg 16)))))) (.seq (.reg 21) (.ret))))))))) (fnQ c11 e G) ρ)) : E L (cal e Tryz.prog 11 args G) :=
  d_fn (c := c11) Tryz.func11 (by kernel_rfl) (by kernel_rfl) (by kernel_rfl) c11_ok (by kernel_rfl) (by kernel_rfl) hρ hs h
end Go.Sp
namespace Go.Sp
open Go Go.Proofs
set_option linter.unusedSimpArgs false
set_option linter.unusedVariables false
set_option maxRecDepth 10000
theorem swk_sq {wb : Nat} {S : St} {sb : Nat} {w : Wo} {g : Gh} (h : Pv S sb w g) (r : Ra w.P) (hz : ∀ q, q < 8 → g.P q ≤ 0) {x : gharrylaw10_Op} {c : UInt8} (hc : (c.toNat : Int) = x.C) (h3 : x.Kind ≠ 3) (h4 : x.Kind ≠ 4) {lq pq n : Nat} (e1 : w.G.q = lq) (e2 : w.P.q = pq) (e3 : w.G.all.length = n) : ∃ w' : Wo,
    Fq eB Tryz.prog 52 #[.pointer (some ⟨wb, 0, none⟩), v_gharrylaw10_Op x] (wld wb sb S.q lq pq g :: wos S sb w) (wld wb sb S.q lq pq (swg g n x.Kind x.Id c).1 :: wos S sb w') true ∧ Pv S sb w' (swg g n x.Kind x.Id c).1 ∧ Ra w'.P ∧ w'.G.q = lq ∧ w'.P.q = pq ∧ w'.G.all.length = (swg g n x.Kind x.Id c).2 := by
  have F := g52 wb S sb w h.ok g h.gok h.sp x.Kind x.Id c (fun hd => r.dirt hd)
  obtain ⟨a1, a2, a3, a4⟩ := h.swk r x.Kind x.Id c (m := 0) (by decide) hz
  have a5 := r.swk h.ok h.sp g x.Kind x.Id c
  obtain ⟨b1, b2⟩ := swk_q h.ok h.gok x.Kind x.Id c
  have s := h.swk_same r hz h3 h4 x.Id c
  rw [e3] at s
  unfold opv wpa at F
  rw [hc, a1, e1, e2] at F
  generalize Go.Sp.swk S w g x.Kind x.Id c = R at *
  obtain ⟨t, w', g'⟩ := R
  dsimp only at F a2 a5 b1 b2 s
  rw [← s]
  exact ⟨w', F, a2, a5, b1.trans e1, b2.trans e2, rfl⟩
set_option maxHeartbeats 2000000 in
theorem g11 (n m : Int) {A : HP} {t : SlV} {l : List gharrylaw10_Op} (hR : Rs A t 3 (l.flatMap cOp)) (hg : ∀ x ∈ l, goodOp x) : Fp eB Tryz.prog 11 #[.int .i64 n, .int .i64 m, .slice t.1 t.2.1 t.2.2] [A] true := fun L => by
  obtain ⟨sp, sn, sc⟩ := t
  obtain rfl : sn = l.length := hR.len cOp_len (by decide)
  refine c11_fn rfl rfl ?_
  by_cases hr : (n < 2 ∨ 10 < n) ∨ (m < 2 ∨ 10 < m)
  · repeat' ((fail_if_success with_reducible refine nph ?_); first | (with_reducible first | (refine d_seq ?_; intro K hK) | (refine hK _ _ ?_; clear hK K) | (refine SG.p ?_; try intro b) | refine r_rq (by first | decide | omega) ?_) | ((with_reducible refine SC.p ?_); refine aI ?_ ?_) <;> intro hc <;> try simp only [push_cast, seval] at hc | ((with_reducible refine SL.p ?_); first | refine ⟨_, rfl, ?_⟩ | refine ⟨_, _, _, rfl, ?_⟩ | (refine ⟨?_, rfl, ?_⟩; focus (simp; done))) | ((with_reducible first | apply i_ldn | apply i_ldnq); iterate 3 exact rfl) | ((try with_reducible refine d_reg ?_); simp only [go_sem]) | clear hK K)
    all_goals try (exfalso; omega)
    all_goals try contradiction
    all_goals
      refine i_clp g44 ?_
      repeat' ((fail_if_success with_reducible refine nph ?_); first | (with_reducible first | (refine d_seq ?_; intro K hK) | (refine hK _ _ ?_; clear hK K) | (refine SG.p ?_; try intro b) | refine r_rq (by first | decide | omega) ?_) | ((with_reducible refine SC.p ?_); refine aI ?_ ?_) <;> intro hc <;> try simp only [push_cast, seval] at hc | ((with_reducible refine SL.p ?_); first | refine ⟨_, rfl, ?_⟩ | refine ⟨_, _, _, rfl, ?_⟩ | (refine ⟨?_, rfl, ?_⟩; focus (simp; done))) | ((with_reducible first | apply i_ldn | apply i_ldnq); iterate 3 exact rfl) | ((try with_reducible refine d_reg ?_); simp only [go_sem]) | clear hK K)
      (with_reducible first | apply i_ret0 | apply i_ret2 | apply i_ret3 | apply i_ret); exact rfl
      rfl
  obtain ⟨k, rfl⟩ : ∃ k : Nat, n = (k : Int) := ⟨n.toNat, by omega⟩
  obtain ⟨j, rfl⟩ : ∃ j : Nat, m = (j : Int) := ⟨m.toNat, by omega⟩
  repeat' ((fail_if_success with_reducible refine nph ?_); first | (with_reducible first | (refine d_seq ?_; intro K hK) | (refine hK _ _ ?_; clear hK K) | (refine SG.p ?_; try intro b) | refine r_rq (by first | decide | omega) ?_) | ((with_reducible refine SC.p ?_); refine aI ?_ ?_) <;> intro hc <;> try simp only [push_cast, seval] at hc | ((with_reducible refine SL.p ?_); first | refine ⟨_, rfl, ?_⟩ | refine ⟨_, _, _, rfl, ?_⟩ | (refine ⟨?_, rfl, ?_⟩; focus (simp; done))) | ((with_reducible first | apply i_ldn | apply i_ldnq); iterate 3 exact rfl) | ((try with_reducible refine d_reg ?_); simp only [go_sem]) | clear hK K)
  all_goals try (exfalso; omega)
  all_goals try contradiction
  refine i_cal (g41 k (by omega) (by omega)) ?_
  rintro y X ⟨wb, sb, S, w0, rfl, rfl, hNw⟩
  have h0 := hNw.pv
  have r0 : Ra w0.P := by rw [hNw.p]; exact Ra.new _ _ _ _ _
  have n0 : w0.G.all.length = 0 := by rw [hNw.g]; rfl
  clear hNw
  dsimp only [List.cons_append, List.nil_append]
  repeat' ((fail_if_success with_reducible refine nph ?_); first | (with_reducible first | (refine d_seq ?_; intro K hK) | (refine hK _ _ ?_; clear hK K) | (refine SG.p ?_; try intro b) | refine r_rq (by first | decide | omega) ?_) | ((with_reducible refine SC.p ?_); refine aI ?_ ?_) <;> intro hc <;> try simp only [push_cast, seval] at hc | ((with_reducible refine SL.p ?_); first | refine ⟨_, rfl, ?_⟩ | refine ⟨_, _, _, rfl, ?_⟩ | (refine ⟨?_, rfl, ?_⟩; focus (simp; done))) | ((with_reducible first | apply i_ldn | apply i_ldnq); iterate 3 exact rfl) | ((try with_reducible refine d_reg ?_); simp only [go_sem]) | clear hK K)
  refine i_cal (g41 j (by omega) (by omega)) ?_
  rintro y X ⟨wc, sc', S', w1, rfl, rfl, hNw⟩
  have h1 := hNw.pv
  have r1 : Ra w1.P := by rw [hNw.p]; exact Ra.new _ _ _ _ _
  have n1 : w1.G.all.length = 0 := by rw [hNw.g]; rfl
  clear hNw
  dsimp only [List.cons_append, List.nil_append]
  repeat' ((fail_if_success with_reducible refine nph ?_); first | (with_reducible first | (refine d_seq ?_; intro K hK) | (refine hK _ _ ?_; clear hK K) | (refine SG.p ?_; try intro b) | refine r_rq (by first | decide | omega) ?_) | ((with_reducible refine SC.p ?_); refine aI ?_ ?_) <;> intro hc <;> try simp only [push_cast, seval] at hc | ((with_reducible refine SL.p ?_); first | refine ⟨_, rfl, ?_⟩ | refine ⟨_, _, _, rfl, ?_⟩ | (refine ⟨?_, rfl, ?_⟩; focus (simp; done))) | ((with_reducible first | apply i_ldn | apply i_ldnq); iterate 3 exact rfl) | ((try with_reducible refine d_reg ?_); simp only [go_sem]) | clear hK K)
  all_goals try contradiction
  generalize hq0 : w0.P.q = q0
  generalize hg0 : w0.G.q = l0
  generalize hq1 : w1.P.q = q1
  generalize hg1 : w1.G.q = l1
  refine d_lp [2, 7, 8, 9] (fun t : Nat × Wo × Wo × Gh => [(2, .slice sp l.length sc), (7, .pointer (some ⟨wb, 0, none⟩)), (8, .pointer (some ⟨wc, 0, none⟩)), (9, .int .i64 (t.1 : Int))])
    (fun t => wld wb sb S.q l0 q0 t.2.2.2 :: (wos S sb t.2.1 ++ (wld wc sc' S'.q l1 q1 t.2.2.2 :: (wos S' sc' t.2.2.1 ++ (A :: L))))) (fun t => t.1 ≤ 60 ∧ (Pv S sb t.2.1 t.2.2.2 ∧ Ra t.2.1.P ∧ t.2.1.P.q = q0 ∧ t.2.1.G.q = l0) ∧ (Pv S' sc' t.2.2.1 t.2.2.2 ∧ Ra t.2.2.1.P ∧ t.2.2.1.P.q = q1 ∧ t.2.2.1.G.q = l1) ∧ t.2.1.G.all.length = t.2.2.1.G.all.length ∧ ∀ q, q < 8 → t.2.2.2.P q ≤ 0) (fun t => 60 - t.1) (0, w0, w1, g0) rfl SX.p ⟨Nat.zero_le _, ⟨h0, r0, hq0, hg0⟩, ⟨h1, r1, hq1, hg1⟩, n0.trans n1.symm, fun q _ => Int.le_of_eq (g0P q)⟩ ?_
  clear h0 r0 hq0 hg0 h1 r1 hq1 hg1 n0 n1 w0 w1
  rintro ⟨i, v, w, g⟩ ⟨i1, ⟨hv, ra, hq, hl⟩, ⟨hv', ra', hq', hl'⟩, hn, hz⟩
  dsimp only at i1 hv ra hq hl hv' ra' hq' hl' hn hz ⊢
  by_cases hi : i < l.length ∧ i < 60
  · have hx : l[i]? = some l[i] := List.getElem?_eq_getElem hi.1
    have hgx := hg l[i] (List.getElem_mem _)
    obtain ⟨ad, rfl⟩ := hR.ptr (by omega)
    generalize l[i] = x at *
    have ei : IntKind.wrap .i64 ((i : Int) + 1) = ((i + 1 : Nat) : Int) := by rw [w64 (by omega) (by omega)]; omega
    repeat' ((fail_if_success with_reducible refine nph ?_); first | (with_reducible first | (refine d_seq ?_; intro K hK) | (refine hK _ _ ?_; clear hK K) | (refine SG.p ?_; try intro b) | refine r_rq (by first | decide | omega) ?_) | ((with_reducible refine SC.p ?_); refine aI ?_ ?_) <;> intro hc <;> try simp only [push_cast, seval] at hc | ((with_reducible refine SL.p ?_); first | refine ⟨_, rfl, ?_⟩ | refine ⟨_, _, _, rfl, ?_⟩ | (refine ⟨?_, rfl, ?_⟩; focus (simp; done))) | ((with_reducible first | apply i_ldn | apply i_ldnq); iterate 3 exact rfl) | ((try with_reducible refine d_reg ?_); simp only [go_sem]) | clear hK K)
    all_goals try (exfalso; omega)
    refine i_sn (y := x) hR cOp_len hx rfl ?_
    by_cases hk : x.Kind = 3 ∨ x.Kind = 4
    · repeat' ((fail_if_success with_reducible refine nph ?_); first | (with_reducible first | (refine d_seq ?_; intro K hK) | (refine hK _ _ ?_; clear hK K) | (refine SG.p ?_; try intro b) | refine r_rq (by first | decide | omega) ?_) | ((with_reducible refine SC.p ?_); refine aI ?_ ?_) <;> intro hc <;> try simp only [push_cast, seval] at hc | ((with_reducible refine SL.p ?_); first | refine ⟨_, rfl, ?_⟩ | refine ⟨_, _, _, rfl, ?_⟩ | (refine ⟨?_, rfl, ?_⟩; focus (simp; done))) | ((with_reducible first | apply i_ldn | apply i_ldnq); iterate 3 exact rfl) | ((try with_reducible refine d_reg ?_); simp only [go_sem]) | clear hK K)
      all_goals try (exfalso; omega)
      all_goals
        rw [ei]
        exact i_bk (i + 1, v, w, g) rfl ⟨by dsimp only; omega, ⟨hv, ra, hq, hl⟩, ⟨hv', ra', hq', hl'⟩, hn, hz⟩ (by dsimp only; omega)
    obtain ⟨c, hc⟩ := hgx
    obtain ⟨v', F, a1, a2, a3, a4, a5⟩ := swk_sq (wb := wb) hv ra hz hc (by omega) (by omega) hl hq hn
    obtain ⟨w', F', b1, b2, b3, b4, b5⟩ := swk_sq (wb := wc) hv' ra' hz hc (by omega) (by omega) hl' hq' rfl
    have hz2 : ∀ q, q < 8 → (swg g w.G.all.length x.Kind x.Id c).1.P q ≤ 0 := fun q h8 => by rw [swg_P]; exact hz q h8
    generalize swg g w.G.all.length x.Kind x.Id c = G at *
    repeat' ((fail_if_success with_reducible refine nph ?_); first | (with_reducible first | (refine d_seq ?_; intro K hK) | (refine hK _ _ ?_; clear hK K) | (refine SG.p ?_; try intro b) | refine r_rq (by first | decide | omega) ?_) | ((with_reducible refine SC.p ?_); refine aI ?_ ?_) <;> intro hc <;> try simp only [push_cast, seval] at hc | ((with_reducible refine SL.p ?_); first | refine ⟨_, rfl, ?_⟩ | refine ⟨_, _, _, rfl, ?_⟩ | (refine ⟨?_, rfl, ?_⟩; focus (simp; done))) | ((with_reducible first | apply i_ldn | apply i_ldnq); iterate 3 exact rfl) | ((try with_reducible refine d_reg ?_); simp only [go_sem]) | clear hK K)
    all_goals try (exfalso; omega)
    refine i_clq F ?_
    repeat' ((fail_if_success with_reducible refine nph ?_); first | (with_reducible first | (refine d_seq ?_; intro K hK) | (refine hK _ _ ?_; clear hK K) | (refine SG.p ?_; try intro b) | refine r_rq (by first | decide | omega) ?_) | ((with_reducible refine SC.p ?_); refine aI ?_ ?_) <;> intro hc <;> try simp only [push_cast, seval] at hc | ((with_reducible refine SL.p ?_); first | refine ⟨_, rfl, ?_⟩ | refine ⟨_, _, _, rfl, ?_⟩ | (refine ⟨?_, rfl, ?_⟩; focus (simp; done))) | ((with_reducible first | apply i_ldn | apply i_ldnq); iterate 3 exact rfl) | ((try with_reducible refine d_reg ?_); simp only [go_sem]) | clear hK K)
    all_goals try contradiction
    refine i_clq F' ?_
    repeat' ((fail_if_success with_reducible refine nph ?_); first | (with_reducible first | (refine d_seq ?_; intro K hK) | (refine hK _ _ ?_; clear hK K) | (refine SG.p ?_; try intro b) | refine r_rq (by first | decide | omega) ?_) | ((with_reducible refine SC.p ?_); refine aI ?_ ?_) <;> intro hc <;> try simp only [push_cast, seval] at hc | ((with_reducible refine SL.p ?_); first | refine ⟨_, rfl, ?_⟩ | refine ⟨_, _, _, rfl, ?_⟩ | (refine ⟨?_, rfl, ?_⟩; focus (simp; done))) | ((with_reducible first | apply i_ldn | apply i_ldnq); iterate 3 exact rfl) | ((try with_reducible refine d_reg ?_); simp only [go_sem]) | clear hK K)
    all_goals try contradiction
    rw [ei]
    exact i_bk (i + 1, v', w', G.1) rfl ⟨by dsimp only; omega, ⟨a1, a2, a4, a3⟩, ⟨b1, b2, b4, b3⟩, a5.trans b5.symm, hz2⟩ (by dsimp only; omega)
  · repeat' ((fail_if_success with_reducible refine nph ?_); first | (with_reducible first | (refine d_seq ?_; intro K hK) | (refine hK _ _ ?_; clear hK K) | (refine SG.p ?_; try intro b) | refine r_rq (by first | decide | omega) ?_) | ((with_reducible refine SC.p ?_); refine aI ?_ ?_) <;> intro hc <;> try simp only [push_cast, seval] at hc | ((with_reducible refine SL.p ?_); first | refine ⟨_, rfl, ?_⟩ | refine ⟨_, _, _, rfl, ?_⟩ | (refine ⟨?_, rfl, ?_⟩; focus (simp; done))) | ((with_reducible first | apply i_ldn | apply i_ldnq); iterate 3 exact rfl) | ((try with_reducible refine d_reg ?_); simp only [go_sem]) | clear hK K)
    all_goals try (exfalso; omega)
    all_goals
      refine d_lp [7, 8, 11] (fun t : Nat × Wo × Wo => [(7, .pointer (some ⟨wb, 0, none⟩)), (8, .pointer (some ⟨wc, 0, none⟩)), (11, .int .i64 (t.1 : Int))])
        (fun t => wld wb sb S.q l0 q0 g :: (wos S sb t.2.1 ++ (wld wc sc' S'.q l1 q1 g :: (wos S' sc' t.2.2 ++ (A :: L))))) (fun t => t.1 ≤ 8 ∧ (Pv S sb t.2.1 g ∧ t.2.1.P.q = q0) ∧ (Pv S' sc' t.2.2 g ∧ t.2.2.P.q = q1)) (fun t => 8 - t.1) (0, v, w) rfl SX.p ⟨Nat.zero_le _, ⟨hv, hq⟩, ⟨hv', hq'⟩⟩ ?_
      clear hv ra hq hl hv' ra' hq' hl' hn i1 hi v w
      rintro ⟨i, v, w⟩ ⟨i1, ⟨hv, hq⟩, ⟨hv', hq'⟩⟩
      dsimp only at i1 hv hq hv' hq' ⊢
      by_cases hi : i < 8
      · have F := g49 S sb 80 v hv.ok (i : Int)
        have F' := g49 S' sc' 80 w hv'.ok (i : Int)
        obtain ⟨a1, a2⟩ := hv.gets hz hi
        obtain ⟨b1, b2⟩ := hv'.gets hz hi
        obtain ⟨_, a3, _⟩ := hld_ok hv.ok (i : Int)
        obtain ⟨_, b3, _⟩ := hld_ok hv'.ok (i : Int)
        have a4 := a3.q
        have b4 := b3.q
        rw [a1] at F
        rw [b1] at F'
        unfold Po.p at F F'
        rw [hq] at F a4
        rw [hq'] at F' b4
        have ei : IntKind.wrap .i64 ((i : Int) + 1) = ((i + 1 : Nat) : Int) := by rw [w64 (by omega) (by omega)]; omega
        repeat' ((fail_if_success with_reducible refine nph ?_); first | (with_reducible first | (refine d_seq ?_; intro K hK) | (refine hK _ _ ?_; clear hK K) | (refine SG.p ?_; try intro b) | refine r_rq (by first | decide | omega) ?_) | ((with_reducible refine SC.p ?_); refine aI ?_ ?_) <;> intro hc <;> try simp only [push_cast, seval] at hc | ((with_reducible refine SL.p ?_); first | refine ⟨_, rfl, ?_⟩ | refine ⟨_, _, _, rfl, ?_⟩ | (refine ⟨?_, rfl, ?_⟩; focus (simp; done))) | ((with_reducible first | apply i_ldn | apply i_ldnq); iterate 3 exact rfl) | ((try with_reducible refine d_reg ?_); simp only [go_sem]) | clear hK K)
        all_goals try (exfalso; omega)
        refine i_clq F ?_
        repeat' ((fail_if_success with_reducible refine nph ?_); first | (with_reducible first | (refine d_seq ?_; intro K hK) | (refine hK _ _ ?_; clear hK K) | (refine SG.p ?_; try intro b) | refine r_rq (by first | decide | omega) ?_) | ((with_reducible refine SC.p ?_); refine aI ?_ ?_) <;> intro hc <;> try simp only [push_cast, seval] at hc | ((with_reducible refine SL.p ?_); first | refine ⟨_, rfl, ?_⟩ | refine ⟨_, _, _, rfl, ?_⟩ | (refine ⟨?_, rfl, ?_⟩; focus (simp; done))) | ((with_reducible first | apply i_ldn | apply i_ldnq); iterate 3 exact rfl) | ((try with_reducible refine d_reg ?_); simp only [go_sem]) | clear hK K)
        refine i_clq F' ?_
        repeat' ((fail_if_success with_reducible refine nph ?_); first | (with_reducible first | (refine d_seq ?_; intro K hK) | (refine hK _ _ ?_; clear hK K) | (refine SG.p ?_; try intro b) | refine r_rq (by first | decide | omega) ?_) | ((with_reducible refine SC.p ?_); refine aI ?_ ?_) <;> intro hc <;> try simp only [push_cast, seval] at hc | ((with_reducible refine SL.p ?_); first | refine ⟨_, rfl, ?_⟩ | refine ⟨_, _, _, rfl, ?_⟩ | (refine ⟨?_, rfl, ?_⟩; focus (simp; done))) | ((with_reducible first | apply i_ldn | apply i_ldnq); iterate 3 exact rfl) | ((try with_reducible refine d_reg ?_); simp only [go_sem]) | clear hK K)
        all_goals try contradiction
        rw [ei]
        exact i_bk (i + 1, _, _) rfl ⟨by dsimp only; omega, ⟨a2, a4⟩, ⟨b2, b4⟩⟩ (by dsimp only; omega)
      · repeat' ((fail_if_success with_reducible refine nph ?_); first | (with_reducible first | (refine d_seq ?_; intro K hK) | (refine hK _ _ ?_; clear hK K) | (refine SG.p ?_; try intro b) | refine r_rq (by first | decide | omega) ?_) | ((with_reducible refine SC.p ?_); refine aI ?_ ?_) <;> intro hc <;> try simp only [push_cast, seval] at hc | ((with_reducible refine SL.p ?_); first | refine ⟨_, rfl, ?_⟩ | refine ⟨_, _, _, rfl, ?_⟩ | (refine ⟨?_, rfl, ?_⟩; focus (simp; done))) | ((with_reducible first | apply i_ldn | apply i_ldnq); iterate 3 exact rfl) | ((try with_reducible refine d_reg ?_); simp only [go_sem]) | clear hK K)
        all_goals try (exfalso; omega)
        refine i_clp g44 ?_
        repeat' ((fail_if_success with_reducible refine nph ?_); first | (with_reducible first | (refine d_seq ?_; intro K hK) | (refine hK _ _ ?_; clear hK K) | (refine SG.p ?_; try intro b) | refine r_rq (by first | decide | omega) ?_) | ((with_reducible refine SC.p ?_); refine aI ?_ ?_) <;> intro hc <;> try simp only [push_cast, seval] at hc | ((with_reducible refine SL.p ?_); first | refine ⟨_, rfl, ?_⟩ | refine ⟨_, _, _, rfl, ?_⟩ | (refine ⟨?_, rfl, ?_⟩; focus (simp; done))) | ((with_reducible first | apply i_ldn | apply i_ldnq); iterate 3 exact rfl) | ((try with_reducible refine d_reg ?_); simp only [go_sem]) | clear hK K)
        (with_reducible first | apply i_ret0 | apply i_ret2 | apply i_ret3 | apply i_ret); exact rfl
        rfl
end Go.Sp
