/- Texts of a proof, one behind the other: V2 V3 V4 V5 V6 V7 V8 V9 V10 K26 V11 W1 V12 W5 Gyd0 W6. No condition. -/
import Derived.Test.YtaidhghnflnmnaaGreatM1cac5853
import Derived.Test.YtaidhghnflnmnaaGreatM5e8a56cb
/- The log's law: a record of few pages and transactions. -/
namespace Go.Sp
open Go Go.Proofs
set_option linter.unusedSimpArgs false
set_option linter.unusedVariables false
set_option maxRecDepth 10000
def cut2 (s : SlV) (k : Nat) : SlV := if k < s.2.1 then (slp s.1 0 (s.2.2 : Int) 2, k, s.2.2) else s
def fewr (r : api_Rec) : api_Rec := { r with Images := cut2 r.Images 2, Table := cut2 r.Table 3 }
def few (c : Rc) : Rc := { c with imgs := c.imgs.take 2, tbl := c.tbl.take 3 }
theorem cut2_rs {α : Type} {cel : α → List Value} {A : HP} {s : SlV} {l : List α} (h : Rs A s 2 (l.flatMap cel)) (hc : ∀ x, (cel x).length = 2) (hcap : s.2.1 ≤ s.2.2) (k : Nat) : Rs A (cut2 s k) 2 ((l.take k).flatMap cel) := by
  have hn := h.len2 hc
  unfold cut2
  split
  · obtain ⟨p, n, c⟩ := s
    rename_i hk
    dsimp only at hk hn hcap
    exact h.pre hc hn (by omega) hcap
  · rw [List.take_of_length_le (by omega)]
    exact h
theorem few_at {A : HP} {r : api_Rec} {is : List api_Image} {tb : List api_Active} (hi : Rs A r.Images 2 (is.flatMap cImg)) (ht : Rs A r.Table 2 (tb.flatMap cAct)) (ci : r.Images.2.1 ≤ r.Images.2.2) (ct : r.Table.2.1 ≤ r.Table.2.2) : RcAt A (fewr r) (few (Rc.of r is tb)) :=
  ⟨rfl, cut2_rs hi cImg_len ci 2, cut2_rs ht cAct_len ct 3, by show (is.take 2).length ≤ 255; rw [List.length_take]; omega, by show (tb.take 3).length ≤ 255; rw [List.length_take]; omega⟩
set_option maxHeartbeats 1000000 in
theorem g19 (r : api_Rec) (ci : r.Images.2.1 ≤ r.Images.2.2) (ct : r.Table.2.1 ≤ r.Table.2.2) : Fp e_api_Rec Tryz.prog 19 #[v_api_Rec r] [] (fewr r) := fun L => by
  obtain ⟨k1, k2, k3, k4, k5, k6, k7, k8, k9, ⟨ip, im, ic⟩, ⟨tp, tm, tc⟩, k12, k13⟩ := r
  dsimp only at ci ct
  unfold fewr cut2
  dsimp only
  refine c19_fn rfl rfl ?_
  by_cases h2 : 2 < im
  · rw [if_pos h2]
    by_cases h3 : 3 < tm
    · rw [if_pos h3]
      repeat' ((fail_if_success with_reducible refine nph ?_); first | (with_reducible first | (refine d_seq ?_; intro K hK) | (refine hK _ _ ?_; clear hK K) | refine d_blk ?_ | refine d_rt0 ?_ | refine d_sk0 ?_ | refine d_ex0 ?_ | (refine r_nwc ?_; intro b)) | (first | ((with_reducible refine d_cnd ?_); refine And.intro ?_ ?_) | with_reducible refine r_cnd ?_ ?_) <;> intro hc <;> try simp only [push_cast, Int.reduceEq, Int.reduceLT, Int.reduceLE, Int.reduceNe] at hc | with_reducible refine r_rq (by first | decide | omega) ?_ | ((with_reducible first | apply i_lds | apply i_ldsq | apply i_ld | apply i_ldq); exact rfl) | ((with_reducible first | apply i_ldn | apply i_ldnq); exact rfl; exact rfl; exact rfl) | (with_reducible first | refine r_ph0 ?_ | apply i_kp0) | ((with_reducible first | apply i_st | apply i_stl); (focus simp); exact rfl) | ((try with_reducible refine d_reg ?_); simp only [go_sem, Nat.reduceAdd, Nat.reduceEqDiff, Int.reduceToNat, Nat.reduceMul, Nat.reduceSub]) | clear hK K); all_goals try (exfalso; omega)
      (refine i_ldn (e := e_api_Rec) (x := ⟨k1, k2, k3, k4, k5, k6, k7, k8, k9, (slp ip 0 (ic : Int) 2, 2, ic), (slp tp 0 (tc : Int) 2, 3, tc), k12, k13⟩) rfl rfl rfl ?_)
      repeat' ((fail_if_success with_reducible refine nph ?_); first | (with_reducible first | (refine d_seq ?_; intro K hK) | (refine hK _ _ ?_; clear hK K) | refine d_blk ?_ | refine d_rt0 ?_ | refine d_sk0 ?_ | refine d_ex0 ?_ | (refine r_nwc ?_; intro b)) | (first | ((with_reducible refine d_cnd ?_); refine And.intro ?_ ?_) | with_reducible refine r_cnd ?_ ?_) <;> intro hc <;> try simp only [push_cast, Int.reduceEq, Int.reduceLT, Int.reduceLE, Int.reduceNe] at hc | with_reducible refine r_rq (by first | decide | omega) ?_ | ((with_reducible first | apply i_lds | apply i_ldsq | apply i_ld | apply i_ldq); exact rfl) | ((with_reducible first | apply i_ldn | apply i_ldnq); exact rfl; exact rfl; exact rfl) | (with_reducible first | refine r_ph0 ?_ | apply i_kp0) | ((with_reducible first | apply i_st | apply i_stl); (focus simp); exact rfl) | ((try with_reducible refine d_reg ?_); simp only [go_sem, Nat.reduceAdd, Nat.reduceEqDiff, Int.reduceToNat, Nat.reduceMul, Nat.reduceSub]) | clear hK K)
      (refine i_ldn (e := e_api_Rec) (x := ⟨k1, k2, k3, k4, k5, k6, k7, k8, k9, (slp ip 0 (ic : Int) 2, 2, ic), (slp tp 0 (tc : Int) 2, 3, tc), k12, k13⟩) rfl rfl rfl ?_)
      (with_reducible first | apply i_ret0 | apply i_ret2 | apply i_ret3 | apply i_ret); exact rfl
      rfl
    · rw [if_neg h3]
      repeat' ((fail_if_success with_reducible refine nph ?_); first | (with_reducible first | (refine d_seq ?_; intro K hK) | (refine hK _ _ ?_; clear hK K) | refine d_blk ?_ | refine d_rt0 ?_ | refine d_sk0 ?_ | refine d_ex0 ?_ | (refine r_nwc ?_; intro b)) | (first | ((with_reducible refine d_cnd ?_); refine And.intro ?_ ?_) | with_reducible refine r_cnd ?_ ?_) <;> intro hc <;> try simp only [push_cast, Int.reduceEq, Int.reduceLT, Int.reduceLE, Int.reduceNe] at hc | with_reducible refine r_rq (by first | decide | omega) ?_ | ((with_reducible first | apply i_lds | apply i_ldsq | apply i_ld | apply i_ldq); exact rfl) | ((with_reducible first | apply i_ldn | apply i_ldnq); exact rfl; exact rfl; exact rfl) | (with_reducible first | refine r_ph0 ?_ | apply i_kp0) | ((with_reducible first | apply i_st | apply i_stl); (focus simp); exact rfl) | ((try with_reducible refine d_reg ?_); simp only [go_sem, Nat.reduceAdd, Nat.reduceEqDiff, Int.reduceToNat, Nat.reduceMul, Nat.reduceSub]) | clear hK K); all_goals try (exfalso; omega)
      (refine i_ldn (e := e_api_Rec) (x := ⟨k1, k2, k3, k4, k5, k6, k7, k8, k9, (slp ip 0 (ic : Int) 2, 2, ic), (tp, tm, tc), k12, k13⟩) rfl rfl rfl ?_)
      repeat' ((fail_if_success with_reducible refine nph ?_); first | (with_reducible first | (refine d_seq ?_; intro K hK) | (refine hK _ _ ?_; clear hK K) | refine d_blk ?_ | refine d_rt0 ?_ | refine d_sk0 ?_ | refine d_ex0 ?_ | (refine r_nwc ?_; intro b)) | (first | ((with_reducible refine d_cnd ?_); refine And.intro ?_ ?_) | with_reducible refine r_cnd ?_ ?_) <;> intro hc <;> try simp only [push_cast, Int.reduceEq, Int.reduceLT, Int.reduceLE, Int.reduceNe] at hc | with_reducible refine r_rq (by first | decide | omega) ?_ | ((with_reducible first | apply i_lds | apply i_ldsq | apply i_ld | apply i_ldq); exact rfl) | ((with_reducible first | apply i_ldn | apply i_ldnq); exact rfl; exact rfl; exact rfl) | (with_reducible first | refine r_ph0 ?_ | apply i_kp0) | ((with_reducible first | apply i_st | apply i_stl); (focus simp); exact rfl) | ((try with_reducible refine d_reg ?_); simp only [go_sem, Nat.reduceAdd, Nat.reduceEqDiff, Int.reduceToNat, Nat.reduceMul, Nat.reduceSub]) | clear hK K)
      (refine i_ldn (e := e_api_Rec) (x := ⟨k1, k2, k3, k4, k5, k6, k7, k8, k9, (slp ip 0 (ic : Int) 2, 2, ic), (tp, tm, tc), k12, k13⟩) rfl rfl rfl ?_)
      (with_reducible first | apply i_ret0 | apply i_ret2 | apply i_ret3 | apply i_ret); exact rfl
      rfl
  · rw [if_neg h2]
    by_cases h3 : 3 < tm
    · rw [if_pos h3]
      repeat' ((fail_if_success with_reducible refine nph ?_); first | (with_reducible first | (refine d_seq ?_; intro K hK) | (refine hK _ _ ?_; clear hK K) | refine d_blk ?_ | refine d_rt0 ?_ | refine d_sk0 ?_ | refine d_ex0 ?_ | (refine r_nwc ?_; intro b)) | (first | ((with_reducible refine d_cnd ?_); refine And.intro ?_ ?_) | with_reducible refine r_cnd ?_ ?_) <;> intro hc <;> try simp only [push_cast, Int.reduceEq, Int.reduceLT, Int.reduceLE, Int.reduceNe] at hc | with_reducible refine r_rq (by first | decide | omega) ?_ | ((with_reducible first | apply i_lds | apply i_ldsq | apply i_ld | apply i_ldq); exact rfl) | ((with_reducible first | apply i_ldn | apply i_ldnq); exact rfl; exact rfl; exact rfl) | (with_reducible first | refine r_ph0 ?_ | apply i_kp0) | ((with_reducible first | apply i_st | apply i_stl); (focus simp); exact rfl) | ((try with_reducible refine d_reg ?_); simp only [go_sem, Nat.reduceAdd, Nat.reduceEqDiff, Int.reduceToNat, Nat.reduceMul, Nat.reduceSub]) | clear hK K); all_goals try (exfalso; omega)
      (refine i_ldn (e := e_api_Rec) (x := ⟨k1, k2, k3, k4, k5, k6, k7, k8, k9, (ip, im, ic), (slp tp 0 (tc : Int) 2, 3, tc), k12, k13⟩) rfl rfl rfl ?_)
      repeat' ((fail_if_success with_reducible refine nph ?_); first | (with_reducible first | (refine d_seq ?_; intro K hK) | (refine hK _ _ ?_; clear hK K) | refine d_blk ?_ | refine d_rt0 ?_ | refine d_sk0 ?_ | refine d_ex0 ?_ | (refine r_nwc ?_; intro b)) | (first | ((with_reducible refine d_cnd ?_); refine And.intro ?_ ?_) | with_reducible refine r_cnd ?_ ?_) <;> intro hc <;> try simp only [push_cast, Int.reduceEq, Int.reduceLT, Int.reduceLE, Int.reduceNe] at hc | with_reducible refine r_rq (by first | decide | omega) ?_ | ((with_reducible first | apply i_lds | apply i_ldsq | apply i_ld | apply i_ldq); exact rfl) | ((with_reducible first | apply i_ldn | apply i_ldnq); exact rfl; exact rfl; exact rfl) | (with_reducible first | refine r_ph0 ?_ | apply i_kp0) | ((with_reducible first | apply i_st | apply i_stl); (focus simp); exact rfl) | ((try with_reducible refine d_reg ?_); simp only [go_sem, Nat.reduceAdd, Nat.reduceEqDiff, Int.reduceToNat, Nat.reduceMul, Nat.reduceSub]) | clear hK K)
      (refine i_ldn (e := e_api_Rec) (x := ⟨k1, k2, k3, k4, k5, k6, k7, k8, k9, (ip, im, ic), (slp tp 0 (tc : Int) 2, 3, tc), k12, k13⟩) rfl rfl rfl ?_)
      (with_reducible first | apply i_ret0 | apply i_ret2 | apply i_ret3 | apply i_ret); exact rfl
      rfl
    · rw [if_neg h3]
      repeat' ((fail_if_success with_reducible refine nph ?_); first | (with_reducible first | (refine d_seq ?_; intro K hK) | (refine hK _ _ ?_; clear hK K) | refine d_blk ?_ | refine d_rt0 ?_ | refine d_sk0 ?_ | refine d_ex0 ?_ | (refine r_nwc ?_; intro b)) | (first | ((with_reducible refine d_cnd ?_); refine And.intro ?_ ?_) | with_reducible refine r_cnd ?_ ?_) <;> intro hc <;> try simp only [push_cast, Int.reduceEq, Int.reduceLT, Int.reduceLE, Int.reduceNe] at hc | with_reducible refine r_rq (by first | decide | omega) ?_ | ((with_reducible first | apply i_lds | apply i_ldsq | apply i_ld | apply i_ldq); exact rfl) | ((with_reducible first | apply i_ldn | apply i_ldnq); exact rfl; exact rfl; exact rfl) | (with_reducible first | refine r_ph0 ?_ | apply i_kp0) | ((with_reducible first | apply i_st | apply i_stl); (focus simp); exact rfl) | ((try with_reducible refine d_reg ?_); simp only [go_sem, Nat.reduceAdd, Nat.reduceEqDiff, Int.reduceToNat, Nat.reduceMul, Nat.reduceSub]) | clear hK K); all_goals try (exfalso; omega)
      (refine i_ldn (e := e_api_Rec) (x := ⟨k1, k2, k3, k4, k5, k6, k7, k8, k9, (ip, im, ic), (tp, tm, tc), k12, k13⟩) rfl rfl rfl ?_)
      repeat' ((fail_if_success with_reducible refine nph ?_); first | (with_reducible first | (refine d_seq ?_; intro K hK) | (refine hK _ _ ?_; clear hK K) | refine d_blk ?_ | refine d_rt0 ?_ | refine d_sk0 ?_ | refine d_ex0 ?_ | (refine r_nwc ?_; intro b)) | (first | ((with_reducible refine d_cnd ?_); refine And.intro ?_ ?_) | with_reducible refine r_cnd ?_ ?_) <;> intro hc <;> try simp only [push_cast, Int.reduceEq, Int.reduceLT, Int.reduceLE, Int.reduceNe] at hc | with_reducible refine r_rq (by first | decide | omega) ?_ | ((with_reducible first | apply i_lds | apply i_ldsq | apply i_ld | apply i_ldq); exact rfl) | ((with_reducible first | apply i_ldn | apply i_ldnq); exact rfl; exact rfl; exact rfl) | (with_reducible first | refine r_ph0 ?_ | apply i_kp0) | ((with_reducible first | apply i_st | apply i_stl); (focus simp); exact rfl) | ((try with_reducible refine d_reg ?_); simp only [go_sem, Nat.reduceAdd, Nat.reduceEqDiff, Int.reduceToNat, Nat.reduceMul, Nat.reduceSub]) | clear hK K)
      (refine i_ldn (e := e_api_Rec) (x := ⟨k1, k2, k3, k4, k5, k6, k7, k8, k9, (ip, im, ic), (tp, tm, tc), k12, k13⟩) rfl rfl rfl ?_)
      (with_reducible first | apply i_ret0 | apply i_ret2 | apply i_ret3 | apply i_ret); exact rfl
      rfl
end Go.Sp
/- The log on a disk that nothing lets go. -/
namespace Go.Sp
open Go Go.Proofs
set_option linter.unusedSimpArgs false
set_option linter.unusedVariables false
set_option maxRecDepth 10000
theorem calm_get {Z : Dk} {sb n : Nat} (h : Z.calm sb n) {i : Nat} (hi : i < n) {s : List UInt8} (hs : s.length ≤ 64) (j : Nat) : (Z.write (i : Int) s).2.get (j : Int) = if i = j then wh s else Z.get (j : Int) := by
  obtain ⟨_, _, w3, _, w5⟩ := h.write hi hs
  unfold Dk.get
  rw [w5, w3]
  by_cases e : i = j
  · subst e
    rw [if_pos rfl, if_pos rfl]
    rfl
  · rw [if_neg (by omega), if_neg e]
theorem sec_len (G : Lg) (i : Nat) : (G.sec i).length ≤ 64 := by
  have := part_le G.all i
  unfold Lg.sec
  simp only [List.length_append, lowb_len]
  omega
/-- A sector is written. -/
theorem lw_calm {Z : Dk} {sb n : Nat} (h : Z.calm sb n) {G : Lg} (hG : G.ok n) (i : Nat) : (Z.lw G i).1 = 0 ∧ (Z.lw G i).2.calm sb n ∧ ∀ j : Nat, (Z.lw G i).2.get (j : Int) = if i < G.sectors ∧ j = G.base + i then wh (G.sec i) else Z.get (j : Int) := by
  have hfit := hG.fit
  unfold Dk.lw
  by_cases h1 : G.sectors ≤ i
  · rw [if_pos h1]
    exact ⟨rfl, h, fun j => by rw [if_neg (by omega)]⟩
  · rw [if_neg h1]
    obtain ⟨w1, w2, _⟩ := h.write (i := G.base + i) (by omega) (sec_len G i)
    refine ⟨w1, w2, fun j => ?_⟩
    rw [calm_get h (by omega) (sec_len G i)]
    by_cases hj : G.base + i = j
    · rw [if_pos hj, if_pos ⟨by omega, hj.symm⟩]
    · rw [if_neg hj, if_neg (by omega)]
theorem lws_calm {sb n : Nat} {G : Lg} (hG : G.ok n) : ∀ (k i : Nat) {Z : Dk}, Z.calm sb n → G.sectors + 1 ≤ k + i → (lws G k i Z).1 = 0 ∧ (lws G k i Z).2.calm sb n ∧ ∀ j : Nat, (lws G k i Z).2.get (j : Int) = if G.base + i ≤ j ∧ 58 * (j - G.base) < G.all.length then wh (G.sec (j - G.base)) else Z.get (j : Int)
  | 0, i, Z, h, hk => by
    have := hG.le
    refine ⟨rfl, h, fun j => ?_⟩
    rw [if_neg (by omega)]
    rfl
  | k + 1, i, Z, h, hk => by
    have hle := hG.le
    by_cases hi : 58 * i < G.all.length
    · obtain ⟨a1, a2, a3⟩ := lw_calm h hG i
      obtain ⟨b1, b2, b3⟩ := lws_calm hG k (i + 1) a2 (by omega)
      have e : lws G (k + 1) i Z = lws G k (i + 1) (Z.lw G i).2 := by
        show (if 58 * i < G.all.length then _ else _) = _
        rw [if_pos hi, if_pos a1]
      rw [e]
      refine ⟨b1, b2, fun j => ?_⟩
      rw [b3, a3]
      by_cases hj : j = G.base + i
      · rw [if_neg (by omega), if_pos ⟨by omega, hj⟩, if_pos ⟨by omega, by rw [hj, Nat.add_sub_cancel_left]; exact hi⟩, hj, Nat.add_sub_cancel_left]
      · by_cases hm : G.base + (i + 1) ≤ j ∧ 58 * (j - G.base) < G.all.length
        · rw [if_pos hm, if_pos ⟨by omega, hm.2⟩]
        · rw [if_neg hm, if_neg (by omega), if_neg (by omega)]
    · have e : lws G (k + 1) i Z = (0, Z) := by
        show (if 58 * i < G.all.length then _ else _) = _
        rw [if_neg hi]
      rw [e]
      refine ⟨rfl, h, fun j => ?_⟩
      rw [if_neg (by omega)]
end Go.Sp
/- What is scanned of a log's sectors. -/
namespace Go.Sp
open Go Go.Proofs
set_option linter.unusedSimpArgs false
set_option linter.unusedVariables false
set_option maxRecDepth 10000
def secb (r : Nat) (p : List UInt8) : List UInt8 := lowb (r : Int) 4 ++ lowb (p.length : Int) 2 ++ p
theorem sec_b (G : Lg) (i : Nat) : G.sec i = secb G.run (part G.all i) := rfl
def at4 (v : List UInt8) : Nat := be (v.take 4)
def n2 (v : List UInt8) : Nat := be ((v.drop 4).take 2)
theorem secb_rd {r : Nat} {p : List UInt8} (hr : r < 4294967296) (hp : p.length ≤ 58) : at4 (wh (secb r p)) = r ∧ n2 (wh (secb r p)) = p.length ∧ ((wh (secb r p)).drop 6).take p.length = p := by
  have l4 := lowb_len (r : Int) 4
  have l2 := lowb_len (p.length : Int) 2
  have e : wh (secb r p) = lowb (r : Int) 4 ++ (lowb (p.length : Int) 2 ++ (p ++ List.replicate (64 - (secb r p).length) 0)) := by
    unfold wh secb
    simp
  have b4 : be (lowb (r : Int) 4) = r := nat_eq (be_fits (by omega) (by rw [show ((256 ^ 4 : Nat) : Int) = 4294967296 by decide]; omega))
  have b2 : be (lowb (p.length : Int) 2) = p.length := nat_eq (be_fits (by omega) (by rw [show ((256 ^ 2 : Nat) : Int) = 65536 by decide]; omega))
  generalize List.replicate (64 - (secb r p).length) (0 : UInt8) = Y at e
  unfold at4 n2
  rw [e]
  refine ⟨by rw [List.take_left' l4, b4], by rw [List.drop_left' l4, List.take_left' l2, b2], ?_⟩
  have e2 : (lowb (r : Int) 4 ++ (lowb (p.length : Int) 2 ++ (p ++ Y))).drop 6 = p ++ Y := by
    rw [← List.append_assoc]
    exact List.drop_left' (by rw [List.length_append, l4, l2])
  rw [e2]
  exact List.take_left' rfl
def prv (ρ : Nat → Nat) (i : Nat) : Nat := if i = 0 then 1 else ρ (i - 1)
/-- What the sectors tell: their bytes go on, each in a run not ahead of the last, and behind them they stop. -/
structure Tells (Z : Dk) (base S : Nat) (all : List UInt8) (ρ : Nat → Nat) : Prop where
  secs : ∀ m, 58 * m < all.length → m < S → Z.get ((base + m : Nat) : Int) = wh (secb (ρ m) (part all m))
  mono : ∀ m, prv ρ m ≤ ρ m
  lt : ∀ m, ρ m < 4294967296
  stop : ∀ m, m < S → 58 * m = all.length → at4 (Z.get ((base + m : Nat) : Int)) < prv ρ m ∨ n2 (Z.get ((base + m : Nat) : Int)) = 0
  le : all.length ≤ 58 * S
theorem part_drop (all : List UInt8) (i : Nat) : all.drop (58 * i) = part all i ++ all.drop (58 * (i + 1)) := by
  unfold part
  rw [show 58 * (i + 1) = 58 * i + 58 by omega, ← List.drop_drop, List.take_append_drop]
theorem part_len (all : List UInt8) (i : Nat) : (part all i).length = min 58 (all.length - 58 * i) := by
  unfold part
  rw [List.length_take, List.length_drop]
theorem scn_is {Z : Dk} {base S top : Nat} {all : List UInt8} {ρ : Nat → Nat} (h : Tells Z base S all ρ) (ht : ∀ m, 58 * m < all.length → ρ m ≤ top) : ∀ k i, S = i + k → 58 * i ≤ all.length → Z.scn base top k i (prv ρ i) = all.drop (58 * i)
  | 0, i, hS, hi => by
    have := h.le
    rw [List.drop_eq_nil_of_le (by omega)]
    rfl
  | k + 1, i, hS, hi => by
    have hp := part_len all i
    by_cases hlt : 58 * i < all.length
    · obtain ⟨a1, a2, a3⟩ := secb_rd (r := ρ i) (p := part all i) (h.lt i) (part_le all i)
      have e := h.secs i hlt (by omega)
      unfold at4 at a1
      unfold n2 at a2
      have hm := h.mono i
      have htt := ht i hlt
      unfold Dk.scn
      rw [e, a1, a2, a3, if_neg (by have := part_le all i; omega), part_drop]
      by_cases h58 : (part all i).length < 58
      · rw [if_pos h58, List.drop_eq_nil_of_le (by omega)]
      · rw [if_neg h58]
        have ih := scn_is h ht k (i + 1) (by omega) (by omega)
        rw [show prv ρ (i + 1) = ρ i from rfl] at ih
        rw [ih]
    · have he : 58 * i = all.length := by omega
      rw [List.drop_eq_nil_of_le (by omega)]
      have hs := h.stop i (by omega) he
      unfold at4 n2 at hs
      unfold Dk.scn
      rcases hs with hs | hs
      · rw [if_pos (.inl hs)]
      · rw [hs]
        split
        · rfl
        · rfl
end Go.Sp
/- Frames in a row are whole. -/
namespace Go.Sp
open Go Go.Proofs
set_option linter.unusedSimpArgs false
set_option linter.unusedVariables false
set_option maxRecDepth 10000
def Frs (fs : List (List UInt8)) : Prop := ∀ f ∈ fs, ∃ c : Rc, c.short ∧ c.frame = (f, 0)
theorem whl_frs : ∀ (fs : List (List UInt8)) (s : List UInt8) (Y : List UInt8) (k a : Nat), Frs fs → a ≤ s.length → s.drop a = fs.flatten ++ Y → (opn0 Y).2.2 ≠ 0 → fs.length < k → whl s k a = a + fs.flatten.length
  | [], s, Y, k + 1, a, _, ha, hd, hY, _ => by
    unfold whl
    rw [opn_nat ha, hd]
    simp only [List.flatten_nil, List.nil_append, List.length_nil, Nat.add_zero]
    rw [if_neg hY]
  | f :: fs, s, Y, k + 1, a, hf, ha, hd, hY, hk => by
    obtain ⟨c, hs, hc⟩ := hf f (by simp)
    have e : s.drop a = f ++ (fs.flatten ++ Y) := by rw [hd]; simp
    have hl := congrArg List.length e
    rw [List.length_drop, List.length_append] at hl
    unfold whl
    rw [opn_nat ha, e, opn0_frame hs hc]
    dsimp only
    rw [if_pos rfl, Int.toNat_natCast]
    have e2 : s.drop (a + f.length) = fs.flatten ++ Y := by
      rw [← List.drop_drop, e]
      exact List.drop_left' rfl
    rw [whl_frs fs s Y k (a + f.length) (fun g hg => hf g (by simp [hg])) (by omega) e2 hY (by simp only [List.length_cons] at hk; omega)]
    simp only [List.flatten_cons, List.length_append]
    omega
theorem opn0_nil : (opn0 []).2.2 ≠ 0 := by decide
theorem frs_len : ∀ {fs : List (List UInt8)}, Frs fs → fs.length ≤ fs.flatten.length
  | [], _ => by simp
  | f :: fs, h => by
    obtain ⟨c, hs, hc⟩ := h f (by simp)
    have h1 := frame_len hs hc
    have h2 := frs_len (fs := fs) fun g hg => h g (by simp [hg])
    simp only [List.flatten_cons, List.length_append, List.length_cons]
    omega
theorem whole_frs {fs : List (List UInt8)} (h : Frs fs) : whole fs.flatten = fs.flatten.length := by
  have := whl_frs fs fs.flatten [] (fs.flatten.length + 1) 0 h (by omega) (by simp) opn0_nil (by have := frs_len h; omega)
  simpa [whole] using this
/-- Records with their frames, and where they stand. -/
def rl : List (List UInt8 × Rc) → Nat → List (Nat × Rc)
  | [], _ => []
  | x :: ps, a => (a + 1, x.2.clean) :: rl ps (a + x.1.length)
def Prs (ps : List (List UInt8 × Rc)) : Prop := ∀ x ∈ ps, x.2.short ∧ x.2.frame = (x.1, 0)
theorem Prs.frs {ps : List (List UInt8 × Rc)} (h : Prs ps) : Frs (ps.map (·.1)) := fun f hf => by
  obtain ⟨x, hx, rfl⟩ := List.mem_map.1 hf
  exact ⟨x.2, h x hx⟩
theorem rcs_prs : ∀ (ps : List (List UInt8 × Rc)) (s : List UInt8) (k a : Nat), Prs ps → a ≤ s.length → s.drop a = (ps.map (·.1)).flatten → ps.length < k → rcs s k a = rl ps a
  | [], s, k + 1, a, _, ha, hd, _ => by
    have hl := congrArg List.length hd
    rw [List.length_drop] at hl
    simp only [List.map_nil, List.flatten_nil, List.length_nil] at hl
    unfold rcs
    rw [if_neg (by omega)]
    rfl
  | x :: ps, s, k + 1, a, hp, ha, hd, hk => by
    obtain ⟨hs, hc⟩ := hp x (by simp)
    have h7 := frame_len hs hc
    have e : s.drop a = x.1 ++ (ps.map (·.1)).flatten := by rw [hd]; simp
    have hl := congrArg List.length e
    rw [List.length_drop, List.length_append] at hl
    unfold rcs
    rw [if_pos (by omega), opn_nat ha, e, opn0_frame hs hc]
    dsimp only
    rw [if_pos rfl, Int.toNat_natCast]
    have e2 : s.drop (a + x.1.length) = (ps.map (·.1)).flatten := by
      rw [← List.drop_drop, e]
      exact List.drop_left' rfl
    rw [rcs_prs ps s k (a + x.1.length) (fun y hy => hp y (by simp [hy])) (by omega) e2 (by simp only [List.length_cons] at hk; omega)]
    rfl
theorem recs_prs {ps : List (List UInt8 × Rc)} (h : Prs ps) : recs (ps.map (·.1)).flatten = rl ps 0 := by
  refine rcs_prs ps _ _ 0 h (by omega) (by simp) ?_
  have := frs_len h.frs
  rw [List.length_map] at this
  omega
end Go.Sp
/- The log on a disk that nothing lets go: mend, Flush. -/
namespace Go.Sp
open Go Go.Proofs
set_option linter.unusedSimpArgs false
set_option linter.unusedVariables false
set_option maxRecDepth 10000
theorem lmend_calm {Z : Dk} {sb n : Nat} (h : Z.calm sb n) {G : Lg} (hG : G.ok n) : (Z.lmend G).1 = 0 ∧ (Z.lmend G).2.2 = G ∧ (Z.lmend G).2.1.calm sb n ∧ (Z.lmend G).2.1.es = [] ∧ ∀ j : Nat, j < n → (Z.lmend G).2.1.get (j : Int) = if G.durable / 58 < G.sectors ∧ j = G.base + G.durable / 58 then wh (G.sec (G.durable / 58)) else Z.get (j : Int) := by
  have hn : 0 < n := by have := hG.fit; have := hG.s1; omega
  obtain ⟨a1, a2, a3⟩ := lw_calm h hG (G.durable / 58)
  obtain ⟨b1, b2, b3, _, b5⟩ := a2.sync hn
  unfold Dk.lmend
  rw [if_pos a1]
  dsimp only
  refine ⟨b1, by rw [b1]; exact down_0 G, b2, b3, fun j hj => ?_⟩
  rw [b5 j hj, a3]
theorem lflush_calm {Z : Dk} {sb n : Nat} (h : Z.calm sb n) {G : Lg} (hG : G.ok n) (hd : G.dead = false) : (Z.lflush G).1 = 0 ∧ (Z.lflush G).2.2 = { G with durable := G.all.length } ∧ (Z.lflush G).2.1.calm sb n ∧ (G.durable < G.all.length → (Z.lflush G).2.1.es = []) ∧
    (G.durable = G.all.length → (Z.lflush G).2.1 = Z) ∧ ∀ j : Nat, j < n → (Z.lflush G).2.1.get (j : Int) = if G.durable < G.all.length ∧ G.base + G.durable / 58 ≤ j ∧ 58 * (j - G.base) < G.all.length then wh (G.sec (j - G.base)) else Z.get (j : Int) := by
  have hn : 0 < n := by have := hG.fit; have := hG.s1; omega
  have hdu := hG.du
  unfold Dk.lflush
  rw [if_neg (by rw [hd]; decide)]
  by_cases hq : G.durable = G.all.length
  · rw [if_pos hq]
    refine ⟨rfl, ?_, h, fun hlt => by omega, fun _ => rfl, fun j hj => by rw [if_neg (by omega)]⟩
    dsimp only
    rw [← hq]
  · rw [if_neg hq]
    obtain ⟨a1, a2, a3⟩ := lws_calm hG (G.sectors + 1) (G.durable / 58) h (by omega)
    obtain ⟨b1, b2, b3, _, b5⟩ := a2.sync hn
    dsimp only
    rw [if_pos a1, if_pos b1]
    refine ⟨rfl, rfl, b2, fun _ => b3, fun e => absurd e hq, fun j hj => ?_⟩
    dsimp only
    rw [b5 j hj, a3]
    by_cases hj2 : G.base + G.durable / 58 ≤ j ∧ 58 * (j - G.base) < G.all.length
    · rw [if_pos hj2, if_pos ⟨by omega, hj2⟩]
    · rw [if_neg hj2, if_neg (fun hx => hj2 hx.2)]
end Go.Sp
/- The log on a disk that nothing lets go: what its sectors tell stays so. -/
namespace Go.Sp
open Go Go.Proofs
set_option linter.unusedSimpArgs false
set_option linter.unusedVariables false
set_option maxRecDepth 10000
structure Wi (Z : Dk) (sb n : Nat) (G : Lg) (ρ : Nat → Nat) : Prop where
  calm : Z.calm sb n
  ok : G.ok n
  dead : G.dead = false
  tells : Tells Z G.base G.sectors (G.all.take G.durable) ρ
  top : ∀ m, 58 * m < G.durable → ρ m ≤ G.run
  fresh : ∀ m, m < G.sectors → G.durable < 58 * m → at4 (Z.get ((G.base + m : Nat) : Int)) < G.run
  edge : ∀ m, m < G.sectors → G.durable = 58 * m → at4 (Z.get ((G.base + m : Nat) : Int)) < G.run ∨ (at4 (Z.get ((G.base + m : Nat) : Int)) = G.run ∧ n2 (Z.get ((G.base + m : Nat) : Int)) = 0)
theorem Wi.append {Z : Dk} {sb n : Nat} {G : Lg} {ρ : Nat → Nat} (h : Wi Z sb n G ρ) {s : List UInt8} (hs : G.all.length + s.length ≤ 58 * G.sectors) : Wi Z sb n { G with all := G.all ++ s } ρ := by
  obtain ⟨a1, a2, a3, a4, a5, a6, a7⟩ := h
  have hdu := a2.du
  have e : (G.all ++ s).take G.durable = G.all.take G.durable := List.take_append_of_le_length hdu
  refine ⟨a1, ⟨a2.s1, a2.fit, a2.n1, a2.r1, a2.r2, by dsimp only; rw [List.length_append]; omega, by dsimp only; rw [List.length_append]; exact hs⟩, a3, ?_, a5, a6, a7⟩
  dsimp only
  rw [e]
  exact a4
theorem part_take {all : List UInt8} {d m : Nat} (h : 58 * m + 58 ≤ d) : part (all.take d) m = part all m := by
  unfold part
  rw [List.drop_take, List.take_take, show min 58 (d - 58 * m) = 58 by omega]
theorem Wi.flush {Z : Dk} {sb n : Nat} {G : Lg} {ρ : Nat → Nat} (h : Wi Z sb n G ρ) : ∃ ρ', Wi (Z.lflush G).2.1 sb n { G with durable := G.all.length } ρ' := by
  obtain ⟨a1, a2, a3, a4, a5, a6, a7⟩ := h
  have hdu := a2.du
  have hle := a2.le
  have hfit := a2.fit
  obtain ⟨l1, l2, l3, l4, l5, l6⟩ := lflush_calm a1 a2 a3
  by_cases hq : G.durable = G.all.length
  · refine ⟨ρ, ?_⟩
    rw [l5 hq, ← hq]
    exact ⟨a1, a2, a3, a4, a5, a6, a7⟩
  · have hget : ∀ m, m < G.sectors → (Z.lflush G).2.1.get ((G.base + m : Nat) : Int) = if G.durable / 58 ≤ m ∧ 58 * m < G.all.length then wh (G.sec m) else Z.get ((G.base + m : Nat) : Int) := fun m hm => by
      rw [l6 (G.base + m) (by omega)]
      have e : G.base + m - G.base = m := by omega
      rw [e]
      by_cases hc : G.durable / 58 ≤ m ∧ 58 * m < G.all.length
      · rw [if_pos hc, if_pos ⟨by omega, by omega, hc.2⟩]
      · rw [if_neg hc, if_neg (by omega)]
    refine ⟨fun m => if m < G.durable / 58 then ρ m else G.run, l3, ⟨a2.s1, a2.fit, a2.n1, a2.r1, a2.r2, Nat.le_refl _, hle⟩, a3, ?_, ?_, ?_, ?_⟩
    · dsimp only
      rw [List.take_length]
      refine ⟨fun m m1 m2 => ?_, fun m => ?_, fun m => ?_, fun m m1 m2 => ?_, hle⟩
      · rw [hget m m2]
        by_cases hm : m < G.durable / 58
        · rw [if_neg (by omega), if_pos hm, a4.secs m (by rw [List.length_take]; omega) m2, part_take (by omega)]
        · rw [if_pos ⟨by omega, m1⟩, if_neg hm]
          rfl
      · have hm0 := a4.mono m
        have hr := a2.r1
        unfold prv at hm0 ⊢
        by_cases m0 : m = 0
        · rw [if_pos m0] at hm0 ⊢
          split <;> omega
        · rw [if_neg m0] at hm0 ⊢
          dsimp only
          by_cases h1 : m < G.durable / 58
          · rw [if_pos (by omega), if_pos h1]; exact hm0
          · rw [if_neg h1]
            split
            · exact a5 (m - 1) (by omega)
            · exact Nat.le_refl _
      · split
        · exact a4.lt m
        · exact a2.r2
      · left
        rw [hget m m1, if_neg (by omega)]
        have hf := a6 m m1 (by omega)
        have hm0 : ¬ m = 0 := by omega
        unfold prv
        rw [if_neg hm0]
        dsimp only
        rw [if_neg (by omega)]
        exact hf
    · intro m hm
      dsimp only
      split
      · exact a5 m (by omega)
      · exact Nat.le_refl _
    · intro m m1 m2
      dsimp only at m1 m2 ⊢
      rw [hget m m1, if_neg (by omega)]
      exact a6 m m1 (by omega)
    · intro m m1 m2
      dsimp only at m1 m2 ⊢
      left
      rw [hget m m1, if_neg (by omega)]
      exact a6 m m1 (by omega)
end Go.Sp
/- The log on a disk that nothing lets go: it is mended, and found again. -/
namespace Go.Sp
open Go Go.Proofs
set_option linter.unusedSimpArgs false
set_option linter.unusedVariables false
set_option maxRecDepth 10000
theorem scan_wi {Z : Dk} {sb n : Nat} {G : Lg} {ρ : Nat → Nat} (h : Wi Z sb n G ρ) {top : Nat} (ht : G.run ≤ top) : Z.scn G.base top G.sectors 0 1 = G.all.take G.durable := by
  have e := scn_is h.tells (top := top) (fun m hm => Nat.le_trans (h.top m (by rw [List.length_take] at hm; omega)) ht) G.sectors 0 (by omega) (by omega)
  simpa [prv] using e
/-- What is mended: the sector at the log's end is of this run, and what stands behind it is of an older one. -/
theorem mend_wi {Z : Dk} {sb n : Nat} {G : Lg} {ρ : Nat → Nat} (hc : Z.calm sb n) (hG : G.ok n) (hd : G.dead = false) (hdur : G.durable = G.all.length)
    (secs : ∀ m, 58 * m < G.durable → m < G.sectors → m < G.durable / 58 → Z.get ((G.base + m : Nat) : Int) = wh (secb (ρ m) (part G.all m)))
    (mono : ∀ m, prv ρ m ≤ ρ m) (lt : ∀ m, ρ m < 4294967296) (top : ∀ m, m < G.durable / 58 → ρ m ≤ G.run)
    (fresh : ∀ m, m < G.sectors → G.durable / 58 < m → at4 (Z.get ((G.base + m : Nat) : Int)) < G.run) :
    ∃ ρ', Wi (Z.lmend G).2.1 sb n G ρ' ∧ (Z.lmend G).1 = 0 ∧ (Z.lmend G).2.2 = G ∧ (Z.lmend G).2.1.es = [] := by
  obtain ⟨m1, m2, m3, m4, m5⟩ := lmend_calm hc hG
  have hfit := hG.fit
  have hle := hG.le
  have hget : ∀ m, m < G.sectors → (Z.lmend G).2.1.get ((G.base + m : Nat) : Int) = if m = G.durable / 58 then wh (G.sec m) else Z.get ((G.base + m : Nat) : Int) := fun m hm => by
    rw [m5 (G.base + m) (by omega)]
    by_cases e : m = G.durable / 58
    · rw [if_pos e, if_pos ⟨by omega, by omega⟩, e]
    · rw [if_neg e, if_neg (by omega)]
  have hr2 := hG.r2
  refine ⟨fun m => if m < G.durable / 58 then ρ m else G.run, ⟨m3, hG, hd, ?_, ?_, ?_, ?_⟩, m1, m2, m4⟩
  · rw [hdur, List.take_length, ← hdur]
    refine ⟨fun m a b => ?_, fun m => ?_, fun m => ?_, fun m a b => ?_, by omega⟩
    · rw [hget m b]
      by_cases hm : m < G.durable / 58
      · rw [if_neg (by omega), if_pos hm]
        exact secs m (by omega) b hm
      · have : m = G.durable / 58 := by omega
        rw [if_pos this, if_neg hm]
        rfl
    · have hm0 := mono m
      have hr := hG.r1
      unfold prv at hm0 ⊢
      by_cases m0 : m = 0
      · rw [if_pos m0] at hm0 ⊢
        split <;> omega
      · rw [if_neg m0] at hm0 ⊢
        dsimp only
        by_cases h1 : m < G.durable / 58
        · rw [if_pos (by omega), if_pos h1]; exact hm0
        · rw [if_neg h1]
          split
          · exact top (m - 1) (by omega)
          · exact Nat.le_refl _
    · split
      · exact lt m
      · exact hG.r2
    · right
      rw [hget m a, if_pos (by omega)]
      obtain ⟨_, b2, _⟩ := secb_rd (r := G.run) (p := part G.all m) hr2 (part_le G.all m)
      rw [sec_b, b2, part_len]
      omega
  · intro m hm
    split
    · exact top m (by omega)
    · exact Nat.le_refl _
  · intro m a b
    rw [hget m a, if_neg (by omega)]
    exact fresh m a (by omega)
  · intro m a b
    right
    rw [hget m a, if_pos (by omega)]
    obtain ⟨b1, b2, _⟩ := secb_rd (r := G.run) (p := part G.all m) hr2 (part_le G.all m)
    rw [sec_b]
    exact ⟨b1, by rw [b2, part_len]; omega⟩
end Go.Sp
/- The log on a disk that nothing lets go: Open, Cut, a loss of power. -/
namespace Go.Sp
open Go Go.Proofs
set_option linter.unusedSimpArgs false
set_option linter.unusedVariables false
set_option maxRecDepth 10000
/-- What is read stays so. -/
theorem Wi.mv {Z Y : Dk} {sb n : Nat} {G : Lg} {ρ : Nat → Nat} (h : Wi Z sb n G ρ) (hc : Y.calm sb n) (hg : ∀ j : Nat, j < n → Y.get (j : Int) = Z.get (j : Int)) : Wi Y sb n G ρ := by
  have hfit := h.ok.fit
  refine ⟨hc, h.ok, h.dead, ⟨fun m a b => ?_, h.tells.mono, h.tells.lt, fun m a b => ?_, h.tells.le⟩, h.top, fun m a b => ?_, fun m a b => ?_⟩
  · rw [hg _ (by omega)]; exact h.tells.secs m a b
  · rw [hg _ (by omega)]; exact h.tells.stop m a b
  · rw [hg _ (by omega)]; exact h.fresh m a b
  · rw [hg _ (by omega)]; exact h.edge m a b
theorem off_get {Z : Dk} {sb n : Nat} (h : Z.calm sb n) (he : Z.es = []) (keep : Int) (j : Nat) : (Z.off keep).on.get (j : Int) = Z.get (j : Int) := by
  obtain ⟨_, _, _, _, h5⟩ := h.off keep
  rcases h5 j with h6 | ⟨v, h6, _⟩
  · rw [h6]
    unfold Dk.get
    rw [he]
    simp [gk]
  · rw [he] at h6
    cases h6
theorem Wi.off {Z : Dk} {sb n : Nat} {G : Lg} {ρ : Nat → Nat} (h : Wi Z sb n G ρ) (he : Z.es = []) (keep : Int) : Wi (Z.off keep).on sb n G ρ :=
  h.mv (h.calm.off keep).1 fun j _ => off_get h.calm he keep j
/-- On a disk of which the sectors have nothing an empty log is found. -/
theorem found_zero {Z : Dk} {q base S run : Nat} (h : at4 (Z.get ((base : Nat) : Int)) = 0) (hS : 1 ≤ S) : Z.found q base S run = ⟨q, base, S, run, [], 0, false⟩ := by
  have e : Z.scn base run S 0 1 = [] := by
    obtain ⟨k, rfl⟩ : ∃ k, S = k + 1 := ⟨S - 1, by omega⟩
    unfold Dk.scn
    unfold at4 at h
    rw [Nat.add_zero, h, if_pos (by omega)]
  unfold Dk.found
  rw [e]
  rfl
theorem mend_zero {Z : Dk} {sb n q base S run : Nat} (hc : Z.calm sb n) (hz : ∀ m, m < S → at4 (Z.get ((base + m : Nat) : Int)) = 0) (hS : 1 ≤ S) (hf : base + S ≤ n) (hn : n ≤ 8192) (r1 : 1 ≤ run) (r2 : run < 4294967296) :
    ∃ ρ', Wi (Z.lmend ⟨q, base, S, run, [], 0, false⟩).2.1 sb n ⟨q, base, S, run, [], 0, false⟩ ρ' ∧ (Z.lmend ⟨q, base, S, run, [], 0, false⟩).1 = 0 ∧ (Z.lmend ⟨q, base, S, run, [], 0, false⟩).2.2 = ⟨q, base, S, run, [], 0, false⟩ ∧ (Z.lmend ⟨q, base, S, run, [], 0, false⟩).2.1.es = [] := by
  refine mend_wi (ρ := fun _ => 1) hc ⟨hS, hf, hn, r1, r2, Nat.le_refl _, by simp⟩ rfl rfl (fun m a => ?_) (fun m => ?_) (fun m => by decide) (fun m _ => r1) (fun m a _ => ?_)
  · simp at a
  · unfold prv; split <;> exact Nat.le_refl _
  · show at4 (Z.get ((base + m : Nat) : Int)) < run
    rw [hz m a]
    exact r1
/-- A log that was left is found as far as it lasts, in a greater run. -/
theorem found_wi {Z : Dk} {sb n : Nat} {G : Lg} {ρ : Nat → Nat} (h : Wi Z sb n G ρ) {q run : Nat} (hr : G.run ≤ run) (hw : whole (G.all.take G.durable) = G.durable) :
    Z.found q G.base G.sectors run = ⟨q, G.base, G.sectors, run, G.all.take G.durable, G.durable, false⟩ := by
  unfold Dk.found
  rw [scan_wi h hr, hw, List.take_take, Nat.min_self]
theorem mend_again {Z : Dk} {sb n : Nat} {G : Lg} {ρ : Nat → Nat} (h : Wi Z sb n G ρ) {q run : Nat} (hr : G.run < run) (r2 : run < 4294967296) :
    ∃ ρ', Wi (Z.lmend ⟨q, G.base, G.sectors, run, G.all.take G.durable, G.durable, false⟩).2.1 sb n ⟨q, G.base, G.sectors, run, G.all.take G.durable, G.durable, false⟩ ρ' ∧ (Z.lmend ⟨q, G.base, G.sectors, run, G.all.take G.durable, G.durable, false⟩).1 = 0 ∧
      (Z.lmend ⟨q, G.base, G.sectors, run, G.all.take G.durable, G.durable, false⟩).2.2 = ⟨q, G.base, G.sectors, run, G.all.take G.durable, G.durable, false⟩ ∧ (Z.lmend ⟨q, G.base, G.sectors, run, G.all.take G.durable, G.durable, false⟩).2.1.es = [] := by
  have hok := h.ok
  have hdu := hok.du
  have hle := hok.le
  have hl : (G.all.take G.durable).length = G.durable := by rw [List.length_take]; omega
  refine mend_wi (ρ := ρ) h.calm ⟨hok.s1, hok.fit, hok.n1, Nat.le_trans hok.r1 (Nat.le_of_lt hr), r2, by dsimp only; rw [hl]; omega, by dsimp only; rw [hl]; omega⟩ rfl hl.symm (fun m a b c => ?_) h.tells.mono h.tells.lt (fun m a => ?_) (fun m a b => ?_)
  · dsimp only at a b c ⊢
    exact h.tells.secs m (by rw [hl]; exact a) b
  · dsimp only at a ⊢
    exact Nat.le_trans (h.top m (by omega)) (Nat.le_of_lt hr)
  · dsimp only at a b ⊢
    exact Nat.lt_trans (h.fresh m a (by omega)) hr
/-- A log is cut: it is as it is told. -/
theorem cut_wi {Z : Dk} {sb n : Nat} {G : Lg} {ρ : Nat → Nat} (h : Wi Z sb n G ρ) {a run : Nat} (ha : a ≤ G.all.length) (hr : G.run < run) (r2 : run < 4294967296) (hb : whole (G.all.take a) = a) :
    ∃ Y ρ', Z.lcut G ((a : Int) + 1) (run : Int) = (0, Y, { G with all := G.all.take a, run := run, durable := a }) ∧ Wi Y sb n { G with all := G.all.take a, run := run, durable := a } ρ' ∧ Y.es = [] := by
  have hok := h.ok
  have hdu := hok.du
  have hle := hok.le
  have hr1 := hok.r1
  have hl : (G.all.take a).length = a := by rw [List.length_take]; omega
  have ebd : G.bound ((a : Int) + 1) = true := by
    unfold Lg.bound
    rw [show ((a : Int) + 1 - 1).toNat = a by omega, hb]
    simp
    omega
  have ecut : G.cutl ((a : Int) + 1) (run : Int) = { G with all := G.all.take a, run := run, durable := min G.durable a } := by
    unfold Lg.cutl
    rw [show ((a : Int) + 1 - 1).toNat = a by omega, hl, Int.toNat_natCast]
  have e0 : Z.lcut G ((a : Int) + 1) (run : Int) = Z.lcut1 { G with all := G.all.take a, run := run, durable := min G.durable a } := by
    unfold Dk.lcut
    rw [if_neg (by rw [h.dead]; decide), if_neg (by omega), if_neg (by omega), if_neg (by rw [ebd]; decide), ecut]
  rw [e0]
  by_cases hda : G.durable < a
  · have e1 : min G.durable a = G.durable := by omega
    rw [e1]
    have W1 : Wi Z sb n { G with all := G.all.take a, run := run, durable := G.durable } ρ := by
      have et : (G.all.take a).take G.durable = G.all.take G.durable := by rw [List.take_take, show min G.durable a = G.durable by omega]
      refine ⟨h.calm, ⟨hok.s1, hok.fit, hok.n1, by dsimp only; omega, r2, by dsimp only; rw [hl]; omega, by dsimp only; rw [hl]; omega⟩, h.dead, ?_, fun m b => ?_, fun m b c => ?_, fun m b c => ?_⟩
      · dsimp only
        rw [et]
        exact h.tells
      · dsimp only at b ⊢
        exact Nat.le_trans (h.top m b) (Nat.le_of_lt hr)
      · dsimp only at b c ⊢
        exact Nat.lt_trans (h.fresh m b c) hr
      · dsimp only at b c ⊢
        left
        rcases h.edge m b c with x | x
        · omega
        · omega
    obtain ⟨l1, l2, l3, l4, _, _⟩ := lflush_calm h.calm W1.ok h.dead
    obtain ⟨ρ1, W2⟩ := W1.flush
    have hlt : G.durable < (G.all.take a).length := by rw [hl]; exact hda
    generalize hT : Z.lflush { G with all := G.all.take a, run := run, durable := G.durable } = T at *
    obtain ⟨f1, f2, f3⟩ := T
    dsimp only at l1 l2 l3 W2
    subst l1
    subst l2
    have M := mend_wi (ρ := ρ1) W2.calm W2.ok W2.dead rfl (fun m b c d => ?_) W2.tells.mono W2.tells.lt (fun m b => ?_) (fun m b c => ?_)
    · obtain ⟨ρ2, M1, M2, M3, M4⟩ := M
      refine ⟨_, ρ2, ?_, ?_, M4⟩
      · unfold Dk.lcut1
        dsimp only
        rw [if_pos hlt, hT, if_pos rfl]
        dsimp only
        rw [hl] at M2 M3 ⊢
        exact Prod.ext M2 (Prod.ext rfl M3)
      · rw [hl] at M1 ⊢
        exact M1
    · have := W2.tells.secs m (by dsimp only at b ⊢; rw [List.take_length]; exact b) c
      dsimp only at this ⊢
      rw [List.take_length] at this
      exact this
    · exact W2.top m (by dsimp only at b ⊢; omega)
    · exact W2.fresh m b (by dsimp only at c ⊢; omega)
  · have e1 : min G.durable a = a := by omega
    rw [e1]
    have hsub : (G.all.take G.durable).length = G.durable := by rw [List.length_take]; omega
    have M := mend_wi (Z := Z) (sb := sb) (n := n) (G := { G with all := G.all.take a, run := run, durable := a }) (ρ := ρ) h.calm ⟨hok.s1, hok.fit, hok.n1, by dsimp only; omega, r2, by dsimp only; rw [hl]; omega, by dsimp only; rw [hl]; omega⟩ h.dead hl.symm (fun m b c d => ?_) h.tells.mono h.tells.lt (fun m b => ?_) (fun m b c => ?_)
    · obtain ⟨ρ2, M1, M2, M3, M4⟩ := M
      refine ⟨_, ρ2, ?_, M1, M4⟩
      unfold Dk.lcut1
      dsimp only
      rw [if_neg (by rw [hl]; omega)]
      exact Prod.ext M2 (Prod.ext rfl M3)
    · dsimp only at b c d ⊢
      have := h.tells.secs m (by rw [hsub]; omega) c
      rw [this, part_take (by omega), part_take (by omega)]
    · dsimp only at b ⊢
      exact Nat.le_trans (h.top m (by omega)) (Nat.le_of_lt hr)
    · dsimp only at b c ⊢
      rcases Nat.lt_trichotomy (58 * m) G.durable with x | x | x
      · have := h.tells.secs m (by rw [hsub]; exact x) b
        rw [this, (secb_rd (h.tells.lt m) (part_le _ m)).1]
        have := h.top m x
        omega
      · rcases h.edge m b x.symm with y | y <;> omega
      · exact Nat.lt_trans (h.fresh m b x) hr
end Go.Sp
/- The log on a disk that nothing lets go: its calls. -/
namespace Go.Sp
open Go Go.Proofs
set_option linter.unusedSimpArgs false
set_option linter.unusedVariables false
set_option maxRecDepth 10000
theorem at4_nil : at4 (wh []) = 0 := by decide
theorem new_get {sb bb mb n j : Nat} (h : j < n) : (Dk.new sb bb mb n).get (j : Int) = wh [] := by
  unfold Dk.get Dk.new
  simp [gk, h]
theorem wopen0 {Z : Dk} {sb n : Nat} (hc : Z.calm sb n) {base S run : Nat} (hz : ∀ m, m < S → at4 (Z.get ((base + m : Nat) : Int)) = 0) (hS : 1 ≤ S) (hf : base + S ≤ n) (hn : n ≤ 8192) (r1 : 1 ≤ run) (r2 : run < 4294967296) :
    Fn (eT2 eP eI) Tryz.prog 17 #[.pointer (some ⟨sb, 0, none⟩), .int .i64 (base : Int), .int .i64 (S : Int), .int .i64 (run : Int)] [dk Z] fun y X => ∃ (q : Nat) (Y : Dk) (ρ : Nat → Nat), y = (some ⟨q, 0, none⟩, 0) ∧ X = [lgp ⟨q, base, S, run, [], 0, false⟩ sb, dk Y] ∧ Wi Y sb n ⟨q, base, S, run, [], 0, false⟩ ρ ∧ Y.es = [] := fun L w hw => by
  have F := g17 Z hc.ok (base : Int) (S : Int) (run : Int) (by unfold wf64; omega) (by unfold wf64; omega)
  rw [hc.sb] at F
  refine (F L w hw).mono ?_
  rintro _ w' ⟨y, he, X, hX, hW⟩
  have e0 : lchk Z.sure.length (base : Int) (S : Int) (run : Int) = 0 := by
    unfold lchk
    rw [hc.n, if_neg (by omega), if_neg (by omega)]
  rw [if_pos e0, if_pos hc.up] at hX
  obtain ⟨q, b, k, r, e1, e2, e3, hok, h⟩ := hX
  obtain rfl : b = base := by omega
  obtain rfl : k = S := by omega
  obtain rfl : r = run := by omega
  rw [found_zero (by have := hz 0 (by omega); simpa using this) hS] at h
  obtain ⟨ρ, m1, m2, m3, m4⟩ := mend_zero (q := q) hc hz hS hf hn r1 r2
  rw [if_pos m2, m3] at h
  exact ⟨y, he, X, ⟨q, _, ρ, h.1, h.2, m1, m4⟩, hW⟩
theorem wopen {Z : Dk} {sb n : Nat} {G : Lg} {ρ : Nat → Nat} (h : Wi Z sb n G ρ) {run : Nat} (hr : G.run < run) (r2 : run < 4294967296) (hw : whole (G.all.take G.durable) = G.durable) :
    Fn (eT2 eP eI) Tryz.prog 17 #[.pointer (some ⟨sb, 0, none⟩), .int .i64 (G.base : Int), .int .i64 (G.sectors : Int), .int .i64 (run : Int)] [dk Z] fun y X => ∃ (q : Nat) (Y : Dk) (ρ' : Nat → Nat), y = (some ⟨q, 0, none⟩, 0) ∧ X = [lgp ⟨q, G.base, G.sectors, run, G.all.take G.durable, G.durable, false⟩ sb, dk Y] ∧ Wi Y sb n ⟨q, G.base, G.sectors, run, G.all.take G.durable, G.durable, false⟩ ρ' ∧ Y.es = [] := fun L w hw' => by
  have hc := h.calm
  have hok := h.ok
  have hfit := hok.fit
  have hn1 := hok.n1
  have hs1 := hok.s1
  have F := g17 Z hc.ok (G.base : Int) (G.sectors : Int) (run : Int) (by unfold wf64; omega) (by unfold wf64; omega)
  rw [hc.sb] at F
  refine (F L w hw').mono ?_
  rintro _ w' ⟨y, he, X, hX, hW⟩
  have e0 : lchk Z.sure.length (G.base : Int) (G.sectors : Int) (run : Int) = 0 := by
    unfold lchk
    rw [hc.n, if_neg (by omega), if_neg (by omega)]
  rw [if_pos e0, if_pos hc.up] at hX
  obtain ⟨q, b, k, r, e1, e2, e3, _, h4⟩ := hX
  obtain rfl : b = G.base := by omega
  obtain rfl : k = G.sectors := by omega
  obtain rfl : r = run := by omega
  rw [found_wi h (Nat.le_of_lt hr) hw] at h4
  obtain ⟨ρ', m1, m2, m3, m4⟩ := mend_again h (q := q) hr r2
  rw [if_pos m2, m3] at h4
  exact ⟨y, he, X, ⟨q, _, ρ', h4.1, h4.2, m1, m4⟩, hW⟩
theorem wappend {Z : Dk} {sb n : Nat} {G : Lg} {ρ : Nat → Nat} (h : Wi Z sb n G ρ) (A : HP) (r : api_Rec) (c : Rc) (hr : RcAt A r c) :
    Fq (eT2 eI eI) Tryz.prog 20 #[G.p, v_api_Rec r] [lgp G sb, A] [lgp (G.append c).2 sb, A] (G.append c).1 := by
  have hfit := h.ok.fit
  have hn1 := h.ok.n1
  exact g20 G sb h.ok.le (by omega) A r c hr
/-- What a record that is appended makes of a log that is not dead. -/
theorem append_is {G : Lg} (hd : G.dead = false) (c : Rc) : G.append c = if c.frame.2 = 0 then (if G.all.length + c.frame.1.length ≤ 58 * G.sectors then ((((G.all.length + 1 : Nat) : Int), 0), { G with all := G.all ++ c.frame.1 }) else ((0, 7), G)) else ((0, c.frame.2), G) := by
  unfold Lg.append Lg.add
  rw [if_neg (by rw [hd]; decide)]
  by_cases h0 : c.frame.2 = 0
  · rw [if_pos h0, if_pos h0]
    by_cases hq : G.all.length + c.frame.1.length ≤ 58 * G.sectors
    · rw [if_pos hq, if_neg (by omega)]
    · rw [if_neg hq, if_pos (by omega)]
  · rw [if_neg h0, if_neg h0]
theorem Wi.app {Z : Dk} {sb n : Nat} {G : Lg} {ρ : Nat → Nat} (h : Wi Z sb n G ρ) (c : Rc) : Wi Z sb n (G.append c).2 ρ := by
  rw [append_is h.dead]
  split
  · split
    · exact h.append (by assumption)
    · exact h
  · exact h
theorem wflush {Z : Dk} {sb n : Nat} {G : Lg} {ρ : Nat → Nat} (h : Wi Z sb n G ρ) :
    ∃ (Y : Dk) (ρ' : Nat → Nat), Fq eI Tryz.prog 21 #[G.p] [lgp G sb, dk Z] [lgp { G with durable := G.all.length } sb, dk Y] 0 ∧ Wi Y sb n { G with durable := G.all.length } ρ' ∧ (Z.es = [] → Y.es = []) := by
  obtain ⟨ρ', hW⟩ := h.flush
  obtain ⟨l1, l2, _, l4, l5, _⟩ := lflush_calm h.calm h.ok h.dead
  refine ⟨_, ρ', ?_, hW, fun he => ?_⟩
  · have F := g21 G Z h.calm.ok (by rw [h.calm.n]; exact h.ok)
    rw [l1, l2, h.calm.sb] at F
    exact F
  · have hdu := h.ok.du
    rcases Nat.lt_or_ge G.durable G.all.length with x | x
    · exact l4 x
    · rw [l5 (by omega)]; exact he
theorem wcut {Z : Dk} {sb n : Nat} {G : Lg} {ρ : Nat → Nat} (h : Wi Z sb n G ρ) {a run : Nat} (ha : a ≤ G.all.length) (hr : G.run < run) (r2 : run < 4294967296) (hb : whole (G.all.take a) = a) :
    ∃ (Y : Dk) (ρ' : Nat → Nat), Fq eI Tryz.prog 33 #[G.p, .int .i64 ((a : Int) + 1), .int .i64 (run : Int)] [lgp G sb, dk Z] [lgp { G with all := G.all.take a, run := run, durable := a } sb, dk Y] 0 ∧ Wi Y sb n { G with all := G.all.take a, run := run, durable := a } ρ' ∧ Y.es = [] := by
  obtain ⟨Y, ρ', e, hW, he⟩ := cut_wi h ha hr r2 hb
  refine ⟨Y, ρ', ?_, hW, he⟩
  have F := g33 G Z h.calm.ok (by rw [h.calm.n]; exact h.ok) ((a : Int) + 1) (run : Int)
  rw [e, h.calm.sb] at F
  exact F
end Go.Sp
/- What a law's arguments are: structs that hold slices of flat values, and slices of such structs, read as they lie. -/
namespace Go.Sp
open Go
inductive Ln
  | f (l : Lf)
  | sl (sz : Nat) (ks : List Lf)
def lnOk (w : World) : Ln → Value → Prop
  | .f l, v => lfOk l v
  | .sl sz ks, v => ∃ (s : SlV) (css : List (List Value)), v = .slice s.1 s.2.1 s.2.2 ∧ Rs (old w) s sz css.flatten ∧ (∀ c ∈ css, lfs ks c) ∧ s.2.1 ≤ s.2.2
def lns (w : World) : List Ln → List Value → Prop
  | [], [] => True
  | k :: ks, v :: vs => lnOk w k v ∧ lns w ks vs
  | _, _ => False
def shNs (P : Program) (sh : TypeId → Option (List Ln)) : List Field → Nat → Option (List Ln)
  | [], _ => some []
  | f :: fs, off => match Nat.beq f.offset off, sh f.type with
    | true, some a => match Nat.beq (P.cellsOf f.type) a.length, shNs P sh fs (off + a.length) with
      | true, some r => some (a ++ r)
      | _, _ => none
    | _, _ => none
def shapeN (P : Program) : Nat → TypeId → Option (List Ln)
  | 0, _ => none
  | n + 1, t => match P.underlying t with
    | some (.int k) => some [.f (.i k)]
    | some .string => some [.f .s]
    | some .bool => some [.f .b]
    | some (.slice e) => match shape P 8 e with
      | some ks => match Nat.beq (P.cellsOf e) ks.length with
        | true => some [.sl ks.length ks]
        | false => none
      | none => none
    | some (.struct fs) => match shNs P (shapeN P n) fs.toList 0 with
      | some r => match Nat.beq (P.cellsOf t) r.length with
        | true => some r
        | false => none
      | none => none
    | _ => none
theorem lns_append {w : World} : ∀ {a b : List Ln} {u v : List Value}, lns w a u → lns w b v → lns w (a ++ b) (u ++ v)
  | [], _, [], _, _, h => h
  | _ :: _, _, _ :: _, _, h, h' => ⟨h.1, lns_append h.2 h'⟩
  | [], _, _ :: _, _, h, _ => h.elim
  | _ :: _, _, [], _, h, _ => h.elim
section
variable {H : Type} {enc : TypeId × Value → H} {P : Program} {w : World} {base : Nat} {spare : Nat → Bool} {held : Bool}
theorem shapeN_ok : ∀ (n : Nat) (t : TypeId) (ks : List Ln), shapeN P n t = some ks → ∀ (fuel : Nat) (cs : List Value) (x : DataW H × List MemPlace), DataW.trod enc P w base spare held fuel t cs = some x → lns w ks cs
  | 0, _, _, h, _, _, _, _ => by cases h
  | n + 1, t, ks, h, fuel, cs, x, hx => by
    unfold shapeN at h
    split at h
    · rename_i k ht
      cases h
      obtain ⟨m, rfl, _, hw⟩ := DataW.trod_int ht hx
      exact ⟨⟨m, rfl, hw⟩, trivial⟩
    · rename_i ht
      cases h
      obtain ⟨s, rfl, _, hs⟩ := DataW.trod_string ht hx
      exact ⟨⟨s.data.toList, rfl, by simpa using hs⟩, trivial⟩
    · rename_i ht
      cases h
      obtain ⟨b, rfl, _⟩ := DataW.trod_bool ht hx
      exact ⟨⟨b, rfl⟩, trivial⟩
    · rename_i e ht
      split at h
      · rename_i r hr
        split at h
        · rename_i he
          cases h
          have hsz := Nat.eq_of_beq_eq_true he
          have hcs : ∃ v, cs = [v] ∧ v.cells.toList = [v] := by
            rcases Deep.open_slice ht hx with ⟨h1, _⟩ | ⟨a, len, cap, _, _, _, _, h1, _⟩
            · exact ⟨_, h1, rfl⟩
            · exact ⟨_, h1, rfl⟩
          obtain ⟨v, rfl, hv⟩ := hcs
          obtain ⟨d, p⟩ := x
          obtain ⟨s, l, h1, h2, h3, h4, h5, _⟩ := open_slice_flat (α := { c : List Value // c.length = r.length }) (cel := fun c => c.1) (Q := fun c => lfs r c.1) (sz := r.length) (d := d) (p := p) ht hr hsz (fun c => c.2) hv (fun cs hc => ⟨⟨cs, lfs_len hc⟩, rfl, hc⟩) ⟨fuel, by rw [hv]; exact hx⟩
          refine ⟨⟨s, l.map fun c => c.1, h1, ?_, ?_, h5.2⟩, trivial⟩
          · rw [List.flatMap_def] at h2; exact h2
          · intro c hc
            obtain ⟨y, hy, rfl⟩ := List.mem_map.1 hc
            exact h4 y hy
        · cases h
      · cases h
    · rename_i fs ht
      obtain ⟨xs, m, _, _, hl, hlen, hf⟩ := DataW.trod_struct ht hx
      have each : ∀ f ∈ fs.toList, ∃ y, DataW.trod enc P w base spare held m f.type ((cs.drop f.offset).take (P.cellsOf f.type)) = some y := by
        intro f hf'
        obtain ⟨i, hi, rfl⟩ := List.getElem_of_mem hf'
        have hi' : i < fs.size := by simpa using hi
        have := hf i fs[i] (by simp [hi'])
        rw [List.getElem?_eq_getElem (by omega)] at this
        exact ⟨_, this⟩
      have go : ∀ (gs : List Field) (off : Nat) (r : List Ln), shNs P (shapeN P n) gs off = some r → (∀ f ∈ gs, ∃ y, DataW.trod enc P w base spare held m f.type ((cs.drop f.offset).take (P.cellsOf f.type)) = some y) →
          off + r.length ≤ cs.length → lns w r ((cs.drop off).take r.length) := by
        intro gs
        induction gs with
        | nil => intro off r hr _ _; simp only [shNs, Option.some.injEq] at hr; subst hr; simp [lns]
        | cons g gs ih =>
          intro off r hr hy hle
          unfold shNs at hr
          split at hr
          · rename_i a h1 h2
            split at hr
            · rename_i r' h3 h4
              simp only [Option.some.injEq] at hr
              subst hr
              have e1 := Nat.eq_of_beq_eq_true h1
              have e3 := Nat.eq_of_beq_eq_true h3
              obtain ⟨y, hy'⟩ := hy g (by simp)
              have hA := shapeN_ok n g.type a h2 m _ y hy'
              rw [e1, e3] at hA
              simp only [List.length_append] at hle
              have hB := ih (off + a.length) r' h4 (fun f hf => hy f (by simp [hf])) (by omega)
              have := lns_append hA hB
              rwa [show ((cs.drop off).take a.length) ++ ((cs.drop (off + a.length)).take r'.length) = (cs.drop off).take (a ++ r').length by
                rw [List.length_append, List.take_add, List.drop_drop]] at this
            · cases hr
          · cases hr
      split at h
      · rename_i r hr
        split at h
        · rename_i he
          cases h
          have e := Nat.eq_of_beq_eq_true he
          have := go fs.toList 0 ks hr each (by omega)
          simpa [show ks.length = cs.length by omega] using this
        · cases h
      · cases h
    · cases h
/-- An argument that is a slice of structs that hold slices. -/
theorem open_slice_n {α : Type} {cel : α → List Value} {Q : α → Prop} {sz : Nat} {t e : TypeId} {v : Value} {d : DataW H} {p : List MemPlace} {ks : List Ln} (ht : P.underlying t = some (.slice e)) (hk : shapeN P 8 e = some ks) (hsz : P.cellsOf e = sz) (hc : ∀ x, (cel x).length = sz)
    (hv : v.cells.toList = [v]) (hof : ∀ cs, lns w ks cs → ∃ x, cs = cel x ∧ Q x) (h : DataW.Trod enc P w base spare held t v d p) :
    ∃ (s : SlV) (l : List α), v = .slice s.1 s.2.1 s.2.2 ∧ Rs (old w) s sz (l.flatMap cel) ∧ s.2.1 = l.length ∧ (∀ x ∈ l, Q x) ∧ (l.length ≤ maxLen ∧ s.2.1 ≤ s.2.2) := by
  obtain ⟨fuel, h⟩ := h
  rw [hv] at h
  rcases Deep.open_slice ht h with ⟨h1, h2⟩ | ⟨a, len, cap, m, n, D, Pl, h1, hb, hl, hm, hmm, hx, hi⟩
  · have : v = .slice none 0 0 := by simpa using h1
    subst this
    exact ⟨(none, 0, 0), [], rfl, ⟨by simp, by simp, by simp⟩, rfl, by simp, ⟨by simp, by simp⟩⟩
  · have : v = .slice (some a) len cap := by simpa using h1
    subst this
    have hle : len ≤ m := by rw [hmm]; split <;> omega
    have each : ∀ i, i < len → ∃ x, w.cells? base (a.add (i * sz)) sz = some (cel x) ∧ Q x := by
      intro i hlt
      obtain ⟨cs', e1, e2⟩ := hi i (by omega)
      obtain ⟨x, rfl, hq⟩ := hof cs' (shapeN_ok 8 e ks hk _ _ _ e2)
      rw [hsz] at e1
      exact ⟨x, e1, hq⟩
    have build : ∀ k, k ≤ len → ∃ l : List α, l.length = k ∧ (∀ i x, l[i]? = some x → w.cells? base (a.add (i * sz)) sz = some (cel x) ∧ Q x) := by
      intro k
      induction k with
      | zero => exact fun _ => ⟨[], rfl, by simp⟩
      | succ k ih =>
        intro hk'
        obtain ⟨l, hl1, hl2⟩ := ih (by omega)
        obtain ⟨x, hx1, hx2⟩ := each k (by omega)
        refine ⟨l ++ [x], by simp [hl1], fun i y hy => ?_⟩
        rcases Nat.lt_or_ge i l.length with h | h
        · rw [List.getElem?_append_left h] at hy; exact hl2 i y hy
        · rw [List.getElem?_append_right h] at hy
          have : i = k := by
            rcases Nat.eq_or_lt_of_le h with h' | h'
            · omega
            · rw [List.getElem?_eq_none (by simp; omega)] at hy; cases hy
          subst this
          simp only [hl1, Nat.sub_self, List.getElem?_cons_zero, Option.some.injEq] at hy
          subst hy
          exact ⟨hx1, hx2⟩
    obtain ⟨l, hl1, hl2⟩ := build len (Nat.le_refl _)
    refine ⟨(some a, len, cap), l, rfl, ⟨?_, by simp, ?_⟩, hl1.symm, ?_, ⟨by omega, hl⟩⟩
    · rw [flat_len hc, hl1]
    · intro a' ha' q hq j u hj
      have : a' = a := by simpa using ha'.symm
      subst this
      have hlt : j < l.length * sz := by
        rcases Nat.lt_or_ge j (l.length * sz) with h | h
        · exact h
        · rw [List.getElem?_eq_none (by rw [flat_len hc]; exact h)] at hj; cases hj
      have hs : 0 < sz := by
        rcases Nat.eq_zero_or_pos sz with h | h
        · subst h; simp at hlt
        · exact h
      have hi1 : j / sz < l.length := Nat.div_lt_of_lt_mul (by rw [Nat.mul_comm]; exact hlt)
      have hx1 : l[j / sz]? = some l[j / sz] := by simp [hi1]
      obtain ⟨e1, _⟩ := hl2 _ _ hx1
      have hmod := Nat.mod_lt j hs
      have hdiv : j / sz * sz + j % sz = j := by rw [Nat.mul_comm]; exact Nat.div_add_mod j sz
      have hu : (cel l[j / sz])[j % sz]? = some u := by
        have e2 : (cel l[j / sz])[j % sz]? = some ((cel l[j / sz])[j % sz]'(by rw [hc]; exact hmod)) := by simp [hc, hmod]
        have := flat_get hc l _ _ hx1 _ _ e2
        rw [hdiv, hj] at this
        rw [e2, this]
      have := (cells_get e1).2 _ _ hu
      rw [Deep.add_add, hdiv] at this
      exact pc_old hq this
    · intro x hx'
      obtain ⟨i, hi', rfl⟩ := List.getElem_of_mem hx'
      exact (hl2 i _ (by simp [hi'])).2
end
end Go.Sp
/- Records as arguments. -/
namespace Go.Sp
open Go Go.Proofs
set_option linter.unusedSimpArgs false
set_option linter.unusedVariables false
theorem lift_list {α : Type} {cel : α → List Value} {P : List Value → Prop} : ∀ (css : List (List Value)), (∀ c ∈ css, P c) → (∀ c, P c → ∃ x, c = cel x) → ∃ l : List α, css.flatten = l.flatMap cel
  | [], _, _ => ⟨[], rfl⟩
  | c :: css, h, hf => by
    obtain ⟨x, rfl⟩ := hf c (h c (by simp))
    obtain ⟨l, e⟩ := lift_list css (fun d hd => h d (by simp [hd])) hf
    exact ⟨x :: l, by simp [e]⟩
/-- A record that lies in what was there: its lists are read, and no list has less room than it is long. -/
def RcOk (A : HP) (r : api_Rec) : Prop := ∃ (is : List api_Image) (tb : List api_Active), Rs A r.Images 2 (is.flatMap cImg) ∧ Rs A r.Table 2 (tb.flatMap cAct) ∧ r.Images.2.1 ≤ r.Images.2.2 ∧ r.Table.2.1 ≤ r.Table.2.2
abbrev recKs : List Ln := [.f (.i .i64), .f (.i .i64), .f (.i .i64), .f (.i .i64), .f (.i .i64), .f .s, .f .s, .f .s, .f (.i .i64), .sl 2 [.i .i64, .s], .sl 2 [.i .i64, .i .i64], .f (.i .i64), .f (.i .i64)]
theorem rec_of {w : World} : ∀ cs, lns w recKs cs → ∃ r : api_Rec, cs = rcl r ∧ RcOk (old w) r := fun cs h => by
  rcases cs with _ | ⟨v1, _ | ⟨v2, _ | ⟨v3, _ | ⟨v4, _ | ⟨v5, _ | ⟨v6, _ | ⟨v7, _ | ⟨v8, _ | ⟨v9, _ | ⟨v10, _ | ⟨v11, _ | ⟨v12, _ | ⟨v13, _ | ⟨v14, cs⟩⟩⟩⟩⟩⟩⟩⟩⟩⟩⟩⟩⟩⟩ <;> simp only [lns, and_false, false_and, and_true] at h
  obtain ⟨⟨n1, rfl, _⟩, ⟨n2, rfl, _⟩, ⟨n3, rfl, _⟩, ⟨n4, rfl, _⟩, ⟨n5, rfl, _⟩, ⟨n6, rfl, _⟩, ⟨n7, rfl, _⟩, ⟨n8, rfl, _⟩, ⟨n9, rfl, _⟩, ⟨s1, c1, rfl, a1, a2, a3⟩, ⟨s2, c2, rfl, b1, b2, b3⟩, ⟨n12, rfl, _⟩, ⟨n13, rfl, _⟩⟩ := h
  obtain ⟨is, e1⟩ := lift_list (cel := cImg) c1 a2 (fun c hc => by
    rcases c with _ | ⟨u1, _ | ⟨u2, _ | ⟨u3, c⟩⟩⟩ <;> simp only [lfs, and_false, false_and, and_true] at hc
    obtain ⟨⟨m1, rfl, _⟩, ⟨m2, rfl, _⟩⟩ := hc
    exact ⟨⟨m1, m2⟩, rfl⟩)
  obtain ⟨tb, e2⟩ := lift_list (cel := cAct) c2 b2 (fun c hc => by
    rcases c with _ | ⟨u1, _ | ⟨u2, _ | ⟨u3, c⟩⟩⟩ <;> simp only [lfs, and_false, false_and, and_true] at hc
    obtain ⟨⟨m1, rfl, _⟩, ⟨m2, rfl, _⟩⟩ := hc
    exact ⟨⟨m1, m2⟩, rfl⟩)
  rw [e1] at a1
  rw [e2] at b1
  exact ⟨⟨n1, n2, n3, n4, n5, n6, n7, n8, n9, s1, s2, n12, n13⟩, rfl, is, tb, a1, b1, a3, b3⟩
theorem rcl_len (r : api_Rec) : (rcl r).length = 13 := rfl
theorem few_fn {A : HP} {r : api_Rec} (h : RcOk A r) : Fp e_api_Rec Tryz.prog 19 #[v_api_Rec r] [] (fewr r) := by
  obtain ⟨_, _, _, _, c, d⟩ := h
  exact g19 r c d
/-- What few leaves of it. -/
theorem few_ok {A : HP} {r : api_Rec} (h : RcOk A r) : ∃ c, RcAt A (fewr r) c := by
  obtain ⟨is, tb, a, b, c, d⟩ := h
  exact ⟨_, few_at a b c d⟩
end Go.Sp
/- The log's layer: its example. -/
namespace Go.Sp
open Go Go.Proofs
set_option linter.unusedSimpArgs false
set_option linter.unusedVariables false
set_option maxRecDepth 10000
theorem i_sj {e : Enc} {L L' : List HP} {A : HP} {α : Type} {cel : α → List Value} {a : Addr} {n c sz i j : Nat} {xs : List α} {x : α} {k : e.α → W} {y : e.α} (hR : Rs A (some a, n, c) sz (xs.flatMap cel)) (hc : ∀ x, (cel x).length = sz) (hx : xs[i]? = some x) [ha : AX L A L'] (hv : (cel x)[j]? = some (e.enc y)) (h : E L (k y)) : E L (ld e ((a.add (i * sz)).add j) k) :=
  r_sj hR hc hx ha.p hv h
theorem RL.two {S : HP} {rs : List api_Rec} {a b : Rc} (h : RL S rs [a, b]) : ∃ r s, rs = [r, s] ∧ RcAt S s b := by
  have hn := h.n
  match rs, hn with
  | [r, s], _ => exact ⟨r, s, rfl, h.g 1 s b rfl rfl⟩
set_option maxHeartbeats 1000000 in
theorem g15 : Fp eB Tryz.prog 15 #[] [] true := fun L => by
  refine c15_fn rfl rfl ?_
  repeat' ((fail_if_success with_reducible refine nph ?_); first | (with_reducible first | (refine d_seq ?_; intro K hK) | (refine hK _ _ ?_; clear hK K) | refine d_blk ?_ | refine d_rt0 ?_ | refine d_sk0 ?_ | refine d_ex0 ?_ | (refine r_nwc ?_; intro b)) | (first | ((with_reducible refine d_cnd ?_); refine And.intro ?_ ?_) | with_reducible refine r_cnd ?_ ?_) <;> intro hc <;> try simp only [push_cast, Int.reduceEq, Int.reduceLT, Int.reduceLE, Int.reduceNe] at hc | with_reducible refine r_rq (by first | decide | omega) ?_ | ((with_reducible first | apply i_lds | apply i_ldsq | apply i_ld | apply i_ldq); exact rfl) | ((with_reducible first | apply i_ldn | apply i_ldnq); exact rfl; exact rfl; exact rfl) | (with_reducible first | refine r_ph0 ?_ | apply i_kp0) | ((with_reducible first | apply i_st | apply i_stl); (focus simp); exact rfl) | ((try with_reducible refine d_reg ?_); simp only [go_sem, Nat.reduceAdd, Nat.reduceEqDiff, Int.reduceToNat, Nat.reduceMul, Nat.reduceSub]) | clear hK K)
  refine i_cal (F25 20 (by decide) (by decide)) ?_
  rintro y X ⟨sb, bb, mb, rfl, rfl⟩
  have hc0 : (Dk.new sb bb mb 20).calm sb 20 := Dk.calm.new (by decide) (by decide)
  have hz : ∀ m, m < 10 → at4 ((Dk.new sb bb mb 20).get ((1 + m : Nat) : Int)) = 0 := fun m hm => by rw [new_get (by omega)]; exact at4_nil
  generalize Dk.new sb bb mb 20 = Z at *
  repeat' ((fail_if_success with_reducible refine nph ?_); first | (with_reducible first | (refine d_seq ?_; intro K hK) | (refine hK _ _ ?_; clear hK K) | refine d_blk ?_ | refine d_rt0 ?_ | refine d_sk0 ?_ | refine d_ex0 ?_ | (refine r_nwc ?_; intro b)) | (first | ((with_reducible refine d_cnd ?_); refine And.intro ?_ ?_) | with_reducible refine r_cnd ?_ ?_) <;> intro hc <;> try simp only [push_cast, Int.reduceEq, Int.reduceLT, Int.reduceLE, Int.reduceNe] at hc | with_reducible refine r_rq (by first | decide | omega) ?_ | ((with_reducible first | apply i_lds | apply i_ldsq | apply i_ld | apply i_ldq); exact rfl) | ((with_reducible first | apply i_ldn | apply i_ldnq); exact rfl; exact rfl; exact rfl) | (with_reducible first | refine r_ph0 ?_ | apply i_kp0) | ((with_reducible first | apply i_st | apply i_stl); (focus simp); exact rfl) | ((try with_reducible refine d_reg ?_); simp only [go_sem, Nat.reduceAdd, Nat.reduceEqDiff, Int.reduceToNat, Nat.reduceMul, Nat.reduceSub]) | clear hK K)
  all_goals try contradiction
  refine i_cal (wopen0 hc0 hz (by decide) (by decide) (by decide) (by decide : 1 ≤ 1) (by decide)) ?_
  rintro y X ⟨q, Y, ρ, rfl, rfl, hW, hE⟩
  repeat' ((fail_if_success with_reducible refine nph ?_); first | (with_reducible first | (refine d_seq ?_; intro K hK) | (refine hK _ _ ?_; clear hK K) | refine d_blk ?_ | refine d_rt0 ?_ | refine d_sk0 ?_ | refine d_ex0 ?_ | (refine r_nwc ?_; intro b)) | (first | ((with_reducible refine d_cnd ?_); refine And.intro ?_ ?_) | with_reducible refine r_cnd ?_ ?_) <;> intro hc <;> try simp only [push_cast, Int.reduceEq, Int.reduceLT, Int.reduceLE, Int.reduceNe] at hc | with_reducible refine r_rq (by first | decide | omega) ?_ | ((with_reducible first | apply i_lds | apply i_ldsq | apply i_ld | apply i_ldq); exact rfl) | ((with_reducible first | apply i_ldn | apply i_ldnq); exact rfl; exact rfl; exact rfl) | (with_reducible first | refine r_ph0 ?_ | apply i_kp0) | ((with_reducible first | apply i_st | apply i_stl); (focus simp); exact rfl) | ((try with_reducible refine d_reg ?_); simp only [go_sem, Nat.reduceAdd, Nat.reduceEqDiff, Int.reduceToNat, Nat.reduceMul, Nat.reduceSub]) | clear hK K)
  all_goals try contradiction
  obtain ⟨f1, c1, l1⟩ := cm_frame (n := 1) ⟨by decide, by decide⟩
  obtain ⟨f2, c2, l2⟩ := cm_frame (n := 2) ⟨by decide, by decide⟩
  obtain ⟨f3, c3, l3⟩ := cm_frame (n := 3) ⟨by decide, by decide⟩
  have e1 : (⟨q, 1, 10, 1, [], 0, false⟩ : Lg).append (cm 1) = ((1, 0), ⟨q, 1, 10, 1, f1, 0, false⟩) := by
    rw [append_is rfl, c1]
    simp [l1]
  have A1 := wappend hW (dk Y) _ _ (cm_at (dk Y) 1)
  have W1 := hW.app (cm 1)
  rw [e1] at A1 W1
  dsimp only at W1
  have e2 : (⟨q, 1, 10, 1, f1, 0, false⟩ : Lg).append (cm 2) = ((20, 0), ⟨q, 1, 10, 1, f1 ++ f2, 0, false⟩) := by
    rw [append_is rfl, c2]
    simp [l1, l2]
  have A2 := wappend W1 (dk Y) _ _ (cm_at (dk Y) 2)
  have W2 := W1.app (cm 2)
  rw [e2] at A2 W2
  dsimp only at W2
  obtain ⟨V, ρ3, F3, W3, hE3⟩ := wflush W2
  dsimp only at F3 W3
  have l12 : (f1 ++ f2).length = 38 := by rw [List.length_append, l1, l2]
  rw [l12] at F3 W3
  have e4 : (⟨q, 1, 10, 1, f1 ++ f2, 38, false⟩ : Lg).append (cm 3) = ((39, 0), ⟨q, 1, 10, 1, f1 ++ f2 ++ f3, 38, false⟩) := by
    rw [append_is rfl, c3]
    simp [l1, l2, l3]
  have A4 := wappend W3 (dk V) _ _ (cm_at (dk V) 3)
  have W4 := W3.app (cm 3)
  rw [e4] at A4 W4
  dsimp only at W4
  have C5 := calm_c W4.calm (by decide) 0
  have C6 := calm_o W4.calm 0
  have W6 := W4.off (hE3 hE) 0
  have hps : Prs [(f1, cm 1), (f2, cm 2)] := fun x hx => by
    simp only [List.mem_cons, List.not_mem_nil, or_false] at hx
    rcases hx with rfl | rfl
    · exact ⟨⟨Nat.zero_le _, Nat.zero_le _⟩, c1⟩
    · exact ⟨⟨Nat.zero_le _, Nat.zero_le _⟩, c2⟩
  have ht : (f1 ++ f2 ++ f3).take 38 = f1 ++ f2 := List.take_left' l12
  have hwh : whole (f1 ++ f2) = 38 := by
    have := whole_frs hps.frs
    simpa [l1, l2] using this
  have O7 := wopen W6 (run := 2) (Nat.lt_succ_self 1) (by decide) (by dsimp only; rw [ht]; exact hwh)
  dsimp only at O7
  rw [ht] at O7
  have hrec : recs (f1 ++ f2) = [(1, cm 1), (20, cm 2)] := by
    have := recs_prs hps
    simp only [List.map_cons, List.map_nil, List.flatten_cons, List.flatten_nil, List.append_nil] at this
    rw [this]
    simp only [rl, l1]
    rfl
  refine i_clp (g37 1) ?_
  refine i_clq A1 ?_
  repeat' ((fail_if_success with_reducible refine nph ?_); first | (with_reducible first | (refine d_seq ?_; intro K hK) | (refine hK _ _ ?_; clear hK K) | refine d_blk ?_ | refine d_rt0 ?_ | refine d_sk0 ?_ | refine d_ex0 ?_ | (refine r_nwc ?_; intro b)) | (first | ((with_reducible refine d_cnd ?_); refine And.intro ?_ ?_) | with_reducible refine r_cnd ?_ ?_) <;> intro hc <;> try simp only [push_cast, Int.reduceEq, Int.reduceLT, Int.reduceLE, Int.reduceNe] at hc | with_reducible refine r_rq (by first | decide | omega) ?_ | ((with_reducible first | apply i_lds | apply i_ldsq | apply i_ld | apply i_ldq); exact rfl) | ((with_reducible first | apply i_ldn | apply i_ldnq); exact rfl; exact rfl; exact rfl) | (with_reducible first | refine r_ph0 ?_ | apply i_kp0) | ((with_reducible first | apply i_st | apply i_stl); (focus simp); exact rfl) | ((try with_reducible refine d_reg ?_); simp only [go_sem, Nat.reduceAdd, Nat.reduceEqDiff, Int.reduceToNat, Nat.reduceMul, Nat.reduceSub]) | clear hK K)
  refine i_clp (g37 2) ?_
  refine i_clq A2 ?_
  repeat' ((fail_if_success with_reducible refine nph ?_); first | (with_reducible first | (refine d_seq ?_; intro K hK) | (refine hK _ _ ?_; clear hK K) | refine d_blk ?_ | refine d_rt0 ?_ | refine d_sk0 ?_ | refine d_ex0 ?_ | (refine r_nwc ?_; intro b)) | (first | ((with_reducible refine d_cnd ?_); refine And.intro ?_ ?_) | with_reducible refine r_cnd ?_ ?_) <;> intro hc <;> try simp only [push_cast, Int.reduceEq, Int.reduceLT, Int.reduceLE, Int.reduceNe] at hc | with_reducible refine r_rq (by first | decide | omega) ?_ | ((with_reducible first | apply i_lds | apply i_ldsq | apply i_ld | apply i_ldq); exact rfl) | ((with_reducible first | apply i_ldn | apply i_ldnq); exact rfl; exact rfl; exact rfl) | (with_reducible first | refine r_ph0 ?_ | apply i_kp0) | ((with_reducible first | apply i_st | apply i_stl); (focus simp); exact rfl) | ((try with_reducible refine d_reg ?_); simp only [go_sem, Nat.reduceAdd, Nat.reduceEqDiff, Int.reduceToNat, Nat.reduceMul, Nat.reduceSub]) | clear hK K)
  refine i_clq F3 ?_
  repeat' ((fail_if_success with_reducible refine nph ?_); first | (with_reducible first | (refine d_seq ?_; intro K hK) | (refine hK _ _ ?_; clear hK K) | refine d_blk ?_ | refine d_rt0 ?_ | refine d_sk0 ?_ | refine d_ex0 ?_ | (refine r_nwc ?_; intro b)) | (first | ((with_reducible refine d_cnd ?_); refine And.intro ?_ ?_) | with_reducible refine r_cnd ?_ ?_) <;> intro hc <;> try simp only [push_cast, Int.reduceEq, Int.reduceLT, Int.reduceLE, Int.reduceNe] at hc | with_reducible refine r_rq (by first | decide | omega) ?_ | ((with_reducible first | apply i_lds | apply i_ldsq | apply i_ld | apply i_ldq); exact rfl) | ((with_reducible first | apply i_ldn | apply i_ldnq); exact rfl; exact rfl; exact rfl) | (with_reducible first | refine r_ph0 ?_ | apply i_kp0) | ((with_reducible first | apply i_st | apply i_stl); (focus simp); exact rfl) | ((try with_reducible refine d_reg ?_); simp only [go_sem, Nat.reduceAdd, Nat.reduceEqDiff, Int.reduceToNat, Nat.reduceMul, Nat.reduceSub]) | clear hK K)
  all_goals try contradiction
  refine i_clp (g37 3) ?_
  refine i_clq A4 ?_
  repeat' ((fail_if_success with_reducible refine nph ?_); first | (with_reducible first | (refine d_seq ?_; intro K hK) | (refine hK _ _ ?_; clear hK K) | refine d_blk ?_ | refine d_rt0 ?_ | refine d_sk0 ?_ | refine d_ex0 ?_ | (refine r_nwc ?_; intro b)) | (first | ((with_reducible refine d_cnd ?_); refine And.intro ?_ ?_) | with_reducible refine r_cnd ?_ ?_) <;> intro hc <;> try simp only [push_cast, Int.reduceEq, Int.reduceLT, Int.reduceLE, Int.reduceNe] at hc | with_reducible refine r_rq (by first | decide | omega) ?_ | ((with_reducible first | apply i_lds | apply i_ldsq | apply i_ld | apply i_ldq); exact rfl) | ((with_reducible first | apply i_ldn | apply i_ldnq); exact rfl; exact rfl; exact rfl) | (with_reducible first | refine r_ph0 ?_ | apply i_kp0) | ((with_reducible first | apply i_st | apply i_stl); (focus simp); exact rfl) | ((try with_reducible refine d_reg ?_); simp only [go_sem, Nat.reduceAdd, Nat.reduceEqDiff, Int.reduceToNat, Nat.reduceMul, Nat.reduceSub]) | clear hK K)
  refine i_clq C5 ?_
  repeat' ((fail_if_success with_reducible refine nph ?_); first | (with_reducible first | (refine d_seq ?_; intro K hK) | (refine hK _ _ ?_; clear hK K) | refine d_blk ?_ | refine d_rt0 ?_ | refine d_sk0 ?_ | refine d_ex0 ?_ | (refine r_nwc ?_; intro b)) | (first | ((with_reducible refine d_cnd ?_); refine And.intro ?_ ?_) | with_reducible refine r_cnd ?_ ?_) <;> intro hc <;> try simp only [push_cast, Int.reduceEq, Int.reduceLT, Int.reduceLE, Int.reduceNe] at hc | with_reducible refine r_rq (by first | decide | omega) ?_ | ((with_reducible first | apply i_lds | apply i_ldsq | apply i_ld | apply i_ldq); exact rfl) | ((with_reducible first | apply i_ldn | apply i_ldnq); exact rfl; exact rfl; exact rfl) | (with_reducible first | refine r_ph0 ?_ | apply i_kp0) | ((with_reducible first | apply i_st | apply i_stl); (focus simp); exact rfl) | ((try with_reducible refine d_reg ?_); simp only [go_sem, Nat.reduceAdd, Nat.reduceEqDiff, Int.reduceToNat, Nat.reduceMul, Nat.reduceSub]) | clear hK K)
  refine i_clq C6 ?_
  repeat' ((fail_if_success with_reducible refine nph ?_); first | (with_reducible first | (refine d_seq ?_; intro K hK) | (refine hK _ _ ?_; clear hK K) | refine d_blk ?_ | refine d_rt0 ?_ | refine d_sk0 ?_ | refine d_ex0 ?_ | (refine r_nwc ?_; intro b)) | (first | ((with_reducible refine d_cnd ?_); refine And.intro ?_ ?_) | with_reducible refine r_cnd ?_ ?_) <;> intro hc <;> try simp only [push_cast, Int.reduceEq, Int.reduceLT, Int.reduceLE, Int.reduceNe] at hc | with_reducible refine r_rq (by first | decide | omega) ?_ | ((with_reducible first | apply i_lds | apply i_ldsq | apply i_ld | apply i_ldq); exact rfl) | ((with_reducible first | apply i_ldn | apply i_ldnq); exact rfl; exact rfl; exact rfl) | (with_reducible first | refine r_ph0 ?_ | apply i_kp0) | ((with_reducible first | apply i_st | apply i_stl); (focus simp); exact rfl) | ((try with_reducible refine d_reg ?_); simp only [go_sem, Nat.reduceAdd, Nat.reduceEqDiff, Int.reduceToNat, Nat.reduceMul, Nat.reduceSub]) | clear hK K)
  refine i_cal O7 ?_
  rintro y X ⟨q2, Y2, ρ2, rfl, rfl, hW2, hE2⟩
  repeat' ((fail_if_success with_reducible refine nph ?_); first | (with_reducible first | (refine d_seq ?_; intro K hK) | (refine hK _ _ ?_; clear hK K) | refine d_blk ?_ | refine d_rt0 ?_ | refine d_sk0 ?_ | refine d_ex0 ?_ | (refine r_nwc ?_; intro b)) | (first | ((with_reducible refine d_cnd ?_); refine And.intro ?_ ?_) | with_reducible refine r_cnd ?_ ?_) <;> intro hc <;> try simp only [push_cast, Int.reduceEq, Int.reduceLT, Int.reduceLE, Int.reduceNe] at hc | with_reducible refine r_rq (by first | decide | omega) ?_ | ((with_reducible first | apply i_lds | apply i_ldsq | apply i_ld | apply i_ldq); exact rfl) | ((with_reducible first | apply i_ldn | apply i_ldnq); exact rfl; exact rfl; exact rfl) | (with_reducible first | refine r_ph0 ?_ | apply i_kp0) | ((with_reducible first | apply i_st | apply i_stl); (focus simp); exact rfl) | ((try with_reducible refine d_reg ?_); simp only [go_sem, Nat.reduceAdd, Nat.reduceEqDiff, Int.reduceToNat, Nat.reduceMul, Nat.reduceSub]) | clear hK K)
  all_goals try contradiction
  have hlen : (f1 ++ f2).length ≤ 1000000 := by omega
  have R8 := g25 ⟨q2, 1, 10, 2, f1 ++ f2, 38, false⟩ sb hlen
  dsimp only at R8
  rw [hrec] at R8
  refine i_cal R8 ?_
  rintro ⟨⟨p, n, c⟩, y2⟩ X ⟨S, rs, rfl, hRL⟩
  replace hRL : RL S rs [cm 1, cm 2] := hRL
  dsimp only [List.cons_append, List.nil_append]
  obtain ⟨r1, r2, rfl, hr⟩ := hRL.two
  have hr2 := hr.e
  have htx : r2.Txn = 2 := by
    have := congrArg Rc.txn hr2
    exact this.symm
  refine i_ow (t := 36) (sz := 13) (p, n, c) fun hR => ?_
  obtain rfl : n = 2 := hR.len rcl_len (by decide)
  obtain ⟨a, rfl⟩ := hR.ptr (by decide)
  repeat' ((fail_if_success with_reducible refine nph ?_); first | (with_reducible first | (refine d_seq ?_; intro K hK) | (refine hK _ _ ?_; clear hK K) | refine d_blk ?_ | refine d_rt0 ?_ | refine d_sk0 ?_ | refine d_ex0 ?_ | (refine r_nwc ?_; intro b)) | (first | ((with_reducible refine d_cnd ?_); refine And.intro ?_ ?_) | with_reducible refine r_cnd ?_ ?_) <;> intro hc <;> try simp only [push_cast, Int.reduceEq, Int.reduceLT, Int.reduceLE, Int.reduceNe] at hc | with_reducible refine r_rq (by first | decide | omega) ?_ | ((with_reducible first | apply i_lds | apply i_ldsq | apply i_ld | apply i_ldq); exact rfl) | ((with_reducible first | apply i_ldn | apply i_ldnq); exact rfl; exact rfl; exact rfl) | (with_reducible first | refine r_ph0 ?_ | apply i_kp0) | ((with_reducible first | apply i_st | apply i_stl); (focus simp); exact rfl) | ((try with_reducible refine d_reg ?_); simp only [go_sem, Nat.reduceAdd, Nat.reduceEqDiff, Int.reduceToNat, Nat.reduceMul, Nat.reduceSub]) | clear hK K)
  all_goals try contradiction
  refine i_sj (i := 1) (j := 1) hR rcl_len (x := r2) rfl rfl ?_
  repeat' ((fail_if_success with_reducible refine nph ?_); first | (with_reducible first | (refine d_seq ?_; intro K hK) | (refine hK _ _ ?_; clear hK K) | refine d_blk ?_ | refine d_rt0 ?_ | refine d_sk0 ?_ | refine d_ex0 ?_ | (refine r_nwc ?_; intro b)) | (first | ((with_reducible refine d_cnd ?_); refine And.intro ?_ ?_) | with_reducible refine r_cnd ?_ ?_) <;> intro hc <;> try simp only [push_cast, Int.reduceEq, Int.reduceLT, Int.reduceLE, Int.reduceNe] at hc | with_reducible refine r_rq (by first | decide | omega) ?_ | ((with_reducible first | apply i_lds | apply i_ldsq | apply i_ld | apply i_ldq); exact rfl) | ((with_reducible first | apply i_ldn | apply i_ldnq); exact rfl; exact rfl; exact rfl) | (with_reducible first | refine r_ph0 ?_ | apply i_kp0) | ((with_reducible first | apply i_st | apply i_stl); (focus simp); exact rfl) | ((try with_reducible refine d_reg ?_); simp only [go_sem, Nat.reduceAdd, Nat.reduceEqDiff, Int.reduceToNat, Nat.reduceMul, Nat.reduceSub]) | clear hK K)
  rw [htx]
  (with_reducible first | apply i_ret0 | apply i_ret2 | apply i_ret3 | apply i_ret); exact rfl
  rfl
end Go.Sp
/- The log on a disk that nothing lets go: what its sectors have behind Open, and behind Flush. -/
namespace Go.Sp
open Go Go.Proofs
set_option linter.unusedSimpArgs false
set_option linter.unusedVariables false
set_option maxRecDepth 10000
theorem get_len {Z : Dk} (h : Z.ok) (j : Nat) : (Z.get (j : Int)).length = 64 := by
  unfold Dk.get
  cases hg : gk Z.es (j : Int) with
  | none =>
    rw [Option.getD_none]
    refine wh_len ?_
    rw [List.getD_eq_getElem?_getD]
    rcases Nat.lt_or_ge (j : Int).toNat Z.sure.length with x | x
    · rw [List.getElem?_eq_getElem x]
      exact h.l64 _ (List.getElem_mem x)
    · rw [List.getElem?_eq_none x]
      simp
  | some v =>
    obtain ⟨x, hx, _, e⟩ := gk_mem hg
    have := h.e64 x hx
    rw [e] at this
    exact this
theorem wflushg {Z : Dk} {sb n : Nat} {G : Lg} {ρ : Nat → Nat} (h : Wi Z sb n G ρ) :
    ∃ (Y : Dk) (ρ' : Nat → Nat), Fq eI Tryz.prog 21 #[G.p] [lgp G sb, dk Z] [lgp { G with durable := G.all.length } sb, dk Y] 0 ∧ Wi Y sb n { G with durable := G.all.length } ρ' ∧ (Z.es = [] → Y.es = []) ∧
      ∀ j : Nat, j < n → Y.get (j : Int) = if G.durable < G.all.length ∧ G.base + G.durable / 58 ≤ j ∧ 58 * (j - G.base) < G.all.length then wh (G.sec (j - G.base)) else Z.get (j : Int) := by
  obtain ⟨ρ', hW⟩ := h.flush
  obtain ⟨l1, l2, _, l4, l5, l6⟩ := lflush_calm h.calm h.ok h.dead
  refine ⟨_, ρ', ?_, hW, fun he => ?_, l6⟩
  · have F := g21 G Z h.calm.ok (by rw [h.calm.n]; exact h.ok)
    rw [l1, l2, h.calm.sb] at F
    exact F
  · have hdu := h.ok.du
    rcases Nat.lt_or_ge G.durable G.all.length with x | x
    · exact l4 x
    · rw [l5 (by omega)]; exact he
end Go.Sp
/- The log's law: what is owned, in part; frames one behind the other. -/
namespace Go.Sp
open Go Go.Proofs
set_option linter.unusedSimpArgs false
set_option linter.unusedVariables false
set_option maxRecDepth 10000
theorem ow_pre {t : TypeId} {sz : Nat} {s : SlV} {xs : List Value} {k : Nat} {h : PH} (x : ow t sz s xs h) (hk : k ≤ s.2.1) : ow t sz (slp s.1 0 (s.2.2 : Int) sz, k, s.2.2) (xs.take (k * sz)) h := by
  obtain ⟨h1, h2⟩ := x
  have hm : k * sz ≤ s.2.1 * sz := Nat.mul_le_mul_right _ hk
  refine ⟨by show (xs.take (k * sz)).length = k * sz; rw [List.length_take]; omega, ?_⟩
  rcases h2 with rfl | ⟨g, cap, cur, hs, hh, a1, a2, a3, a4⟩
  · left
    obtain rfl : k = 0 := by simpa using hk
    rfl
  · right
    refine ⟨g, cap, cur, ?_, hh, by dsimp only; omega, a2, a3, by dsimp only; rw [← a4, List.take_take, show min (k * sz) (s.2.1 * sz) = k * sz by omega]⟩
    have e1 : s.1 = some ⟨g, 0, none⟩ := congrArg Prod.fst hs
    have e2 : s.2.2 = cap := congrArg (fun x : SlV => x.2.2) hs
    rw [e1, e2]
    have e3 : slp (some ⟨g, 0, none⟩) 0 (cap : Int) sz = some ⟨g, 0, none⟩ := by
      unfold slp
      split
      · rfl
      · show some ((⟨g, 0, none⟩ : Addr).add (0 * sz)) = _
        rw [Nat.zero_mul]
        rfl
    rw [e3]
section
variable {L L' R : List HP} {G : W} {t : TypeId} {sz : Nat} {xs : List Value}
theorem i_owp {s : SlV} {k : Nat} (hk : k ≤ s.2.1) [ho : O1 L t sz s xs L'] (h : E (ow t sz (slp s.1 0 (s.2.2 : Int) sz, k, s.2.2) (xs.take (k * sz)) :: L') G) : E L G := fun w hw => h w (HS.hd (fun _ x => ow_pre x hk) (ho.p.hs hw))
theorem i_owc (s : SlV) [ho : O1 L t sz s xs R] (h : Rs (ow t sz s xs) s sz xs → s.2.1 ≤ s.2.2 → E L G) : E L G := r_fact ho.p (fun _ hq => And.intro (ow_fact hq) (ow_cap hq).1) fun x => h x.1 x.2
end
theorem frame_clean (c : Rc) : c.clean.frame = c.frame := by
  unfold Rc.frame
  rw [clean_idem]
abbrev PS := List (List UInt8 × Rc)
def flat (ps : PS) : List UInt8 := (ps.map (·.1)).flatten
def strs (ps : PS) : List Value := ps.map fun x => str x.1
theorem flat_app (a b : PS) : flat (a ++ b) = flat a ++ flat b := by simp [flat]
theorem flat_snoc (ps : PS) (f : List UInt8) (c : Rc) : flat (ps ++ [(f, c)]) = flat ps ++ f := by simp [flat]
theorem strs_snoc (ps : PS) (f : List UInt8) (c : Rc) : strs ps ++ [str f] = strs (ps ++ [(f, c)]) := by simp [strs]
theorem Prs.snoc {ps : PS} (h : Prs ps) {f : List UInt8} {c : Rc} (hs : c.short) (hc : c.frame = (f, 0)) : Prs (ps ++ [(f, c)]) := fun x hx => by
  rcases List.mem_append.1 hx with h1 | h1
  · exact h x h1
  · obtain rfl : x = (f, c) := by simpa using h1
    exact ⟨hs, hc⟩
theorem Prs.take {ps : PS} (h : Prs ps) (k : Nat) : Prs (ps.take k) := fun x hx => h x (List.mem_of_mem_take hx)
theorem flat_whole {ps : PS} (h : Prs ps) : whole (flat ps) = (flat ps).length := whole_frs h.frs
theorem flat_take (ps : PS) (k : Nat) : (flat ps).take (flat (ps.take k)).length = flat (ps.take k) := by
  have e : flat ps = flat (ps.take k) ++ flat (ps.drop k) := by rw [← flat_app, List.take_append_drop]
  rw [e, List.take_left' rfl]
theorem flat_le (ps : PS) (k : Nat) : (flat (ps.take k)).length ≤ (flat ps).length := by
  have := congrArg List.length (flat_take ps k)
  rw [List.length_take] at this
  omega
theorem flat_next (ps : PS) {i : Nat} {x : List UInt8 × Rc} (hx : ps[i]? = some x) : (flat (ps.take (i + 1))).length = (flat (ps.take i)).length + x.1.length := by
  rw [List.take_add_one, hx]
  show (flat (ps.take i ++ [x])).length = _
  rw [flat_app, List.length_append]
  simp [flat]
theorem flat_recs {ps : PS} (h : Prs ps) : recs (flat ps) = rl ps 0 := recs_prs h
theorem rl_map : ∀ (ps : PS) (a : Nat), (rl ps a).map (·.2) = ps.map fun x => x.2.clean
  | [], _ => rfl
  | x :: ps, a => by
    show x.2.clean :: (rl ps _).map (·.2) = _
    rw [rl_map ps]
    rfl
theorem append_ok {G : Lg} {c : Rc} (hd : G.dead = false) (h1 : c.frame.2 = 0) (h2 : (G.append c).1.2 = 0) : (G.append c).2 = { G with all := G.all ++ c.frame.1 } ∧ G.all.length + c.frame.1.length ≤ 58 * G.sectors ∧ (G.append c).1.1 = ((G.all.length + 1 : Nat) : Int) := by
  rw [append_is hd, if_pos h1] at h2 ⊢
  by_cases hf : G.all.length + c.frame.1.length ≤ 58 * G.sectors
  · rw [if_pos hf]
    exact ⟨rfl, hf, rfl⟩
  · rw [if_neg hf] at h2
    cases h2
theorem append_no {G : Lg} {c : Rc} (hd : G.dead = false) (h : c.frame.2 ≠ 0 ∨ (G.append c).1.2 ≠ 0) : (G.append c).2 = G := by
  rw [append_is hd] at h ⊢
  by_cases h1 : c.frame.2 = 0
  · rw [if_pos h1] at h ⊢
    by_cases hf : G.all.length + c.frame.1.length ≤ 58 * G.sectors
    · rw [if_pos hf] at h
      rcases h with h | h
      · exact absurd h1 h
      · exact absurd rfl h
    · rw [if_neg hf]
  · rw [if_neg h1]
theorem RcAt.sh {A : HP} {r : api_Rec} {c : Rc} (h : RcAt A r c) : c.short := ⟨h.li, h.lt⟩
end Go.Sp
/- What each region of the Go functions does. Written by my own generator. -/
namespace Go.Sp
open Go
set_option maxRecDepth 100000
set_option linter.unusedVariables false
open Go.Proofs
/-! gharry.gharrylaw08.WalStale -/
noncomputable def c6 : Cfg := { P := Tryz.prog, n := 213, T := TT, body := (Tryz.f6.body).getD .skip, res := Tryz.f6.results.toList, li := lk [] [(0, [0, 1, 2]), (1, [0, 1, 2]), (2, [0, 1, 2, 7, 8]), (3, []), (4, [0, 1, 2, 7]), (5, [0, 1, 2, 7, 9, 10]), (6, []), (7, [0, 1, 2, 7, 9]), (8, [0, 1, 2, 7, 9, 11]), (9, [0, 1, 2, 7, 9, 11, 12]), (10, [0, 1, 2, 7, 9, 11, 12, 13]), (11, [0, 1, 2, 7, 9, 11, 12, 13]), (12, [0, 1, 2, 7, 9, 11, 12, 13]), (13, [0, 1, 2, 7, 9, 11, 12, 13, 14, 15]), (14, [0, 1, 2, 7, 9, 11, 12, 13, 14, 15, 17]), (15, [0, 1, 2, 7, 9, 11, 12, 13, 14]), (16, [1, 2, 7, 9, 11, 12]), (17, []), (18, [1, 2, 7, 9, 11, 12]), (19, [2, 7, 9, 11, 12]), (20, [2, 7, 9, 11, 12, 18]), (21, [2, 7, 9, 11, 12, 18]), (22, [2, 7, 9, 11, 12, 18]), (23, [2, 7, 9, 11, 12]), (24, []), (25, [2, 7, 9, 11]), (26, [2, 7, 9, 11, 19]), (27, [2, 7, 9, 11, 19]), (28, [2, 7, 9, 11, 19]), (29, [2, 7, 9, 11, 19, 20, 21]), (30, [2, 7, 9, 11, 19, 20, 21, 23]), (31, [2, 7, 9, 11, 19, 20]), (32, [7, 9, 11]), (33, []), (34, [7, 11]), (35, [11, 24, 25]), (36, []), (37, [11, 24]), (38, [11, 26]), (39, []), (40, [11, 26]), (41, [11, 26, 28]), (42, [11, 26, 28]), (43, [11, 26, 28]), (44, [11, 26, 28, 29, 30]), (45, []), (46, [])], lo := lk [] [(0, [0, 1, 2]), (1, [0, 1, 2, 7, 8]), (2, [0, 1, 2, 7, 40]), (3, [6]), (4, [0, 1, 2, 7, 9, 10]), (5, [0, 1, 2, 7, 9, 51]), (6, [6]), (7, [0, 1, 2, 7, 9, 11]), (8, [0, 1, 2, 7, 9, 11, 12]), (9, [0, 1, 2, 7, 9, 11, 12, 13]), (10, [0, 1, 2, 7, 9, 11, 12, 13, 59]), (11, [0, 1, 2, 7, 9, 11, 12, 13]), (12, [0, 1, 2, 7, 9, 11, 12, 13, 14, 15]), (13, [0, 1, 2, 7, 9, 11, 12, 13, 14, 15, 17]), (14, [0, 1, 2, 7, 9, 11, 12, 13, 14, 86]), (15, [0, 1, 2, 7, 9, 11, 12, 13]), (16, [1, 2, 7, 9, 11, 12, 103]), (17, [6]), (18, [2, 7, 9, 11, 12]), (19, [2, 7, 9, 11, 12, 18]), (20, [2, 7, 9, 11, 12, 18, 111]), (21, [2, 7, 9, 11, 12, 18]), (22, [2, 7, 9, 11, 12, 18]), (23, [2, 7, 9, 11, 124]), (24, [6]), (25, [2, 7, 9, 11, 19]), (26, [2, 7, 9, 11, 19, 132]), (27, [2, 7, 9, 11, 19]), (28, [2, 7, 9, 11, 19, 20, 21]), (29, [2, 7, 9, 11, 19, 20, 21, 23]), (30, [2, 7, 9, 11, 19, 20, 159]), (31, [2, 7, 9, 11, 19]), (32, [7, 11, 166]), (33, [6]), (34, [11, 24, 25]), (35, [11, 24, 177]), (36, [6]), (37, [11, 26]), (38, [11, 26, 187]), (39, [6]), (40, [11, 26, 28]), (41, [11, 26, 28, 191]), (42, [11, 26, 28]), (43, [11, 26, 28, 29, 30]), (44, [11, 26, 28, 211]), (45, [6]), (46, [6]), (1000000, [6])], ord := lk (false, []) [] }
@[go_sem] theorem c6_i0 : c6.li 0 = [0, 1, 2] := rfl
@[go_sem] theorem c6_i1 : c6.li 1 = [0, 1, 2] := rfl
@[go_sem] theorem c6_i2 : c6.li 2 = [0, 1, 2, 7, 8] := rfl
@[go_sem] theorem c6_i3 : c6.li 3 = [] := rfl
@[go_sem] theorem c6_i4 : c6.li 4 = [0, 1, 2, 7] := rfl
@[go_sem] theorem c6_i5 : c6.li 5 = [0, 1, 2, 7, 9, 10] := rfl
@[go_sem] theorem c6_i6 : c6.li 6 = [] := rfl
@[go_sem] theorem c6_i7 : c6.li 7 = [0, 1, 2, 7, 9] := rfl
@[go_sem] theorem c6_i8 : c6.li 8 = [0, 1, 2, 7, 9, 11] := rfl
@[go_sem] theorem c6_i9 : c6.li 9 = [0, 1, 2, 7, 9, 11, 12] := rfl
@[go_sem] theorem c6_i10 : c6.li 10 = [0, 1, 2, 7, 9, 11, 12, 13] := rfl
@[go_sem] theorem c6_i11 : c6.li 11 = [0, 1, 2, 7, 9, 11, 12, 13] := rfl
@[go_sem] theorem c6_i12 : c6.li 12 = [0, 1, 2, 7, 9, 11, 12, 13] := rfl
@[go_sem] theorem c6_i13 : c6.li 13 = [0, 1, 2, 7, 9, 11, 12, 13, 14, 15] := rfl
@[go_sem] theorem c6_i14 : c6.li 14 = [0, 1, 2, 7, 9, 11, 12, 13, 14, 15, 17] := rfl
@[go_sem] theorem c6_i15 : c6.li 15 = [0, 1, 2, 7, 9, 11, 12, 13, 14] := rfl
@[go_sem] theorem c6_i16 : c6.li 16 = [1, 2, 7, 9, 11, 12] := rfl
@[go_sem] theorem c6_i17 : c6.li 17 = [] := rfl
@[go_sem] theorem c6_i18 : c6.li 18 = [1, 2, 7, 9, 11, 12] := rfl
@[go_sem] theorem c6_i19 : c6.li 19 = [2, 7, 9, 11, 12] := rfl
@[go_sem] theorem c6_i20 : c6.li 20 = [2, 7, 9, 11, 12, 18] := rfl
@[go_sem] theorem c6_i21 : c6.li 21 = [2, 7, 9, 11, 12, 18] := rfl
@[go_sem] theorem c6_i22 : c6.li 22 = [2, 7, 9, 11, 12, 18] := rfl
@[go_sem] theorem c6_i23 : c6.li 23 = [2, 7, 9, 11, 12] := rfl
@[go_sem] theorem c6_i24 : c6.li 24 = [] := rfl
@[go_sem] theorem c6_i25 : c6.li 25 = [2, 7, 9, 11] := rfl
@[go_sem] theorem c6_i26 : c6.li 26 = [2, 7, 9, 11, 19] := rfl
@[go_sem] theorem c6_i27 : c6.li 27 = [2, 7, 9, 11, 19] := rfl
@[go_sem] theorem c6_i28 : c6.li 28 = [2, 7, 9, 11, 19] := rfl
@[go_sem] theorem c6_i29 : c6.li 29 = [2, 7, 9, 11, 19, 20, 21] := rfl
@[go_sem] theorem c6_i30 : c6.li 30 = [2, 7, 9, 11, 19, 20, 21, 23] := rfl
@[go_sem] theorem c6_i31 : c6.li 31 = [2, 7, 9, 11, 19, 20] := rfl
@[go_sem] theorem c6_i32 : c6.li 32 = [7, 9, 11] := rfl
@[go_sem] theorem c6_i33 : c6.li 33 = [] := rfl
@[go_sem] theorem c6_i34 : c6.li 34 = [7, 11] := rfl
@[go_sem] theorem c6_i35 : c6.li 35 = [11, 24, 25] := rfl
@[go_sem] theorem c6_i36 : c6.li 36 = [] := rfl
@[go_sem] theorem c6_i37 : c6.li 37 = [11, 24] := rfl
@[go_sem] theorem c6_i38 : c6.li 38 = [11, 26] := rfl
@[go_sem] theorem c6_i39 : c6.li 39 = [] := rfl
@[go_sem] theorem c6_i40 : c6.li 40 = [11, 26] := rfl
@[go_sem] theorem c6_i41 : c6.li 41 = [11, 26, 28] := rfl
@[go_sem] theorem c6_i42 : c6.li 42 = [11, 26, 28] := rfl
@[go_sem] theorem c6_i43 : c6.li 43 = [11, 26, 28] := rfl
@[go_sem] theorem c6_i44 : c6.li 44 = [11, 26, 28, 29, 30] := rfl
@[go_sem] theorem c6_i45 : c6.li 45 = [] := rfl
@[go_sem] theorem c6_i46 : c6.li 46 = [] := rfl
@[go_sem] theorem c6_r0 (l0p : Option Addr) (l0n l0c : Nat) (keep1 : Int) (m2p : Option Addr) (m2n m2c : Nat) (K : Env → W) : RP c6 0 [(0, .slice l0p l0n l0c), (1, .int .i64 keep1), (2, .slice m2p m2n m2c)] K =
    (K [(0, .slice l0p l0n l0c), (1, .int .i64 keep1), (2, .slice m2p m2n m2c)]) := by kernel_rfl
@[go_sem] theorem c6_r1 (l0p : Option Addr) (l0n l0c : Nat) (keep1 : Int) (m2p : Option Addr) (m2n m2c : Nat) (K : Env → W) : RP c6 1 [(0, .slice l0p l0n l0c), (1, .int .i64 keep1), (2, .slice m2p m2n m2c)] K =
    (cal (eT2 eP eI) Tryz.prog 16 #[.int .i64 (31 : Int)] fun (y1_ : ((Option Addr) × Int)) => (K [(0, .slice l0p l0n l0c), (1, .int .i64 keep1), (2, .slice m2p m2n m2c), (7, .pointer y1_.1), (8, .int .i64 y1_.2)])) := by kernel_rfl
@[go_sem] theorem c6_r2 (l0p : Option Addr) (l0n l0c : Nat) (keep1 : Int) (m2p : Option Addr) (m2n m2c : Nat) (d7 : Option Addr) (e8 : Int) (K : Env → W) : RP c6 2 [(0, .slice l0p l0n l0c), (1, .int .i64 keep1), (2, .slice m2p m2n m2c), (7, .pointer d7), (8, .int .i64 e8)] K =
    (cnd ((e8 != (0 : Int))) (K [(0, .slice l0p l0n l0c), (1, .int .i64 keep1), (2, .slice m2p m2n m2c), (7, .pointer d7), (40, .bool true)]) (K [(0, .slice l0p l0n l0c), (1, .int .i64 keep1), (2, .slice m2p m2n m2c), (7, .pointer d7), (40, .bool ((d7).isNone))])) := by kernel_rfl
@[go_sem] theorem c6_r3 (K : Env → W) : RP c6 3 [] K =
    (K [(6, .bool false)]) := by kernel_rfl
@[go_sem] theorem c6_r4 (l0p : Option Addr) (l0n l0c : Nat) (keep1 : Int) (m2p : Option Addr) (m2n m2c : Nat) (d7 : Option Addr) (K : Env → W) : RP c6 4 [(0, .slice l0p l0n l0c), (1, .int .i64 keep1), (2, .slice m2p m2n m2c), (7, .pointer d7)] K =
    (cal (eT2 eP eI) Tryz.prog 17 #[.pointer d7, .int .i64 (1 : Int), .int .i64 (30 : Int), .int .i64 (1 : Int)] fun (y1_ : ((Option Addr) × Int)) => (K [(0, .slice l0p l0n l0c), (1, .int .i64 keep1), (2, .slice m2p m2n m2c), (7, .pointer d7), (9, .pointer y1_.1), (10, .int .i64 y1_.2)])) := by kernel_rfl
@[go_sem] theorem c6_r5 (l0p : Option Addr) (l0n l0c : Nat) (keep1 : Int) (m2p : Option Addr) (m2n m2c : Nat) (d7 : Option Addr) (w9 : Option Addr) (f10 : Int) (K : Env → W) : RP c6 5 [(0, .slice l0p l0n l0c), (1, .int .i64 keep1), (2, .slice m2p m2n m2c), (7, .pointer d7), (9, .pointer w9), (10, .int .i64 f10)] K =
    (cnd ((f10 != (0 : Int))) (K [(0, .slice l0p l0n l0c), (1, .int .i64 keep1), (2, .slice m2p m2n m2c), (7, .pointer d7), (9, .pointer w9), (51, .bool true)]) (K [(0, .slice l0p l0n l0c), (1, .int .i64 keep1), (2, .slice m2p m2n m2c), (7, .pointer d7), (9, .pointer w9), (51, .bool ((w9).isNone))])) := by kernel_rfl
@[go_sem] theorem c6_r6 (K : Env → W) : RP c6 6 [] K =
    (K [(6, .bool false)]) := by kernel_rfl
@[go_sem] theorem c6_r7 (l0p : Option Addr) (l0n l0c : Nat) (keep1 : Int) (m2p : Option Addr) (m2n m2c : Nat) (d7 : Option Addr) (w9 : Option Addr) (K : Env → W) : RP c6 7 [(0, .slice l0p l0n l0c), (1, .int .i64 keep1), (2, .slice m2p m2n m2c), (7, .pointer d7), (9, .pointer w9)] K =
    (K [(0, .slice l0p l0n l0c), (1, .int .i64 keep1), (2, .slice m2p m2n m2c), (7, .pointer d7), (9, .pointer w9), (11, .slice none 0 0)]) := by kernel_rfl
@[go_sem] theorem c6_r8 (l0p : Option Addr) (l0n l0c : Nat) (keep1 : Int) (m2p : Option Addr) (m2n m2c : Nat) (d7 : Option Addr) (w9 : Option Addr) (all11p : Option Addr) (all11n all11c : Nat) (K : Env → W) : RP c6 8 [(0, .slice l0p l0n l0c), (1, .int .i64 keep1), (2, .slice m2p m2n m2c), (7, .pointer d7), (9, .pointer w9), (11, .slice all11p all11n all11c)] K =
    (K [(0, .slice l0p l0n l0c), (1, .int .i64 keep1), (2, .slice m2p m2n m2c), (7, .pointer d7), (9, .pointer w9), (11, .slice all11p all11n all11c), (12, .int .i64 (1 : Int))]) := by kernel_rfl
@[go_sem] theorem c6_r9 (l0p : Option Addr) (l0n l0c : Nat) (keep1 : Int) (m2p : Option Addr) (m2n m2c : Nat) (d7 : Option Addr) (w9 : Option Addr) (all11p : Option Addr) (all11n all11c : Nat) (place12 : Int) (K : Env → W) : RP c6 9 [(0, .slice l0p l0n l0c), (1, .int .i64 keep1), (2, .slice m2p m2n m2c), (7, .pointer d7), (9, .pointer w9), (11, .slice all11p all11n all11c), (12, .int .i64 place12)] K =
    (K [(0, .slice l0p l0n l0c), (1, .int .i64 keep1), (2, .slice m2p m2n m2c), (7, .pointer d7), (9, .pointer w9), (11, .slice all11p all11n all11c), (12, .int .i64 place12), (13, .int .i64 (0 : Int))]) := by kernel_rfl
@[go_sem] theorem c6_r10 (l0p : Option Addr) (l0n l0c : Nat) (keep1 : Int) (m2p : Option Addr) (m2n m2c : Nat) (d7 : Option Addr) (w9 : Option Addr) (all11p : Option Addr) (all11n all11c : Nat) (place12 : Int) (i13 : Int) (K : Env → W) : RP c6 10 [(0, .slice l0p l0n l0c), (1, .int .i64 keep1), (2, .slice m2p m2n m2c), (7, .pointer d7), (9, .pointer w9), (11, .slice all11p all11n all11c), (12, .int .i64 place12), (13, .int .i64 i13)] K =
    (cnd ((decide (i13 < (l0n : Int)))) (K [(0, .slice l0p l0n l0c), (1, .int .i64 keep1), (2, .slice m2p m2n m2c), (7, .pointer d7), (9, .pointer w9), (11, .slice all11p all11n all11c), (12, .int .i64 place12), (13, .int .i64 i13), (59, .bool ((decide (i13 < (15 : Int)))))]) (K [(0, .slice l0p l0n l0c), (1, .int .i64 keep1), (2, .slice m2p m2n m2c), (7, .pointer d7), (9, .pointer w9), (11, .slice all11p all11n all11c), (12, .int .i64 place12), (13, .int .i64 i13), (59, .bool false)])) := by kernel_rfl
@[go_sem] theorem c6_r11 (l0p : Option Addr) (l0n l0c : Nat) (keep1 : Int) (m2p : Option Addr) (m2n m2c : Nat) (d7 : Option Addr) (w9 : Option Addr) (all11p : Option Addr) (all11n all11c : Nat) (place12 : Int) (i13 : Int) (K : Env → W) : RP c6 11 [(0, .slice l0p l0n l0c), (1, .int .i64 keep1), (2, .slice m2p m2n m2c), (7, .pointer d7), (9, .pointer w9), (11, .slice all11p all11n all11c), (12, .int .i64 place12), (13, .int .i64 i13)] K =
    (K [(0, .slice l0p l0n l0c), (1, .int .i64 keep1), (2, .slice m2p m2n m2c), (7, .pointer d7), (9, .pointer w9), (11, .slice all11p all11n all11c), (12, .int .i64 place12), (13, .int .i64 ((IntKind.wrap .i64 (i13 + (1 : Int)))))]) := by kernel_rfl
@[go_sem] theorem c6_r12 (l0p : Option Addr) (l0n l0c : Nat) (keep1 : Int) (m2p : Option Addr) (m2n m2c : Nat) (d7 : Option Addr) (w9 : Option Addr) (all11p : Option Addr) (all11n all11c : Nat) (place12 : Int) (i13 : Int) (K : Env → W) : RP c6 12 [(0, .slice l0p l0n l0c), (1, .int .i64 keep1), (2, .slice m2p m2n m2c), (7, .pointer d7), (9, .pointer w9), (11, .slice all11p all11n all11c), (12, .int .i64 place12), (13, .int .i64 i13)] K =
    (rq (0 ≤ i13 ∧ i13 < (l0n : Int)) (nn l0p fun y1_ => (ldn e_api_Rec 13 ((Addr.add y1_ ((i13).toNat * 13))) fun (y2_ : api_Rec) => (cal e_api_Rec Tryz.prog 19 #[v_api_Rec y2_] fun (y3_ : api_Rec) => (cal (eT2 eS eI) Tryz.prog 18 #[v_api_Rec y3_] fun (y4_ : ((List UInt8) × Int)) => (K [(0, .slice l0p l0n l0c), (1, .int .i64 keep1), (2, .slice m2p m2n m2c), (7, .pointer d7), (9, .pointer w9), (11, .slice all11p all11n all11c), (12, .int .i64 place12), (13, .int .i64 i13), (14, str y4_.1), (15, .int .i64 y4_.2)])))))) := by kernel_rfl
@[go_sem] theorem c6_r13 (l0p : Option Addr) (l0n l0c : Nat) (keep1 : Int) (m2p : Option Addr) (m2n m2c : Nat) (d7 : Option Addr) (w9 : Option Addr) (all11p : Option Addr) (all11n all11c : Nat) (place12 : Int) (i13 : Int) (s14 : List UInt8) (g15 : Int) (K : Env → W) : RP c6 13 [(0, .slice l0p l0n l0c), (1, .int .i64 keep1), (2, .slice m2p m2n m2c), (7, .pointer d7), (9, .pointer w9), (11, .slice all11p all11n all11c), (12, .int .i64 place12), (13, .int .i64 i13), (14, str s14), (15, .int .i64 g15)] K =
    (rq (0 ≤ i13 ∧ i13 < (l0n : Int)) (nn l0p fun y1_ => (ldn e_api_Rec 13 ((Addr.add y1_ ((i13).toNat * 13))) fun (y2_ : api_Rec) => (cal e_api_Rec Tryz.prog 19 #[v_api_Rec y2_] fun (y3_ : api_Rec) => (cal (eT2 eI eI) Tryz.prog 20 #[.pointer w9, v_api_Rec y3_] fun (y4_ : (Int × Int)) => (K [(0, .slice l0p l0n l0c), (1, .int .i64 keep1), (2, .slice m2p m2n m2c), (7, .pointer d7), (9, .pointer w9), (11, .slice all11p all11n all11c), (12, .int .i64 place12), (13, .int .i64 i13), (14, str s14), (15, .int .i64 g15), (17, .int .i64 y4_.2)])))))) := by kernel_rfl
@[go_sem] theorem c6_r14 (l0p : Option Addr) (l0n l0c : Nat) (keep1 : Int) (m2p : Option Addr) (m2n m2c : Nat) (d7 : Option Addr) (w9 : Option Addr) (all11p : Option Addr) (all11n all11c : Nat) (place12 : Int) (i13 : Int) (s14 : List UInt8) (g15 : Int) (h17 : Int) (K : Env → W) : RP c6 14 [(0, .slice l0p l0n l0c), (1, .int .i64 keep1), (2, .slice m2p m2n m2c), (7, .pointer d7), (9, .pointer w9), (11, .slice all11p all11n all11c), (12, .int .i64 place12), (13, .int .i64 i13), (14, str s14), (15, .int .i64 g15), (17, .int .i64 h17)] K =
    (cnd ((g15 == (0 : Int))) (K [(0, .slice l0p l0n l0c), (1, .int .i64 keep1), (2, .slice m2p m2n m2c), (7, .pointer d7), (9, .pointer w9), (11, .slice all11p all11n all11c), (12, .int .i64 place12), (13, .int .i64 i13), (14, str s14), (86, .bool ((h17 == (0 : Int))))]) (K [(0, .slice l0p l0n l0c), (1, .int .i64 keep1), (2, .slice m2p m2n m2c), (7, .pointer d7), (9, .pointer w9), (11, .slice all11p all11n all11c), (12, .int .i64 place12), (13, .int .i64 i13), (14, str s14), (86, .bool false)])) := by kernel_rfl
@[go_sem] theorem c6_r15 (l0p : Option Addr) (l0n l0c : Nat) (keep1 : Int) (m2p : Option Addr) (m2n m2c : Nat) (d7 : Option Addr) (w9 : Option Addr) (all11p : Option Addr) (all11n all11c : Nat) (place12 : Int) (i13 : Int) (s14 : List UInt8) (K : Env → W) : RP c6 15 [(0, .slice l0p l0n l0c), (1, .int .i64 keep1), (2, .slice m2p m2n m2c), (7, .pointer d7), (9, .pointer w9), (11, .slice all11p all11n all11c), (12, .int .i64 place12), (13, .int .i64 i13), (14, str s14)] K =
    (nwc #[str s14] 9 fun y1_ => (val eSl Tryz.prog (oB_append #[44, 44] 44 #[.slice all11p all11n all11c, .slice ((some y1_)) 1 1]) fun (y2_ : (Option Addr × Nat × Nat)) => (K [(0, .slice l0p l0n l0c), (1, .int .i64 keep1), (2, .slice m2p m2n m2c), (7, .pointer d7), (9, .pointer w9), (11, .slice y2_.1 y2_.2.1 y2_.2.2), (12, .int .i64 place12), (13, .int .i64 i13)]))) := by kernel_rfl
@[go_sem] theorem c6_r16 (keep1 : Int) (m2p : Option Addr) (m2n m2c : Nat) (d7 : Option Addr) (w9 : Option Addr) (all11p : Option Addr) (all11n all11c : Nat) (place12 : Int) (K : Env → W) : RP c6 16 [(1, .int .i64 keep1), (2, .slice m2p m2n m2c), (7, .pointer d7), (9, .pointer w9), (11, .slice all11p all11n all11c), (12, .int .i64 place12)] K =
    (cal eI Tryz.prog 21 #[.pointer w9] fun (y1_ : Int) => (cnd ((y1_ != (0 : Int))) (K [(1, .int .i64 keep1), (2, .slice m2p m2n m2c), (7, .pointer d7), (9, .pointer w9), (11, .slice all11p all11n all11c), (12, .int .i64 place12), (103, .bool true)]) (cnd ((decide (keep1 < (0 : Int)))) (K [(1, .int .i64 keep1), (2, .slice m2p m2n m2c), (7, .pointer d7), (9, .pointer w9), (11, .slice all11p all11n all11c), (12, .int .i64 place12), (103, .bool true)]) (K [(1, .int .i64 keep1), (2, .slice m2p m2n m2c), (7, .pointer d7), (9, .pointer w9), (11, .slice all11p all11n all11c), (12, .int .i64 place12), (103, .bool ((decide ((all11n : Int) < keep1))))])))) := by kernel_rfl
@[go_sem] theorem c6_r17 (K : Env → W) : RP c6 17 [] K =
    (cal eB Tryz.prog 15 #[] fun (y1_ : Bool) => (K [(6, .bool y1_)])) := by kernel_rfl
@[go_sem] theorem c6_r18 (keep1 : Int) (m2p : Option Addr) (m2n m2c : Nat) (d7 : Option Addr) (w9 : Option Addr) (all11p : Option Addr) (all11n all11c : Nat) (place12 : Int) (K : Env → W) : RP c6 18 [(1, .int .i64 keep1), (2, .slice m2p m2n m2c), (7, .pointer d7), (9, .pointer w9), (11, .slice all11p all11n all11c), (12, .int .i64 place12)] K =
    (rq (0 ≤ (0 : Int) ∧ 0 ≤ keep1 ∧ keep1 ≤ (all11c : Int)) (K [(2, .slice m2p m2n m2c), (7, .pointer d7), (9, .pointer w9), (11, .slice ((slp all11p 0 (all11c : Int) 1)) (((keep1).toNat - (0 : Int).toNat)) ((((all11c : Int)).toNat - (0 : Int).toNat))), (12, .int .i64 place12)])) := by kernel_rfl
@[go_sem] theorem c6_r19 (m2p : Option Addr) (m2n m2c : Nat) (d7 : Option Addr) (w9 : Option Addr) (all11p : Option Addr) (all11n all11c : Nat) (place12 : Int) (K : Env → W) : RP c6 19 [(2, .slice m2p m2n m2c), (7, .pointer d7), (9, .pointer w9), (11, .slice all11p all11n all11c), (12, .int .i64 place12)] K =
    (K [(2, .slice m2p m2n m2c), (7, .pointer d7), (9, .pointer w9), (11, .slice all11p all11n all11c), (12, .int .i64 place12), (18, .int .i64 (0 : Int))]) := by kernel_rfl
@[go_sem] theorem c6_r20 (m2p : Option Addr) (m2n m2c : Nat) (d7 : Option Addr) (w9 : Option Addr) (all11p : Option Addr) (all11n all11c : Nat) (place12 : Int) (i18 : Int) (K : Env → W) : RP c6 20 [(2, .slice m2p m2n m2c), (7, .pointer d7), (9, .pointer w9), (11, .slice all11p all11n all11c), (12, .int .i64 place12), (18, .int .i64 i18)] K =
    (K [(2, .slice m2p m2n m2c), (7, .pointer d7), (9, .pointer w9), (11, .slice all11p all11n all11c), (12, .int .i64 place12), (18, .int .i64 i18), (111, .bool ((decide (i18 < (all11n : Int)))))]) := by kernel_rfl
@[go_sem] theorem c6_r21 (m2p : Option Addr) (m2n m2c : Nat) (d7 : Option Addr) (w9 : Option Addr) (all11p : Option Addr) (all11n all11c : Nat) (place12 : Int) (i18 : Int) (K : Env → W) : RP c6 21 [(2, .slice m2p m2n m2c), (7, .pointer d7), (9, .pointer w9), (11, .slice all11p all11n all11c), (12, .int .i64 place12), (18, .int .i64 i18)] K =
    (K [(2, .slice m2p m2n m2c), (7, .pointer d7), (9, .pointer w9), (11, .slice all11p all11n all11c), (12, .int .i64 place12), (18, .int .i64 ((IntKind.wrap .i64 (i18 + (1 : Int)))))]) := by kernel_rfl
@[go_sem] theorem c6_r22 (m2p : Option Addr) (m2n m2c : Nat) (d7 : Option Addr) (w9 : Option Addr) (all11p : Option Addr) (all11n all11c : Nat) (place12 : Int) (i18 : Int) (K : Env → W) : RP c6 22 [(2, .slice m2p m2n m2c), (7, .pointer d7), (9, .pointer w9), (11, .slice all11p all11n all11c), (12, .int .i64 place12), (18, .int .i64 i18)] K =
    (rq (0 ≤ i18 ∧ i18 < (all11n : Int)) (nn all11p fun y1_ => (ld eS ((Addr.add y1_ ((i18).toNat * 1))) fun (y2_ : List UInt8) => (K [(2, .slice m2p m2n m2c), (7, .pointer d7), (9, .pointer w9), (11, .slice all11p all11n all11c), (12, .int .i64 ((IntKind.wrap .i64 (place12 + ((y2_).length : Int))))), (18, .int .i64 i18)])))) := by kernel_rfl
@[go_sem] theorem c6_r23 (m2p : Option Addr) (m2n m2c : Nat) (d7 : Option Addr) (w9 : Option Addr) (all11p : Option Addr) (all11n all11c : Nat) (place12 : Int) (K : Env → W) : RP c6 23 [(2, .slice m2p m2n m2c), (7, .pointer d7), (9, .pointer w9), (11, .slice all11p all11n all11c), (12, .int .i64 place12)] K =
    (cal eI Tryz.prog 33 #[.pointer w9, .int .i64 place12, .int .i64 (2 : Int)] fun (y1_ : Int) => (K [(2, .slice m2p m2n m2c), (7, .pointer d7), (9, .pointer w9), (11, .slice all11p all11n all11c), (124, .bool ((y1_ != (0 : Int))))])) := by kernel_rfl
@[go_sem] theorem c6_r24 (K : Env → W) : RP c6 24 [] K =
    (K [(6, .bool false)]) := by kernel_rfl
@[go_sem] theorem c6_r25 (m2p : Option Addr) (m2n m2c : Nat) (d7 : Option Addr) (w9 : Option Addr) (all11p : Option Addr) (all11n all11c : Nat) (K : Env → W) : RP c6 25 [(2, .slice m2p m2n m2c), (7, .pointer d7), (9, .pointer w9), (11, .slice all11p all11n all11c)] K =
    (K [(2, .slice m2p m2n m2c), (7, .pointer d7), (9, .pointer w9), (11, .slice all11p all11n all11c), (19, .int .i64 (0 : Int))]) := by kernel_rfl
@[go_sem] theorem c6_r26 (m2p : Option Addr) (m2n m2c : Nat) (d7 : Option Addr) (w9 : Option Addr) (all11p : Option Addr) (all11n all11c : Nat) (i19 : Int) (K : Env → W) : RP c6 26 [(2, .slice m2p m2n m2c), (7, .pointer d7), (9, .pointer w9), (11, .slice all11p all11n all11c), (19, .int .i64 i19)] K =
    (cnd ((decide (i19 < (m2n : Int)))) (K [(2, .slice m2p m2n m2c), (7, .pointer d7), (9, .pointer w9), (11, .slice all11p all11n all11c), (19, .int .i64 i19), (132, .bool ((decide (i19 < (15 : Int)))))]) (K [(2, .slice m2p m2n m2c), (7, .pointer d7), (9, .pointer w9), (11, .slice all11p all11n all11c), (19, .int .i64 i19), (132, .bool false)])) := by kernel_rfl
@[go_sem] theorem c6_r27 (m2p : Option Addr) (m2n m2c : Nat) (d7 : Option Addr) (w9 : Option Addr) (all11p : Option Addr) (all11n all11c : Nat) (i19 : Int) (K : Env → W) : RP c6 27 [(2, .slice m2p m2n m2c), (7, .pointer d7), (9, .pointer w9), (11, .slice all11p all11n all11c), (19, .int .i64 i19)] K =
    (K [(2, .slice m2p m2n m2c), (7, .pointer d7), (9, .pointer w9), (11, .slice all11p all11n all11c), (19, .int .i64 ((IntKind.wrap .i64 (i19 + (1 : Int)))))]) := by kernel_rfl
@[go_sem] theorem c6_r28 (m2p : Option Addr) (m2n m2c : Nat) (d7 : Option Addr) (w9 : Option Addr) (all11p : Option Addr) (all11n all11c : Nat) (i19 : Int) (K : Env → W) : RP c6 28 [(2, .slice m2p m2n m2c), (7, .pointer d7), (9, .pointer w9), (11, .slice all11p all11n all11c), (19, .int .i64 i19)] K =
    (rq (0 ≤ i19 ∧ i19 < (m2n : Int)) (nn m2p fun y1_ => (ldn e_api_Rec 13 ((Addr.add y1_ ((i19).toNat * 13))) fun (y2_ : api_Rec) => (cal e_api_Rec Tryz.prog 19 #[v_api_Rec y2_] fun (y3_ : api_Rec) => (cal (eT2 eS eI) Tryz.prog 18 #[v_api_Rec y3_] fun (y4_ : ((List UInt8) × Int)) => (K [(2, .slice m2p m2n m2c), (7, .pointer d7), (9, .pointer w9), (11, .slice all11p all11n all11c), (19, .int .i64 i19), (20, str y4_.1), (21, .int .i64 y4_.2)])))))) := by kernel_rfl
@[go_sem] theorem c6_r29 (m2p : Option Addr) (m2n m2c : Nat) (d7 : Option Addr) (w9 : Option Addr) (all11p : Option Addr) (all11n all11c : Nat) (i19 : Int) (s20 : List UInt8) (g21 : Int) (K : Env → W) : RP c6 29 [(2, .slice m2p m2n m2c), (7, .pointer d7), (9, .pointer w9), (11, .slice all11p all11n all11c), (19, .int .i64 i19), (20, str s20), (21, .int .i64 g21)] K =
    (rq (0 ≤ i19 ∧ i19 < (m2n : Int)) (nn m2p fun y1_ => (ldn e_api_Rec 13 ((Addr.add y1_ ((i19).toNat * 13))) fun (y2_ : api_Rec) => (cal e_api_Rec Tryz.prog 19 #[v_api_Rec y2_] fun (y3_ : api_Rec) => (cal (eT2 eI eI) Tryz.prog 20 #[.pointer w9, v_api_Rec y3_] fun (y4_ : (Int × Int)) => (K [(2, .slice m2p m2n m2c), (7, .pointer d7), (9, .pointer w9), (11, .slice all11p all11n all11c), (19, .int .i64 i19), (20, str s20), (21, .int .i64 g21), (23, .int .i64 y4_.2)])))))) := by kernel_rfl
@[go_sem] theorem c6_r30 (m2p : Option Addr) (m2n m2c : Nat) (d7 : Option Addr) (w9 : Option Addr) (all11p : Option Addr) (all11n all11c : Nat) (i19 : Int) (s20 : List UInt8) (g21 : Int) (h23 : Int) (K : Env → W) : RP c6 30 [(2, .slice m2p m2n m2c), (7, .pointer d7), (9, .pointer w9), (11, .slice all11p all11n all11c), (19, .int .i64 i19), (20, str s20), (21, .int .i64 g21), (23, .int .i64 h23)] K =
    (cnd ((g21 == (0 : Int))) (K [(2, .slice m2p m2n m2c), (7, .pointer d7), (9, .pointer w9), (11, .slice all11p all11n all11c), (19, .int .i64 i19), (20, str s20), (159, .bool ((h23 == (0 : Int))))]) (K [(2, .slice m2p m2n m2c), (7, .pointer d7), (9, .pointer w9), (11, .slice all11p all11n all11c), (19, .int .i64 i19), (20, str s20), (159, .bool false)])) := by kernel_rfl
@[go_sem] theorem c6_r31 (m2p : Option Addr) (m2n m2c : Nat) (d7 : Option Addr) (w9 : Option Addr) (all11p : Option Addr) (all11n all11c : Nat) (i19 : Int) (s20 : List UInt8) (K : Env → W) : RP c6 31 [(2, .slice m2p m2n m2c), (7, .pointer d7), (9, .pointer w9), (11, .slice all11p all11n all11c), (19, .int .i64 i19), (20, str s20)] K =
    (nwc #[str s20] 9 fun y1_ => (val eSl Tryz.prog (oB_append #[44, 44] 44 #[.slice all11p all11n all11c, .slice ((some y1_)) 1 1]) fun (y2_ : (Option Addr × Nat × Nat)) => (K [(2, .slice m2p m2n m2c), (7, .pointer d7), (9, .pointer w9), (11, .slice y2_.1 y2_.2.1 y2_.2.2), (19, .int .i64 i19)]))) := by kernel_rfl
@[go_sem] theorem c6_r32 (d7 : Option Addr) (w9 : Option Addr) (all11p : Option Addr) (all11n all11c : Nat) (K : Env → W) : RP c6 32 [(7, .pointer d7), (9, .pointer w9), (11, .slice all11p all11n all11c)] K =
    (cal eI Tryz.prog 21 #[.pointer w9] fun (y1_ : Int) => (K [(7, .pointer d7), (11, .slice all11p all11n all11c), (166, .bool ((y1_ != (0 : Int))))])) := by kernel_rfl
@[go_sem] theorem c6_r33 (K : Env → W) : RP c6 33 [] K =
    (K [(6, .bool false)]) := by kernel_rfl
@[go_sem] theorem c6_r34 (d7 : Option Addr) (all11p : Option Addr) (all11n all11c : Nat) (K : Env → W) : RP c6 34 [(7, .pointer d7), (11, .slice all11p all11n all11c)] K =
    (cal (eT2 eP eI) Tryz.prog 17 #[.pointer d7, .int .i64 (1 : Int), .int .i64 (30 : Int), .int .i64 (3 : Int)] fun (y1_ : ((Option Addr) × Int)) => (K [(11, .slice all11p all11n all11c), (24, .pointer y1_.1), (25, .int .i64 y1_.2)])) := by kernel_rfl
@[go_sem] theorem c6_r35 (all11p : Option Addr) (all11n all11c : Nat) (x24 : Option Addr) (g25 : Int) (K : Env → W) : RP c6 35 [(11, .slice all11p all11n all11c), (24, .pointer x24), (25, .int .i64 g25)] K =
    (cnd ((g25 != (0 : Int))) (K [(11, .slice all11p all11n all11c), (24, .pointer x24), (177, .bool true)]) (K [(11, .slice all11p all11n all11c), (24, .pointer x24), (177, .bool ((x24).isNone))])) := by kernel_rfl
@[go_sem] theorem c6_r36 (K : Env → W) : RP c6 36 [] K =
    (K [(6, .bool false)]) := by kernel_rfl
@[go_sem] theorem c6_r37 (all11p : Option Addr) (all11n all11c : Nat) (x24 : Option Addr) (K : Env → W) : RP c6 37 [(11, .slice all11p all11n all11c), (24, .pointer x24)] K =
    (cal (eT2 eSl eSl) Tryz.prog 25 #[.pointer x24] fun (y1_ : ((Option Addr × Nat × Nat) × (Option Addr × Nat × Nat))) => (K [(11, .slice all11p all11n all11c), (26, .slice y1_.1.1 y1_.1.2.1 y1_.1.2.2)])) := by kernel_rfl
@[go_sem] theorem c6_r38 (all11p : Option Addr) (all11n all11c : Nat) (r26p : Option Addr) (r26n r26c : Nat) (K : Env → W) : RP c6 38 [(11, .slice all11p all11n all11c), (26, .slice r26p r26n r26c)] K =
    (K [(11, .slice all11p all11n all11c), (26, .slice r26p r26n r26c), (187, .bool (((r26n : Int) != (all11n : Int))))]) := by kernel_rfl
@[go_sem] theorem c6_r39 (K : Env → W) : RP c6 39 [] K =
    (K [(6, .bool false)]) := by kernel_rfl
@[go_sem] theorem c6_r40 (all11p : Option Addr) (all11n all11c : Nat) (r26p : Option Addr) (r26n r26c : Nat) (K : Env → W) : RP c6 40 [(11, .slice all11p all11n all11c), (26, .slice r26p r26n r26c)] K =
    (K [(11, .slice all11p all11n all11c), (26, .slice r26p r26n r26c), (28, .int .i64 (0 : Int))]) := by kernel_rfl
@[go_sem] theorem c6_r41 (all11p : Option Addr) (all11n all11c : Nat) (r26p : Option Addr) (r26n r26c : Nat) (i28 : Int) (K : Env → W) : RP c6 41 [(11, .slice all11p all11n all11c), (26, .slice r26p r26n r26c), (28, .int .i64 i28)] K =
    (K [(11, .slice all11p all11n all11c), (26, .slice r26p r26n r26c), (28, .int .i64 i28), (191, .bool ((decide (i28 < (r26n : Int)))))]) := by kernel_rfl
@[go_sem] theorem c6_r42 (all11p : Option Addr) (all11n all11c : Nat) (r26p : Option Addr) (r26n r26c : Nat) (i28 : Int) (K : Env → W) : RP c6 42 [(11, .slice all11p all11n all11c), (26, .slice r26p r26n r26c), (28, .int .i64 i28)] K =
    (K [(11, .slice all11p all11n all11c), (26, .slice r26p r26n r26c), (28, .int .i64 ((IntKind.wrap .i64 (i28 + (1 : Int)))))]) := by kernel_rfl
@[go_sem] theorem c6_r43 (all11p : Option Addr) (all11n all11c : Nat) (r26p : Option Addr) (r26n r26c : Nat) (i28 : Int) (K : Env → W) : RP c6 43 [(11, .slice all11p all11n all11c), (26, .slice r26p r26n r26c), (28, .int .i64 i28)] K =
    (rq (0 ≤ i28 ∧ i28 < (r26n : Int)) (nn r26p fun y1_ => (ldn e_api_Rec 13 ((Addr.add y1_ ((i28).toNat * 13))) fun (y2_ : api_Rec) => (cal (eT2 eS eI) Tryz.prog 18 #[v_api_Rec y2_] fun (y3_ : ((List UInt8) × Int)) => (K [(11, .slice all11p all11n all11c), (26, .slice r26p r26n r26c), (28, .int .i64 i28), (29, str y3_.1), (30, .int .i64 y3_.2)]))))) := by kernel_rfl
@[go_sem] theorem c6_r44 (all11p : Option Addr) (all11n all11c : Nat) (r26p : Option Addr) (r26n r26c : Nat) (i28 : Int) (s29 : List UInt8) (h30 : Int) (K : Env → W) : RP c6 44 [(11, .slice all11p all11n all11c), (26, .slice r26p r26n r26c), (28, .int .i64 i28), (29, str s29), (30, .int .i64 h30)] K =
    (cnd ((h30 != (0 : Int))) (K [(11, .slice all11p all11n all11c), (26, .slice r26p r26n r26c), (28, .int .i64 i28), (211, .bool true)]) (rq (0 ≤ i28 ∧ i28 < (all11n : Int)) (nn all11p fun y1_ => (ld eS ((Addr.add y1_ ((i28).toNat * 1))) fun (y2_ : List UInt8) => (K [(11, .slice all11p all11n all11c), (26, .slice r26p r26n r26c), (28, .int .i64 i28), (211, .bool ((!(s29 == y2_))))]))))) := by kernel_rfl
@[go_sem] theorem c6_r45 (K : Env → W) : RP c6 45 [] K =
    (K [(6, .bool false)]) := by kernel_rfl
@[go_sem] theorem c6_r46 (K : Env → W) : RP c6 46 [] K =
    (cal eB Tryz.prog 15 #[] fun (y1_ : Bool) => (K [(6, .bool y1_)])) := by kernel_rfl
@[go_sem] theorem c6_o : c6.lo 1000000 = [6] := rfl
@[go_sem] theorem c6_e (t6 : Bool) (k : Value → W) : RTp c6 [(6, .bool t6)] k = (k (.bool t6)) := by kernel_rfl
theorem c6_ok : (c6.P.follows .mixedOrders && okc c6 c6.body) = true := by kernel_rfl
theorem c6_fn {e : Enc} {args : Array Value} {G : e.α → W} {L : List HP} {ρ : Env} (hρ : envA 0 args.toList = ρ) (hs : Nat.ble args.size 213 = true) (h : E L (D c6 (.seq (.reg 0) (.seq (.reg 1) (.seq (.seq (.reg 2) (.cond (.tmp 40) (.seq (.reg 3) (.ret)) (.skip))) (.seq (.reg 4) (.seq (.seq (.reg 5) (.cond (.tmp 51) (.seq (.reg 6) (.ret)) (.skip))) (.seq (.reg 7) (.seq (.reg 8) (.seq (.seq (.reg 9) (.block 0 (.loop (.seq (.seq (.reg 10) (.cond (.tmp 59) (.skip) (.exit 0))) (.seq (.block 1 (.seq (.reg 12) (.seq (.reg 13) (.seq (.reg 14) (.cond (.tmp 86) (.reg 15) (.skip)))))) (.reg 11)))))) (.seq (.seq (.reg 16) (.cond (.tmp 103) (.seq (.reg 17) (.ret)) (.skip))) (.seq (.reg 18) (.seq (.seq (.reg 19) (.block 2 (.loop (.seq (.seq (.reg 20) (.cond (.tmp 111) (.skip) (.exit 2))) (.seq (.block 3 (.reg 22)) (.reg 21)))))) (.seq (.seq (.reg 23) (.cond (.tmp 124) (.seq (.reg 24) (.ret)) (.skip))) (.seq (.seq (.reg 25) (.block 4 (.loop (.seq (.seq (.reg 26) (.cond (.tmp 132) (.skip) (.exit 4))) (.seq (.block 5 (.seq (.reg 28) (.seq (.reg 29) (.seq (.reg 30) (.cond (.tmp 159) (.reg 31) (.skip)))))) (.reg 27)))))) (.seq (.seq (.reg 32) (.cond (.tmp 166) (.seq (.reg 33) (.ret)) (.skip))) (.seq (.reg 34) (.seq (.seq (.reg 35) (.cond (.tmp 177) (.seq (.reg 36) (.ret)) (.skip))) (.seq (.reg 37) (.seq (.seq (.reg 38) (.cond (.tmp 187) (.seq (.reg 39) (.ret)) (.skip))) (.seq (.seq (.reg 40) (.block 6 (.loop (.seq (.seq (.reg 41) (.cond (.tmp 191) (.skip) (.exit 6))) (.seq (.block 7 (.seq (.reg 43) (.seq (.reg 44) (.cond (.tmp 211) (.seq (.reg 45) (.ret)) (.skip))))) (.reg 42)))))) (.seq (.reg 46) (.ret))))))))))))))))))))) (fnQ c6 e G) ρ)) : E L (cal e Tryz.prog 6 args G) :=
  d_fn (c := c6) Tryz.func6 (by kernel_rfl) (by kernel_rfl) (by kernel_rfl) c6_ok (by kernel_rfl) (by kernel_rfl) hρ hs h
-- loop (first region 41): live slots 11:all11 26:r26 28:i28, of which it writes [28]
-- loop (first region 26): live slots 2:m2 7:d7 9:w9 11:all11 19:i19, of which it writes [11, 19]
-- loop (first region 20): live slots 2:m2 7:d7 9:w9 11:all11 12:place12 18:i18, of which it writes [12, 18]
-- loop (first region 10): live slots 0:l0 1:keep1 2:m2 7:d7 9:w9 11:all11 12:place12 13:i13, of which it writes [11, 13]
end Go.Sp
/- The log's layer: the law WalStale. -/
namespace Go.Sp
open Go Go.Proofs
set_option linter.unusedSimpArgs false
set_option linter.unusedVariables false
set_option maxRecDepth 10000
abbrev l1 (q d : Nat) (r : Nat) (ps : PS) : Lg := ⟨q, 1, 30, r, flat ps, d, false⟩
set_option maxHeartbeats 4000000 in
theorem g6 (A : HP) (s u : SlV) (rs ms : List api_Rec) (keep : Int) (hR : Rs A s 13 (rs.flatMap rcl)) (hok : ∀ x ∈ rs, RcOk A x) (hM : Rs A u 13 (ms.flatMap rcl)) (hmk : ∀ x ∈ ms, RcOk A x) : Fp eB Tryz.prog 6 #[.slice s.1 s.2.1 s.2.2, .int .i64 keep, .slice u.1 u.2.1 u.2.2] [A] true := fun L => by
  obtain ⟨p, n, c⟩ := s
  obtain ⟨mp', mn, mc⟩ := u
  obtain rfl : n = rs.length := hR.len rcl_len (by decide)
  obtain rfl : mn = ms.length := hM.len rcl_len (by decide)
  refine c6_fn rfl rfl ?_
  repeat' ((fail_if_success with_reducible refine nph ?_); first | (with_reducible first | (refine d_seq ?_; intro K hK) | (refine hK _ _ ?_; clear hK K) | refine d_blk ?_ | refine d_rt0 ?_ | refine d_sk0 ?_ | refine d_ex0 ?_ | (refine r_nwc ?_; intro b)) | (first | ((with_reducible refine d_cnd ?_); refine And.intro ?_ ?_) | with_reducible refine r_cnd ?_ ?_) <;> intro hc <;> try simp only [push_cast, Int.reduceEq, Int.reduceLT, Int.reduceLE, Int.reduceNe] at hc | with_reducible refine r_rq (by first | decide | omega) ?_ | ((with_reducible first | apply i_lds | apply i_ldsq | apply i_ld | apply i_ldq); exact rfl) | ((with_reducible first | apply i_ldn | apply i_ldnq); exact rfl; exact rfl; exact rfl) | (with_reducible first | refine r_ph0 ?_ | apply i_kp0) | ((with_reducible first | apply i_st | apply i_stl); (focus simp); exact rfl) | ((try with_reducible refine d_reg ?_); simp only [go_sem, Nat.reduceAdd, Nat.reduceEqDiff, Int.reduceToNat, Nat.reduceMul, Nat.reduceSub]) | clear hK K)
  refine i_cal (F25 31 (by decide) (by decide)) ?_
  rintro y X ⟨sb, bb, mb, rfl, rfl⟩
  have hc0 : (Dk.new sb bb mb 31).calm sb 31 := Dk.calm.new (by decide) (by decide)
  have hz : ∀ m, m < 30 → at4 ((Dk.new sb bb mb 31).get ((1 + m : Nat) : Int)) = 0 := fun m hm => by rw [new_get (by omega)]; exact at4_nil
  generalize Dk.new sb bb mb 31 = Z at *
  repeat' ((fail_if_success with_reducible refine nph ?_); first | (with_reducible first | (refine d_seq ?_; intro K hK) | (refine hK _ _ ?_; clear hK K) | refine d_blk ?_ | refine d_rt0 ?_ | refine d_sk0 ?_ | refine d_ex0 ?_ | (refine r_nwc ?_; intro b)) | (first | ((with_reducible refine d_cnd ?_); refine And.intro ?_ ?_) | with_reducible refine r_cnd ?_ ?_) <;> intro hc <;> try simp only [push_cast, Int.reduceEq, Int.reduceLT, Int.reduceLE, Int.reduceNe] at hc | with_reducible refine r_rq (by first | decide | omega) ?_ | ((with_reducible first | apply i_lds | apply i_ldsq | apply i_ld | apply i_ldq); exact rfl) | ((with_reducible first | apply i_ldn | apply i_ldnq); exact rfl; exact rfl; exact rfl) | (with_reducible first | refine r_ph0 ?_ | apply i_kp0) | ((with_reducible first | apply i_st | apply i_stl); (focus simp); exact rfl) | ((try with_reducible refine d_reg ?_); simp only [go_sem, Nat.reduceAdd, Nat.reduceEqDiff, Int.reduceToNat, Nat.reduceMul, Nat.reduceSub]) | clear hK K)
  all_goals try contradiction
  refine i_cal (wopen0 hc0 hz (by decide) (by decide) (by decide) (by decide : 1 ≤ 1) (by decide)) ?_
  rintro y X ⟨q, Y, ρ, rfl, rfl, hW, hE⟩
  repeat' ((fail_if_success with_reducible refine nph ?_); first | (with_reducible first | (refine d_seq ?_; intro K hK) | (refine hK _ _ ?_; clear hK K) | refine d_blk ?_ | refine d_rt0 ?_ | refine d_sk0 ?_ | refine d_ex0 ?_ | (refine r_nwc ?_; intro b)) | (first | ((with_reducible refine d_cnd ?_); refine And.intro ?_ ?_) | with_reducible refine r_cnd ?_ ?_) <;> intro hc <;> try simp only [push_cast, Int.reduceEq, Int.reduceLT, Int.reduceLE, Int.reduceNe] at hc | with_reducible refine r_rq (by first | decide | omega) ?_ | ((with_reducible first | apply i_lds | apply i_ldsq | apply i_ld | apply i_ldq); exact rfl) | ((with_reducible first | apply i_ldn | apply i_ldnq); exact rfl; exact rfl; exact rfl) | (with_reducible first | refine r_ph0 ?_ | apply i_kp0) | ((with_reducible first | apply i_st | apply i_stl); (focus simp); exact rfl) | ((try with_reducible refine d_reg ?_); simp only [go_sem, Nat.reduceAdd, Nat.reduceEqDiff, Int.reduceToNat, Nat.reduceMul, Nat.reduceSub]) | clear hK K)
  all_goals try contradiction
  refine r_nilow 9 1 ?_
  refine d_lp [0, 1, 2, 7, 9, 11, 12, 13] (fun t : Nat × PS × SlV => [(0, .slice p rs.length c), (1, .int .i64 keep), (2, .slice mp' ms.length mc), (7, .pointer (some ⟨sb, 0, none⟩)), (9, .pointer (some ⟨q, 0, none⟩)), (11, .slice t.2.2.1 t.2.2.2.1 t.2.2.2.2), (12, .int .i64 1), (13, .int .i64 (t.1 : Int))])
    (fun t => lgp (l1 q 0 1 t.2.1) sb :: dk Y :: ow 9 1 t.2.2 (strs t.2.1) :: A :: L) (fun t => t.1 ≤ 15 ∧ Prs t.2.1 ∧ t.2.2.2.1 = t.2.1.length ∧ t.2.1.length ≤ t.1 ∧ Wi Y sb 31 (l1 q 0 1 t.2.1) ρ) (fun t => 15 - t.1) (0, [], (none, 0, 0)) rfl ?_ ⟨by dsimp only; omega, fun x hx => (by cases hx), rfl, Nat.le_refl _, hW⟩ ?_
  · show Sub (lgp ⟨q, 1, 30, 1, [], 0, false⟩ sb :: dk Y :: ow 9 1 (none, 0, 0) [] :: A :: L) _
    exact SX.p
  rintro ⟨i, ps, ⟨op, on, oc⟩⟩ ⟨i1, hps, i3, i4, hWi⟩
  dsimp only at i1 hps i3 i4 hWi ⊢
  by_cases hi : i < rs.length ∧ i < 15
  · have hx : rs[i]? = some rs[i] := List.getElem?_eq_getElem hi.1
    have hxo := hok rs[i] (List.getElem_mem hi.1)
    generalize rs[i] = x at *
    obtain ⟨a, rfl⟩ := hR.ptr (by omega)
    obtain ⟨cc, hcc⟩ := few_ok hxo
    have FF := few_fn hxo
    have FR := g18 A (fewr x) cc hcc
    have AP := wappend hWi A (fewr x) cc hcc
    have WA := hWi.app cc
    have hok1 := append_ok (G := l1 q 0 1 ps) (c := cc) rfl
    have hno1 := append_no (G := l1 q 0 1 ps) (c := cc) rfl
    have hsh := hcc.sh
    repeat' ((fail_if_success with_reducible refine nph ?_); first | (with_reducible first | (refine d_seq ?_; intro K hK) | (refine hK _ _ ?_; clear hK K) | refine d_blk ?_ | refine d_rt0 ?_ | refine d_sk0 ?_ | refine d_ex0 ?_ | (refine r_nwc ?_; intro b)) | (first | ((with_reducible refine d_cnd ?_); refine And.intro ?_ ?_) | with_reducible refine r_cnd ?_ ?_) <;> intro hc <;> try simp only [push_cast, Int.reduceEq, Int.reduceLT, Int.reduceLE, Int.reduceNe] at hc | with_reducible refine r_rq (by first | decide | omega) ?_ | ((with_reducible first | apply i_lds | apply i_ldsq | apply i_ld | apply i_ldq); exact rfl) | ((with_reducible first | apply i_ldn | apply i_ldnq); exact rfl; exact rfl; exact rfl) | (with_reducible first | refine r_ph0 ?_ | apply i_kp0) | ((with_reducible first | apply i_st | apply i_stl); (focus simp); exact rfl) | ((try with_reducible refine d_reg ?_); simp only [go_sem, Nat.reduceAdd, Nat.reduceEqDiff, Int.reduceToNat, Nat.reduceMul, Nat.reduceSub]) | clear hK K)
    all_goals try (exfalso; omega)
    refine i_sn hR rcl_len hx rfl ?_
    refine i_clp FF ?_
    refine i_clp FR ?_
    repeat' ((fail_if_success with_reducible refine nph ?_); first | (with_reducible first | (refine d_seq ?_; intro K hK) | (refine hK _ _ ?_; clear hK K) | refine d_blk ?_ | refine d_rt0 ?_ | refine d_sk0 ?_ | refine d_ex0 ?_ | (refine r_nwc ?_; intro b)) | (first | ((with_reducible refine d_cnd ?_); refine And.intro ?_ ?_) | with_reducible refine r_cnd ?_ ?_) <;> intro hc <;> try simp only [push_cast, Int.reduceEq, Int.reduceLT, Int.reduceLE, Int.reduceNe] at hc | with_reducible refine r_rq (by first | decide | omega) ?_ | ((with_reducible first | apply i_lds | apply i_ldsq | apply i_ld | apply i_ldq); exact rfl) | ((with_reducible first | apply i_ldn | apply i_ldnq); exact rfl; exact rfl; exact rfl) | (with_reducible first | refine r_ph0 ?_ | apply i_kp0) | ((with_reducible first | apply i_st | apply i_stl); (focus simp); exact rfl) | ((try with_reducible refine d_reg ?_); simp only [go_sem, Nat.reduceAdd, Nat.reduceEqDiff, Int.reduceToNat, Nat.reduceMul, Nat.reduceSub]) | clear hK K)
    refine i_sn hR rcl_len hx rfl ?_
    refine i_clp FF ?_
    refine i_clq AP ?_
    repeat' ((fail_if_success with_reducible refine nph ?_); first | (with_reducible first | (refine d_seq ?_; intro K hK) | (refine hK _ _ ?_; clear hK K) | refine d_blk ?_ | refine d_rt0 ?_ | refine d_sk0 ?_ | refine d_ex0 ?_ | (refine r_nwc ?_; intro b)) | (first | ((with_reducible refine d_cnd ?_); refine And.intro ?_ ?_) | with_reducible refine r_cnd ?_ ?_) <;> intro hc <;> try simp only [push_cast, Int.reduceEq, Int.reduceLT, Int.reduceLE, Int.reduceNe] at hc | with_reducible refine r_rq (by first | decide | omega) ?_ | ((with_reducible first | apply i_lds | apply i_ldsq | apply i_ld | apply i_ldq); exact rfl) | ((with_reducible first | apply i_ldn | apply i_ldnq); exact rfl; exact rfl; exact rfl) | (with_reducible first | refine r_ph0 ?_ | apply i_kp0) | ((with_reducible first | apply i_st | apply i_stl); (focus simp); exact rfl) | ((try with_reducible refine d_reg ?_); simp only [go_sem, Nat.reduceAdd, Nat.reduceEqDiff, Int.reduceToNat, Nat.reduceMul, Nat.reduceSub]) | clear hK K)
    · obtain ⟨e1, e2, _⟩ := hok1 (by assumption) (by assumption)
      have hf : cc.frame = (cc.frame.1, 0) := Prod.ext rfl (by assumption)
      rw [e1, show ({ l1 q 0 1 ps with all := (l1 q 0 1 ps).all ++ cc.frame.1 } : Lg) = l1 q 0 1 (ps ++ [(cc.frame.1, cc)]) by simp only [l1, flat_snoc]] at WA ⊢
      refine i_app (t := 9) (sz := 1) (m := 1) (news := [str cc.frame.1]) (op, on, oc) 16 (by kernel_rfl) (by decide) rfl rfl (by dsimp only; omega) fun o ho _ => ?_
      rw [strs_snoc ps _ cc]
      repeat' ((fail_if_success with_reducible refine nph ?_); first | (with_reducible first | (refine d_seq ?_; intro K hK) | (refine hK _ _ ?_; clear hK K) | refine d_blk ?_ | refine d_rt0 ?_ | refine d_sk0 ?_ | refine d_ex0 ?_ | (refine r_nwc ?_; intro b)) | (first | ((with_reducible refine d_cnd ?_); refine And.intro ?_ ?_) | with_reducible refine r_cnd ?_ ?_) <;> intro hc <;> try simp only [push_cast, Int.reduceEq, Int.reduceLT, Int.reduceLE, Int.reduceNe] at hc | with_reducible refine r_rq (by first | decide | omega) ?_ | ((with_reducible first | apply i_lds | apply i_ldsq | apply i_ld | apply i_ldq); exact rfl) | ((with_reducible first | apply i_ldn | apply i_ldnq); exact rfl; exact rfl; exact rfl) | (with_reducible first | refine r_ph0 ?_ | apply i_kp0) | ((with_reducible first | apply i_st | apply i_stl); (focus simp); exact rfl) | ((try with_reducible refine d_reg ?_); simp only [go_sem, Nat.reduceAdd, Nat.reduceEqDiff, Int.reduceToNat, Nat.reduceMul, Nat.reduceSub]) | clear hK K)
      rw [w64 (by omega) (by omega)]
      exact i_bk (i + 1, ps ++ [(cc.frame.1, cc)], o) rfl ⟨by dsimp only; omega, hps.snoc hsh hf, by dsimp only at ho ⊢; rw [ho, i3, List.length_append]; rfl, by dsimp only; rw [List.length_append, List.length_singleton]; omega, WA⟩ (by dsimp only; omega)
    · rw [hno1 (.inr hc)] at WA ⊢
      rw [w64 (by omega) (by omega)]
      exact i_bk (i + 1, ps, (op, on, oc)) rfl ⟨by dsimp only; omega, hps, i3, by dsimp only; omega, WA⟩ (by dsimp only; omega)
    · rw [hno1 (.inl (by assumption))] at WA ⊢
      rw [w64 (by omega) (by omega)]
      exact i_bk (i + 1, ps, (op, on, oc)) rfl ⟨by dsimp only; omega, hps, i3, by dsimp only; omega, WA⟩ (by dsimp only; omega)
  · obtain ⟨V, ρ1, FL, WV, hes, _⟩ := wflushg hWi
    have hln : (flat ps).length ≤ 1740 := hWi.ok.le
    dsimp only at FL WV
    obtain rfl := i3
    repeat' ((fail_if_success with_reducible refine nph ?_); first | (with_reducible first | (refine d_seq ?_; intro K hK) | (refine hK _ _ ?_; clear hK K) | refine d_blk ?_ | refine d_rt0 ?_ | refine d_sk0 ?_ | refine d_ex0 ?_ | (refine r_nwc ?_; intro b)) | (first | ((with_reducible refine d_cnd ?_); refine And.intro ?_ ?_) | with_reducible refine r_cnd ?_ ?_) <;> intro hc <;> try simp only [push_cast, Int.reduceEq, Int.reduceLT, Int.reduceLE, Int.reduceNe] at hc | with_reducible refine r_rq (by first | decide | omega) ?_ | ((with_reducible first | apply i_lds | apply i_ldsq | apply i_ld | apply i_ldq); exact rfl) | ((with_reducible first | apply i_ldn | apply i_ldnq); exact rfl; exact rfl; exact rfl) | (with_reducible first | refine r_ph0 ?_ | apply i_kp0) | ((with_reducible first | apply i_st | apply i_stl); (focus simp); exact rfl) | ((try with_reducible refine d_reg ?_); simp only [go_sem, Nat.reduceAdd, Nat.reduceEqDiff, Int.reduceToNat, Nat.reduceMul, Nat.reduceSub]) | clear hK K)
    all_goals try (exfalso; omega)
    all_goals
      refine i_clq FL ?_
      refine i_owc (t := 9) (sz := 1) (op, ps.length, oc) fun hRo hcap => ?_
      dsimp only at hcap
      by_cases hk : keep < 0 ∨ (ps.length : Int) < keep
      · repeat' ((fail_if_success with_reducible refine nph ?_); first | (with_reducible first | (refine d_seq ?_; intro K hK) | (refine hK _ _ ?_; clear hK K) | refine d_blk ?_ | refine d_rt0 ?_ | refine d_sk0 ?_ | refine d_ex0 ?_ | (refine r_nwc ?_; intro b)) | (first | ((with_reducible refine d_cnd ?_); refine And.intro ?_ ?_) | with_reducible refine r_cnd ?_ ?_) <;> intro hc <;> try simp only [push_cast, Int.reduceEq, Int.reduceLT, Int.reduceLE, Int.reduceNe] at hc | with_reducible refine r_rq (by first | decide | omega) ?_ | ((with_reducible first | apply i_lds | apply i_ldsq | apply i_ld | apply i_ldq); exact rfl) | ((with_reducible first | apply i_ldn | apply i_ldnq); exact rfl; exact rfl; exact rfl) | (with_reducible first | refine r_ph0 ?_ | apply i_kp0) | ((with_reducible first | apply i_st | apply i_stl); (focus simp); exact rfl) | ((try with_reducible refine d_reg ?_); simp only [go_sem, Nat.reduceAdd, Nat.reduceEqDiff, Int.reduceToNat, Nat.reduceMul, Nat.reduceSub]) | clear hK K)
        all_goals try (exfalso; omega)
        all_goals try contradiction
        all_goals refine i_clp g15 ?_
        all_goals repeat' ((fail_if_success with_reducible refine nph ?_); first | (with_reducible first | (refine d_seq ?_; intro K hK) | (refine hK _ _ ?_; clear hK K) | refine d_blk ?_ | refine d_rt0 ?_ | refine d_sk0 ?_ | refine d_ex0 ?_ | (refine r_nwc ?_; intro b)) | (first | ((with_reducible refine d_cnd ?_); refine And.intro ?_ ?_) | with_reducible refine r_cnd ?_ ?_) <;> intro hc <;> try simp only [push_cast, Int.reduceEq, Int.reduceLT, Int.reduceLE, Int.reduceNe] at hc | with_reducible refine r_rq (by first | decide | omega) ?_ | ((with_reducible first | apply i_lds | apply i_ldsq | apply i_ld | apply i_ldq); exact rfl) | ((with_reducible first | apply i_ldn | apply i_ldnq); exact rfl; exact rfl; exact rfl) | (with_reducible first | refine r_ph0 ?_ | apply i_kp0) | ((with_reducible first | apply i_st | apply i_stl); (focus simp); exact rfl) | ((try with_reducible refine d_reg ?_); simp only [go_sem, Nat.reduceAdd, Nat.reduceEqDiff, Int.reduceToNat, Nat.reduceMul, Nat.reduceSub]) | clear hK K)
        all_goals ((with_reducible first | apply i_ret0 | apply i_ret2 | apply i_ret3 | apply i_ret); exact rfl; rfl)
      obtain ⟨k, rfl⟩ : ∃ k : Nat, keep = (k : Int) := ⟨keep.toNat, by omega⟩
      repeat' ((fail_if_success with_reducible refine nph ?_); first | (with_reducible first | (refine d_seq ?_; intro K hK) | (refine hK _ _ ?_; clear hK K) | refine d_blk ?_ | refine d_rt0 ?_ | refine d_sk0 ?_ | refine d_ex0 ?_ | (refine r_nwc ?_; intro b)) | (first | ((with_reducible refine d_cnd ?_); refine And.intro ?_ ?_) | with_reducible refine r_cnd ?_ ?_) <;> intro hc <;> try simp only [push_cast, Int.reduceEq, Int.reduceLT, Int.reduceLE, Int.reduceNe] at hc | with_reducible refine r_rq (by first | decide | omega) ?_ | ((with_reducible first | apply i_lds | apply i_ldsq | apply i_ld | apply i_ldq); exact rfl) | ((with_reducible first | apply i_ldn | apply i_ldnq); exact rfl; exact rfl; exact rfl) | (with_reducible first | refine r_ph0 ?_ | apply i_kp0) | ((with_reducible first | apply i_st | apply i_stl); (focus simp); exact rfl) | ((try with_reducible refine d_reg ?_); simp only [go_sem, Nat.reduceAdd, Nat.reduceEqDiff, Int.reduceToNat, Nat.reduceMul, Nat.reduceSub]) | clear hK K)
      all_goals try (exfalso; omega)
      all_goals try contradiction
      all_goals
        have ft := flat_take ps k
        have fl := flat_le ps k
        have hp2 := hps.take k
        have l2 : (ps.take k).length = k := by rw [List.length_take]; omega
        refine i_owp (t := 9) (sz := 1) (s := (op, ps.length, oc)) (k := k) (by dsimp only; omega) ?_
        rw [Nat.mul_one, show (strs ps).take k = strs (ps.take k) by simp [strs, List.map_take]]
        simp only [Nat.sub_zero]
        generalize slp op 0 (oc : Int) 1 = sp2 at *
        generalize ps.take k = ps2 at *
        refine d_lp [2, 7, 9, 11, 12, 18] (fun i : Nat => [(2, .slice mp' ms.length mc), (7, .pointer (some ⟨sb, 0, none⟩)), (9, .pointer (some ⟨q, 0, none⟩)), (11, .slice sp2 k oc), (12, .int .i64 ((1 + (flat (ps2.take i)).length : Nat) : Int)), (18, .int .i64 (i : Int))])
          (fun _ => lgp (l1 q (flat ps).length 1 ps) sb :: dk V :: ow 9 1 (sp2, k, oc) (strs ps2) :: A :: L) (fun i => i ≤ k) (fun i => k - i) 0 rfl SX.p (by omega) ?_
        intro j hj
        by_cases hjk : j < k
        · refine i_ow (t := 9) (sz := 1) (sp2, k, oc) fun hRo2 => ?_
          obtain ⟨a2, rfl⟩ := hRo2.ptr (by omega)
          have hx2 : ps2[j]? = some ps2[j] := List.getElem?_eq_getElem (by omega)
          have fn := flat_next ps2 hx2
          have fl2 := flat_le ps2 (j + 1)
          generalize ps2[j] = x2 at *
          have hs2 : (strs ps2)[j]? = some (str x2.1) := by simp [strs, hx2]
          have e12 : IntKind.wrap .i64 (((1 + (flat (ps2.take j)).length : Nat) : Int) + (x2.1.length : Int)) = ((1 + (flat (ps2.take (j + 1))).length : Nat) : Int) := by rw [fn, w64 (by omega) (by omega)]; omega
          repeat' ((fail_if_success with_reducible refine nph ?_); first | (with_reducible first | (refine d_seq ?_; intro K hK) | (refine hK _ _ ?_; clear hK K) | refine d_blk ?_ | refine d_rt0 ?_ | refine d_sk0 ?_ | refine d_ex0 ?_ | (refine r_nwc ?_; intro b)) | (first | ((with_reducible refine d_cnd ?_); refine And.intro ?_ ?_) | with_reducible refine r_cnd ?_ ?_) <;> intro hc <;> try simp only [push_cast, Int.reduceEq, Int.reduceLT, Int.reduceLE, Int.reduceNe] at hc | with_reducible refine r_rq (by first | decide | omega) ?_ | ((with_reducible first | apply i_lds | apply i_ldsq | apply i_ld | apply i_ldq); exact rfl) | ((with_reducible first | apply i_ldn | apply i_ldnq); exact rfl; exact rfl; exact rfl) | (with_reducible first | refine r_ph0 ?_ | apply i_kp0) | ((with_reducible first | apply i_st | apply i_stl); (focus simp); exact rfl) | ((try with_reducible refine d_reg ?_); simp only [go_sem, Nat.reduceAdd, Nat.reduceEqDiff, Int.reduceToNat, Nat.reduceMul, Nat.reduceSub]) | clear hK K)
          all_goals try (exfalso; omega)
          refine i_o1 (e := eS) (y := x2.1) hs2 ?_
          repeat' (first | rw [e12] | rw [w64 (n := (j : Int) + 1) (by omega) (by omega)] | (fail_if_success with_reducible refine nph ?_); first | (with_reducible first | (refine d_seq ?_; intro K hK) | (refine hK _ _ ?_; clear hK K) | refine d_blk ?_ | refine d_rt0 ?_ | refine d_sk0 ?_ | refine d_ex0 ?_ | (refine r_nwc ?_; intro b)) | (first | ((with_reducible refine d_cnd ?_); refine And.intro ?_ ?_) | with_reducible refine r_cnd ?_ ?_) <;> intro hc <;> try simp only [push_cast, Int.reduceEq, Int.reduceLT, Int.reduceLE, Int.reduceNe] at hc | with_reducible refine r_rq (by first | decide | omega) ?_ | ((with_reducible first | apply i_lds | apply i_ldsq | apply i_ld | apply i_ldq); exact rfl) | ((with_reducible first | apply i_ldn | apply i_ldnq); exact rfl; exact rfl; exact rfl) | (with_reducible first | refine r_ph0 ?_ | apply i_kp0) | ((with_reducible first | apply i_st | apply i_stl); (focus simp); exact rfl) | ((try with_reducible refine d_reg ?_); simp only [go_sem, Nat.reduceAdd, Nat.reduceEqDiff, Int.reduceToNat, Nat.reduceMul, Nat.reduceSub]) | clear hK K)
          exact i_bk (j + 1) rfl (by omega) (by omega)
        · obtain rfl : j = k := by omega
          rw [show ps2.take j = ps2 from List.take_of_length_le (by omega)]
          obtain ⟨V2, ρ2, CL, WC, _⟩ := wcut WV (a := (flat ps2).length) (run := 2) (by dsimp only; exact fl) (Nat.lt_succ_self 1) (by decide) (by dsimp only; rw [ft]; exact flat_whole hp2)
          dsimp only at CL WC
          rw [ft] at CL WC
          have e12 : ((1 + (flat ps2).length : Nat) : Int) = ((flat ps2).length : Int) + 1 := by omega
          rw [e12]
          generalize hd : (flat ps2).length = d at CL WC
          repeat' ((fail_if_success with_reducible refine nph ?_); first | (with_reducible first | (refine d_seq ?_; intro K hK) | (refine hK _ _ ?_; clear hK K) | refine d_blk ?_ | refine d_rt0 ?_ | refine d_sk0 ?_ | refine d_ex0 ?_ | (refine r_nwc ?_; intro b)) | (first | ((with_reducible refine d_cnd ?_); refine And.intro ?_ ?_) | with_reducible refine r_cnd ?_ ?_) <;> intro hc <;> try simp only [push_cast, Int.reduceEq, Int.reduceLT, Int.reduceLE, Int.reduceNe] at hc | with_reducible refine r_rq (by first | decide | omega) ?_ | ((with_reducible first | apply i_lds | apply i_ldsq | apply i_ld | apply i_ldq); exact rfl) | ((with_reducible first | apply i_ldn | apply i_ldnq); exact rfl; exact rfl; exact rfl) | (with_reducible first | refine r_ph0 ?_ | apply i_kp0) | ((with_reducible first | apply i_st | apply i_stl); (focus simp); exact rfl) | ((try with_reducible refine d_reg ?_); simp only [go_sem, Nat.reduceAdd, Nat.reduceEqDiff, Int.reduceToNat, Nat.reduceMul, Nat.reduceSub]) | clear hK K)
          all_goals try (exfalso; omega)
          refine i_clq CL ?_
          repeat' ((fail_if_success with_reducible refine nph ?_); first | (with_reducible first | (refine d_seq ?_; intro K hK) | (refine hK _ _ ?_; clear hK K) | refine d_blk ?_ | refine d_rt0 ?_ | refine d_sk0 ?_ | refine d_ex0 ?_ | (refine r_nwc ?_; intro b)) | (first | ((with_reducible refine d_cnd ?_); refine And.intro ?_ ?_) | with_reducible refine r_cnd ?_ ?_) <;> intro hc <;> try simp only [push_cast, Int.reduceEq, Int.reduceLT, Int.reduceLE, Int.reduceNe] at hc | with_reducible refine r_rq (by first | decide | omega) ?_ | ((with_reducible first | apply i_lds | apply i_ldsq | apply i_ld | apply i_ldq); exact rfl) | ((with_reducible first | apply i_ldn | apply i_ldnq); exact rfl; exact rfl; exact rfl) | (with_reducible first | refine r_ph0 ?_ | apply i_kp0) | ((with_reducible first | apply i_st | apply i_stl); (focus simp); exact rfl) | ((try with_reducible refine d_reg ?_); simp only [go_sem, Nat.reduceAdd, Nat.reduceEqDiff, Int.reduceToNat, Nat.reduceMul, Nat.reduceSub]) | clear hK K)
          all_goals try (first | contradiction | (simp only [ reduceCtorEq] at *; done) | (exfalso; omega))
          refine d_lp [2, 7, 9, 11, 19] (fun t : Nat × PS × SlV => [(2, .slice mp' ms.length mc), (7, .pointer (some ⟨sb, 0, none⟩)), (9, .pointer (some ⟨q, 0, none⟩)), (11, .slice t.2.2.1 t.2.2.2.1 t.2.2.2.2), (19, .int .i64 (t.1 : Int))])
            (fun t => lgp (l1 q d 2 t.2.1) sb :: dk V2 :: ow 9 1 t.2.2 (strs t.2.1) :: A :: L) (fun t => t.1 ≤ 15 ∧ Prs t.2.1 ∧ t.2.2.2.1 = t.2.1.length ∧ t.2.1.length ≤ 15 + t.1 ∧ Wi V2 sb 31 (l1 q d 2 t.2.1) ρ2) (fun t => 15 - t.1) (0, ps2, (sp2, j, oc)) rfl SX.p ⟨by dsimp only; omega, hp2, l2.symm, by dsimp only; omega, WC⟩ ?_
          clear WC CL e12 hd ft fl
          rintro ⟨i', ps3, ⟨op3, on3, oc3⟩⟩ ⟨m1, hps3, m3, m4, hW3⟩
          dsimp only at m1 hps3 m3 m4 hW3 ⊢
          by_cases hi' : i' < ms.length ∧ i' < 15
          · have hx : ms[i']? = some ms[i'] := List.getElem?_eq_getElem hi'.1
            have hxo := hmk ms[i'] (List.getElem_mem hi'.1)
            generalize ms[i'] = x at *
            obtain ⟨a, rfl⟩ := hM.ptr (by omega)
            obtain ⟨cc, hcc⟩ := few_ok hxo
            have FF := few_fn hxo
            have FR := g18 A (fewr x) cc hcc
            have AP := wappend hW3 A (fewr x) cc hcc
            have WA := hW3.app cc
            have hok1 := append_ok (G := l1 q d 2 ps3) (c := cc) rfl
            have hno1 := append_no (G := l1 q d 2 ps3) (c := cc) rfl
            have hsh := hcc.sh
            repeat' ((fail_if_success with_reducible refine nph ?_); first | (with_reducible first | (refine d_seq ?_; intro K hK) | (refine hK _ _ ?_; clear hK K) | refine d_blk ?_ | refine d_rt0 ?_ | refine d_sk0 ?_ | refine d_ex0 ?_ | (refine r_nwc ?_; intro b)) | (first | ((with_reducible refine d_cnd ?_); refine And.intro ?_ ?_) | with_reducible refine r_cnd ?_ ?_) <;> intro hc <;> try simp only [push_cast, Int.reduceEq, Int.reduceLT, Int.reduceLE, Int.reduceNe] at hc | with_reducible refine r_rq (by first | decide | omega) ?_ | ((with_reducible first | apply i_lds | apply i_ldsq | apply i_ld | apply i_ldq); exact rfl) | ((with_reducible first | apply i_ldn | apply i_ldnq); exact rfl; exact rfl; exact rfl) | (with_reducible first | refine r_ph0 ?_ | apply i_kp0) | ((with_reducible first | apply i_st | apply i_stl); (focus simp); exact rfl) | ((try with_reducible refine d_reg ?_); simp only [go_sem, Nat.reduceAdd, Nat.reduceEqDiff, Int.reduceToNat, Nat.reduceMul, Nat.reduceSub]) | clear hK K)
            all_goals try (exfalso; omega)
            refine i_sn hM rcl_len hx rfl ?_
            refine i_clp FF ?_
            refine i_clp FR ?_
            repeat' ((fail_if_success with_reducible refine nph ?_); first | (with_reducible first | (refine d_seq ?_; intro K hK) | (refine hK _ _ ?_; clear hK K) | refine d_blk ?_ | refine d_rt0 ?_ | refine d_sk0 ?_ | refine d_ex0 ?_ | (refine r_nwc ?_; intro b)) | (first | ((with_reducible refine d_cnd ?_); refine And.intro ?_ ?_) | with_reducible refine r_cnd ?_ ?_) <;> intro hc <;> try simp only [push_cast, Int.reduceEq, Int.reduceLT, Int.reduceLE, Int.reduceNe] at hc | with_reducible refine r_rq (by first | decide | omega) ?_ | ((with_reducible first | apply i_lds | apply i_ldsq | apply i_ld | apply i_ldq); exact rfl) | ((with_reducible first | apply i_ldn | apply i_ldnq); exact rfl; exact rfl; exact rfl) | (with_reducible first | refine r_ph0 ?_ | apply i_kp0) | ((with_reducible first | apply i_st | apply i_stl); (focus simp); exact rfl) | ((try with_reducible refine d_reg ?_); simp only [go_sem, Nat.reduceAdd, Nat.reduceEqDiff, Int.reduceToNat, Nat.reduceMul, Nat.reduceSub]) | clear hK K)
            refine i_sn hM rcl_len hx rfl ?_
            refine i_clp FF ?_
            refine i_clq AP ?_
            repeat' ((fail_if_success with_reducible refine nph ?_); first | (with_reducible first | (refine d_seq ?_; intro K hK) | (refine hK _ _ ?_; clear hK K) | refine d_blk ?_ | refine d_rt0 ?_ | refine d_sk0 ?_ | refine d_ex0 ?_ | (refine r_nwc ?_; intro b)) | (first | ((with_reducible refine d_cnd ?_); refine And.intro ?_ ?_) | with_reducible refine r_cnd ?_ ?_) <;> intro hc <;> try simp only [push_cast, Int.reduceEq, Int.reduceLT, Int.reduceLE, Int.reduceNe] at hc | with_reducible refine r_rq (by first | decide | omega) ?_ | ((with_reducible first | apply i_lds | apply i_ldsq | apply i_ld | apply i_ldq); exact rfl) | ((with_reducible first | apply i_ldn | apply i_ldnq); exact rfl; exact rfl; exact rfl) | (with_reducible first | refine r_ph0 ?_ | apply i_kp0) | ((with_reducible first | apply i_st | apply i_stl); (focus simp); exact rfl) | ((try with_reducible refine d_reg ?_); simp only [go_sem, Nat.reduceAdd, Nat.reduceEqDiff, Int.reduceToNat, Nat.reduceMul, Nat.reduceSub]) | clear hK K)
            · obtain ⟨e1, e2, _⟩ := hok1 (by assumption) (by assumption)
              have hf : cc.frame = (cc.frame.1, 0) := Prod.ext rfl (by assumption)
              rw [e1, show ({ l1 q d 2 ps3 with all := (l1 q d 2 ps3).all ++ cc.frame.1 } : Lg) = l1 q d 2 (ps3 ++ [(cc.frame.1, cc)]) by simp only [l1, flat_snoc]] at WA ⊢
              refine i_app (t := 9) (sz := 1) (m := 1) (news := [str cc.frame.1]) (op3, on3, oc3) 16 (by kernel_rfl) (by decide) rfl rfl (by dsimp only; omega) fun o ho _ => ?_
              rw [strs_snoc ps3 _ cc]
              repeat' ((fail_if_success with_reducible refine nph ?_); first | (with_reducible first | (refine d_seq ?_; intro K hK) | (refine hK _ _ ?_; clear hK K) | refine d_blk ?_ | refine d_rt0 ?_ | refine d_sk0 ?_ | refine d_ex0 ?_ | (refine r_nwc ?_; intro b)) | (first | ((with_reducible refine d_cnd ?_); refine And.intro ?_ ?_) | with_reducible refine r_cnd ?_ ?_) <;> intro hc <;> try simp only [push_cast, Int.reduceEq, Int.reduceLT, Int.reduceLE, Int.reduceNe] at hc | with_reducible refine r_rq (by first | decide | omega) ?_ | ((with_reducible first | apply i_lds | apply i_ldsq | apply i_ld | apply i_ldq); exact rfl) | ((with_reducible first | apply i_ldn | apply i_ldnq); exact rfl; exact rfl; exact rfl) | (with_reducible first | refine r_ph0 ?_ | apply i_kp0) | ((with_reducible first | apply i_st | apply i_stl); (focus simp); exact rfl) | ((try with_reducible refine d_reg ?_); simp only [go_sem, Nat.reduceAdd, Nat.reduceEqDiff, Int.reduceToNat, Nat.reduceMul, Nat.reduceSub]) | clear hK K)
              rw [w64 (by omega) (by omega)]
              exact i_bk (i' + 1, ps3 ++ [(cc.frame.1, cc)], o) rfl ⟨by dsimp only; omega, hps3.snoc hsh hf, by dsimp only at ho ⊢; rw [ho, m3, List.length_append]; rfl, by dsimp only; rw [List.length_append, List.length_singleton]; omega, WA⟩ (by dsimp only; omega)
            · rw [hno1 (.inr hc)] at WA ⊢
              rw [w64 (by omega) (by omega)]
              exact i_bk (i' + 1, ps3, (op3, on3, oc3)) rfl ⟨by dsimp only; omega, hps3, m3, by dsimp only; omega, WA⟩ (by dsimp only; omega)
            · rw [hno1 (.inl (by assumption))] at WA ⊢
              rw [w64 (by omega) (by omega)]
              exact i_bk (i' + 1, ps3, (op3, on3, oc3)) rfl ⟨by dsimp only; omega, hps3, m3, by dsimp only; omega, WA⟩ (by dsimp only; omega)
          · obtain ⟨V3, ρ3, FL3, WV3, _⟩ := wflush hW3
            have hl3 : (flat ps3).length ≤ 1740 := hW3.ok.le
            dsimp only at FL3 WV3
            obtain rfl := m3
            have O3 := wopen WV3 (run := 3) (by dsimp only; decide) (by decide) (by dsimp only; rw [List.take_length]; exact flat_whole hps3)
            dsimp only at O3
            rw [List.take_length] at O3
            repeat' ((fail_if_success with_reducible refine nph ?_); first | (with_reducible first | (refine d_seq ?_; intro K hK) | (refine hK _ _ ?_; clear hK K) | refine d_blk ?_ | refine d_rt0 ?_ | refine d_sk0 ?_ | refine d_ex0 ?_ | (refine r_nwc ?_; intro b)) | (first | ((with_reducible refine d_cnd ?_); refine And.intro ?_ ?_) | with_reducible refine r_cnd ?_ ?_) <;> intro hc <;> try simp only [push_cast, Int.reduceEq, Int.reduceLT, Int.reduceLE, Int.reduceNe] at hc | with_reducible refine r_rq (by first | decide | omega) ?_ | ((with_reducible first | apply i_lds | apply i_ldsq | apply i_ld | apply i_ldq); exact rfl) | ((with_reducible first | apply i_ldn | apply i_ldnq); exact rfl; exact rfl; exact rfl) | (with_reducible first | refine r_ph0 ?_ | apply i_kp0) | ((with_reducible first | apply i_st | apply i_stl); (focus simp); exact rfl) | ((try with_reducible refine d_reg ?_); simp only [go_sem, Nat.reduceAdd, Nat.reduceEqDiff, Int.reduceToNat, Nat.reduceMul, Nat.reduceSub]) | clear hK K)
            all_goals try (exfalso; omega)
            all_goals
              refine i_clq FL3 ?_
              repeat' ((fail_if_success with_reducible refine nph ?_); first | (with_reducible first | (refine d_seq ?_; intro K hK) | (refine hK _ _ ?_; clear hK K) | refine d_blk ?_ | refine d_rt0 ?_ | refine d_sk0 ?_ | refine d_ex0 ?_ | (refine r_nwc ?_; intro b)) | (first | ((with_reducible refine d_cnd ?_); refine And.intro ?_ ?_) | with_reducible refine r_cnd ?_ ?_) <;> intro hc <;> try simp only [push_cast, Int.reduceEq, Int.reduceLT, Int.reduceLE, Int.reduceNe] at hc | with_reducible refine r_rq (by first | decide | omega) ?_ | ((with_reducible first | apply i_lds | apply i_ldsq | apply i_ld | apply i_ldq); exact rfl) | ((with_reducible first | apply i_ldn | apply i_ldnq); exact rfl; exact rfl; exact rfl) | (with_reducible first | refine r_ph0 ?_ | apply i_kp0) | ((with_reducible first | apply i_st | apply i_stl); (focus simp); exact rfl) | ((try with_reducible refine d_reg ?_); simp only [go_sem, Nat.reduceAdd, Nat.reduceEqDiff, Int.reduceToNat, Nat.reduceMul, Nat.reduceSub]) | clear hK K)
              all_goals try (first | contradiction | (simp only [ reduceCtorEq] at *; done) | (exfalso; omega))
              refine i_cal O3 ?_
              rintro y X ⟨q3, Y3, ρ4, rfl, rfl, hW4, _⟩
              repeat' ((fail_if_success with_reducible refine nph ?_); first | (with_reducible first | (refine d_seq ?_; intro K hK) | (refine hK _ _ ?_; clear hK K) | refine d_blk ?_ | refine d_rt0 ?_ | refine d_sk0 ?_ | refine d_ex0 ?_ | (refine r_nwc ?_; intro b)) | (first | ((with_reducible refine d_cnd ?_); refine And.intro ?_ ?_) | with_reducible refine r_cnd ?_ ?_) <;> intro hc <;> try simp only [push_cast, Int.reduceEq, Int.reduceLT, Int.reduceLE, Int.reduceNe] at hc | with_reducible refine r_rq (by first | decide | omega) ?_ | ((with_reducible first | apply i_lds | apply i_ldsq | apply i_ld | apply i_ldq); exact rfl) | ((with_reducible first | apply i_ldn | apply i_ldnq); exact rfl; exact rfl; exact rfl) | (with_reducible first | refine r_ph0 ?_ | apply i_kp0) | ((with_reducible first | apply i_st | apply i_stl); (focus simp); exact rfl) | ((try with_reducible refine d_reg ?_); simp only [go_sem, Nat.reduceAdd, Nat.reduceEqDiff, Int.reduceToNat, Nat.reduceMul, Nat.reduceSub]) | clear hK K)
              all_goals try contradiction
              have hlen : (flat ps3).length ≤ 1000000 := by omega
              have R8 := g25 ⟨q3, 1, 30, 3, flat ps3, (flat ps3).length, false⟩ sb hlen
              dsimp only at R8
              rw [flat_recs hps3] at R8
              refine i_cal R8 ?_
              rintro ⟨⟨rp, rn, rc⟩, y2⟩ X ⟨S, rs2, rfl, hRL⟩
              rw [rl_map] at hRL
              have hn2 := hRL.n
              rw [List.length_map] at hn2
              dsimp only [List.cons_append, List.nil_append]
              refine i_ow (t := 36) (sz := 13) (rp, rn, rc) fun hRr => ?_
              obtain rfl : rn = rs2.length := hRr.len rcl_len (by decide)
              repeat' ((fail_if_success with_reducible refine nph ?_); first | (with_reducible first | (refine d_seq ?_; intro K hK) | (refine hK _ _ ?_; clear hK K) | refine d_blk ?_ | refine d_rt0 ?_ | refine d_sk0 ?_ | refine d_ex0 ?_ | (refine r_nwc ?_; intro b)) | (first | ((with_reducible refine d_cnd ?_); refine And.intro ?_ ?_) | with_reducible refine r_cnd ?_ ?_) <;> intro hc <;> try simp only [push_cast, Int.reduceEq, Int.reduceLT, Int.reduceLE, Int.reduceNe] at hc | with_reducible refine r_rq (by first | decide | omega) ?_ | ((with_reducible first | apply i_lds | apply i_ldsq | apply i_ld | apply i_ldq); exact rfl) | ((with_reducible first | apply i_ldn | apply i_ldnq); exact rfl; exact rfl; exact rfl) | (with_reducible first | refine r_ph0 ?_ | apply i_kp0) | ((with_reducible first | apply i_st | apply i_stl); (focus simp); exact rfl) | ((try with_reducible refine d_reg ?_); simp only [go_sem, Nat.reduceAdd, Nat.reduceEqDiff, Int.reduceToNat, Nat.reduceMul, Nat.reduceSub]) | clear hK K)
              all_goals try (exfalso; omega)
              refine d_lp [11, 26, 28] (fun i : Nat => [(11, .slice op3 ps3.length oc3), (26, .slice rp rs2.length rc), (28, .int .i64 (i : Int))])
                (fun _ => ow 36 13 (rp, rs2.length, rc) (rs2.flatMap rcl) :: S :: ow 9 1 (op3, ps3.length, oc3) (strs ps3) :: A :: L) (fun i => i ≤ rs2.length) (fun i => rs2.length - i) 0 rfl SX.p (by omega) ?_
              intro z hz3
              by_cases hzl : z < rs2.length
              · have hr1 : rs2[z]? = some rs2[z] := List.getElem?_eq_getElem hzl
                have hx1 : ps3[z]? = some ps3[z] := List.getElem?_eq_getElem (by omega)
                have hat := hRL.g z rs2[z] ps3[z].2.clean hr1 (by rw [List.getElem?_map, hx1]; rfl)
                have hpx := (hps3 ps3[z] (List.getElem_mem _)).2
                have hs3 : (strs ps3)[z]? = some (str ps3[z].1) := by simp [strs, hx1]
                generalize rs2[z] = r1 at *
                generalize ps3[z] = x1 at *
                have FR1 := g18 S r1 x1.2.clean hat
                rw [frame_clean, hpx] at FR1
                refine i_ow (t := 9) (sz := 1) (op3, ps3.length, oc3) fun hRs => ?_
                obtain ⟨a1, rfl⟩ := hRs.ptr (by omega)
                obtain ⟨a3, rfl⟩ := hRr.ptr (by omega)
                repeat' ((fail_if_success with_reducible refine nph ?_); first | (with_reducible first | (refine d_seq ?_; intro K hK) | (refine hK _ _ ?_; clear hK K) | refine d_blk ?_ | refine d_rt0 ?_ | refine d_sk0 ?_ | refine d_ex0 ?_ | (refine r_nwc ?_; intro b)) | (first | ((with_reducible refine d_cnd ?_); refine And.intro ?_ ?_) | with_reducible refine r_cnd ?_ ?_) <;> intro hc <;> try simp only [push_cast, Int.reduceEq, Int.reduceLT, Int.reduceLE, Int.reduceNe] at hc | with_reducible refine r_rq (by first | decide | omega) ?_ | ((with_reducible first | apply i_lds | apply i_ldsq | apply i_ld | apply i_ldq); exact rfl) | ((with_reducible first | apply i_ldn | apply i_ldnq); exact rfl; exact rfl; exact rfl) | (with_reducible first | refine r_ph0 ?_ | apply i_kp0) | ((with_reducible first | apply i_st | apply i_stl); (focus simp); exact rfl) | ((try with_reducible refine d_reg ?_); simp only [go_sem, Nat.reduceAdd, Nat.reduceEqDiff, Int.reduceToNat, Nat.reduceMul, Nat.reduceSub]) | clear hK K)
                all_goals try (exfalso; omega)
                refine i_sn hRr rcl_len hr1 rfl ?_
                refine i_clp FR1 ?_
                repeat' ((fail_if_success with_reducible refine nph ?_); first | (with_reducible first | (refine d_seq ?_; intro K hK) | (refine hK _ _ ?_; clear hK K) | refine d_blk ?_ | refine d_rt0 ?_ | refine d_sk0 ?_ | refine d_ex0 ?_ | (refine r_nwc ?_; intro b)) | (first | ((with_reducible refine d_cnd ?_); refine And.intro ?_ ?_) | with_reducible refine r_cnd ?_ ?_) <;> intro hc <;> try simp only [push_cast, Int.reduceEq, Int.reduceLT, Int.reduceLE, Int.reduceNe] at hc | with_reducible refine r_rq (by first | decide | omega) ?_ | ((with_reducible first | apply i_lds | apply i_ldsq | apply i_ld | apply i_ldq); exact rfl) | ((with_reducible first | apply i_ldn | apply i_ldnq); exact rfl; exact rfl; exact rfl) | (with_reducible first | refine r_ph0 ?_ | apply i_kp0) | ((with_reducible first | apply i_st | apply i_stl); (focus simp); exact rfl) | ((try with_reducible refine d_reg ?_); simp only [go_sem, Nat.reduceAdd, Nat.reduceEqDiff, Int.reduceToNat, Nat.reduceMul, Nat.reduceSub]) | clear hK K)
                all_goals try contradiction
                refine i_o1 (e := eS) (y := x1.1) hs3 ?_
                repeat' (first | rw [w64 (n := (z : Int) + 1) (by omega) (by omega)] | (fail_if_success with_reducible refine nph ?_); first | (with_reducible first | (refine d_seq ?_; intro K hK) | (refine hK _ _ ?_; clear hK K) | refine d_blk ?_ | refine d_rt0 ?_ | refine d_sk0 ?_ | refine d_ex0 ?_ | (refine r_nwc ?_; intro b)) | (first | ((with_reducible refine d_cnd ?_); refine And.intro ?_ ?_) | with_reducible refine r_cnd ?_ ?_) <;> intro hc <;> try simp only [push_cast, Int.reduceEq, Int.reduceLT, Int.reduceLE, Int.reduceNe] at hc | with_reducible refine r_rq (by first | decide | omega) ?_ | ((with_reducible first | apply i_lds | apply i_ldsq | apply i_ld | apply i_ldq); exact rfl) | ((with_reducible first | apply i_ldn | apply i_ldnq); exact rfl; exact rfl; exact rfl) | (with_reducible first | refine r_ph0 ?_ | apply i_kp0) | ((with_reducible first | apply i_st | apply i_stl); (focus simp); exact rfl) | ((try with_reducible refine d_reg ?_); simp only [go_sem, Nat.reduceAdd, Nat.reduceEqDiff, Int.reduceToNat, Nat.reduceMul, Nat.reduceSub]) | clear hK K)
                all_goals try contradiction
                exact i_bk (z + 1) rfl (by omega) (by omega)
              · repeat' ((fail_if_success with_reducible refine nph ?_); first | (with_reducible first | (refine d_seq ?_; intro K hK) | (refine hK _ _ ?_; clear hK K) | refine d_blk ?_ | refine d_rt0 ?_ | refine d_sk0 ?_ | refine d_ex0 ?_ | (refine r_nwc ?_; intro b)) | (first | ((with_reducible refine d_cnd ?_); refine And.intro ?_ ?_) | with_reducible refine r_cnd ?_ ?_) <;> intro hc <;> try simp only [push_cast, Int.reduceEq, Int.reduceLT, Int.reduceLE, Int.reduceNe] at hc | with_reducible refine r_rq (by first | decide | omega) ?_ | ((with_reducible first | apply i_lds | apply i_ldsq | apply i_ld | apply i_ldq); exact rfl) | ((with_reducible first | apply i_ldn | apply i_ldnq); exact rfl; exact rfl; exact rfl) | (with_reducible first | refine r_ph0 ?_ | apply i_kp0) | ((with_reducible first | apply i_st | apply i_stl); (focus simp); exact rfl) | ((try with_reducible refine d_reg ?_); simp only [go_sem, Nat.reduceAdd, Nat.reduceEqDiff, Int.reduceToNat, Nat.reduceMul, Nat.reduceSub]) | clear hK K)
                all_goals try (exfalso; omega)
                refine i_clp g15 ?_
                repeat' ((fail_if_success with_reducible refine nph ?_); first | (with_reducible first | (refine d_seq ?_; intro K hK) | (refine hK _ _ ?_; clear hK K) | refine d_blk ?_ | refine d_rt0 ?_ | refine d_sk0 ?_ | refine d_ex0 ?_ | (refine r_nwc ?_; intro b)) | (first | ((with_reducible refine d_cnd ?_); refine And.intro ?_ ?_) | with_reducible refine r_cnd ?_ ?_) <;> intro hc <;> try simp only [push_cast, Int.reduceEq, Int.reduceLT, Int.reduceLE, Int.reduceNe] at hc | with_reducible refine r_rq (by first | decide | omega) ?_ | ((with_reducible first | apply i_lds | apply i_ldsq | apply i_ld | apply i_ldq); exact rfl) | ((with_reducible first | apply i_ldn | apply i_ldnq); exact rfl; exact rfl; exact rfl) | (with_reducible first | refine r_ph0 ?_ | apply i_kp0) | ((with_reducible first | apply i_st | apply i_stl); (focus simp); exact rfl) | ((try with_reducible refine d_reg ?_); simp only [go_sem, Nat.reduceAdd, Nat.reduceEqDiff, Int.reduceToNat, Nat.reduceMul, Nat.reduceSub]) | clear hK K)
                (with_reducible first | apply i_ret0 | apply i_ret2 | apply i_ret3 | apply i_ret); exact rfl
                rfl
end Go.Sp
