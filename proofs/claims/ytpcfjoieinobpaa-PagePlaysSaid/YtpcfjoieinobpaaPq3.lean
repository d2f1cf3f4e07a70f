/- The layer page: pages behind insert, delete, update. -/
import Derived.Test.YtpcfjoieinobpaaPp13
namespace Go.Sp
open Go
set_option linter.unusedVariables false
set_option maxRecDepth 10000
theorem tot_ins (l : List api_Cell) (i : Nat) (c : api_Cell) : tot (l.take i ++ c :: l.drop i) = tot l + need c := by
  have h : tot l = tot (l.take i) + tot (l.drop i) := by rw [← tot_app, List.take_append_drop]
  rw [tot_app, tot_cons, h]; omega
theorem tot_del {l : List api_Cell} {i : Nat} (h : i < l.length) : tot (l.take i ++ l.drop (i + 1)) + need l[i] = tot l := by
  have h1 : tot l = tot (l.take i) + tot (l.drop i) := by rw [← tot_app, List.take_append_drop]
  rw [tot_app, h1, List.drop_eq_getElem_cons h, tot_cons]; omega
theorem rise_ins {l : List api_Cell} {c : api_Cell} (hr : rise l) (hn : isAt l c.Key = false) : rise (l.take (plc l c.Key) ++ c :: l.drop (plc l c.Key)) := by
  unfold rise at *
  have hp := hr
  rw [← List.take_append_drop (plc l c.Key) l] at hp
  rw [List.pairwise_append] at hp ⊢
  have hdr : ∀ b ∈ l.drop (plc l c.Key), Op.bytesLess c.Key b.Key = true := by
    intro b hb
    have hlt : plc l c.Key < l.length := by
      rcases Nat.lt_or_ge (plc l c.Key) l.length with h | h
      · exact h
      · rw [List.drop_of_length_le h] at hb; cases hb
    have hx : l[plc l c.Key]? = some l[plc l c.Key] := by simp [hlt]
    have h0 := plc_ge l _ hx
    have h1 : Op.bytesLess c.Key l[plc l c.Key].Key = true := by
      rcases less_total c.Key l[plc l c.Key].Key with h | h | h
      · exact h
      · have hk : (l[plc l c.Key].Key == c.Key) = false := by unfold isAt at hn; rw [hx] at hn; exact hn
        rw [← h, beq_self_eq_true] at hk; cases hk
      · rw [h0] at h; cases h
    rw [List.drop_eq_getElem_cons hlt] at hb
    rcases List.mem_cons.1 hb with rfl | hb
    · exact h1
    · obtain ⟨j, hj, rfl⟩ := List.getElem_of_mem hb
      have hj' : plc l c.Key + 1 + j < l.length := by simp at hj; omega
      have := rise_get hr (show plc l c.Key < plc l c.Key + 1 + j by omega) hx (by simp [hj'] : l[plc l c.Key + 1 + j]? = some l[plc l c.Key + 1 + j])
      simp only [List.getElem_drop]
      exact less_trans h1 this
  refine ⟨hp.1, ?_, fun a ha b hb => ?_⟩
  · rw [List.pairwise_cons]
    exact ⟨hdr, hp.2.1⟩
  · have hac : Op.bytesLess a.Key c.Key = true := by
      obtain ⟨j, hj, rfl⟩ := List.getElem_of_mem ha
      have hj' : j < plc l c.Key ∧ j < l.length := by simp at hj; omega
      have := plc_lt l j l[j] hj'.1 (by simp [hj'.2])
      simpa using this
    rcases List.mem_cons.1 hb with rfl | hb
    · exact hac
    · exact hp.2.2 a ha b hb
theorem rise_del {l : List api_Cell} (hr : rise l) (i : Nat) : rise (l.take i ++ l.drop (i + 1)) := by
  unfold rise at *
  refine hr.sublist ?_
  have : (l.take i ++ l.drop (i + 1)).Sublist (l.take i ++ l.drop i) := List.Sublist.append (List.Sublist.refl _) (by rw [← List.drop_drop]; exact List.drop_sublist 1 _)
  rwa [List.take_append_drop] at this
/-- A key that was taken away would be where it was. -/
theorem plc_del {l : List api_Cell} {key : List UInt8} (hr : rise l) (hat : isAt l key = true) : plc (l.take (plc l key) ++ l.drop (plc l key + 1)) key = plc l key ∧ isAt (l.take (plc l key) ++ l.drop (plc l key + 1)) key = false := by
  have hlt := isAt_lt hat
  have hx : l[plc l key]? = some l[plc l key] := by simp [hlt]
  have hk : l[plc l key].Key = key := by unfold isAt at hat; rw [hx] at hat; simpa using hat
  have hlen : (l.take (plc l key)).length = plc l key := by simp; omega
  have hge : ∀ c, (l.take (plc l key) ++ l.drop (plc l key + 1))[plc l key]? = some c → Op.bytesLess key c.Key = true := by
    intro c hc
    rw [List.getElem?_append_right (by omega), hlen, Nat.sub_self, List.getElem?_drop, Nat.add_zero] at hc
    have := rise_get hr (show plc l key < plc l key + 1 by omega) hx hc
    rwa [hk] at this
  have hp : plc (l.take (plc l key) ++ l.drop (plc l key + 1)) key = plc l key := by
    refine plc_eq _ _ (by simp; omega) (fun t c ht hc => ?_) fun c hc => ?_
    · rw [List.getElem?_append_left (by omega), List.getElem?_take, if_pos ht] at hc
      exact plc_lt l t c ht hc
    · have := hge c hc
      cases hb : Op.bytesLess c.Key key with
      | false => rfl
      | true => have := less_trans this hb; rw [less_irrefl] at this; cases this
  refine ⟨hp, ?_⟩
  unfold isAt
  rw [hp]
  cases hc : (l.take (plc l key) ++ l.drop (plc l key + 1))[plc l key]? with
  | none => rfl
  | some c =>
    have := hge c hc
    show (c.Key == key) = false
    cases hb : c.Key == key with
    | false => rfl
    | true =>
      have hk : c.Key = key := by simpa using hb
      rw [hk, less_irrefl] at this
      cases this
section
variable {m : List UInt8} {i : Nat} {c : api_Cell}
theorem put_core (hw : wf m) (hi : i ≤ bt m 2) (hc : okC c) (hroom : (need c : Int) ≤ roomI m) :
    wf (putM m i c) ∧ bt (putM m i c) 0 = bt m 0 ∧ bt (putM m i c) 1 = bt m 1 ∧ bt (putM m i c) 2 = bt m 2 + 1 ∧ cels (putM m i c) (bt m 2 + 1) = (cels m (bt m 2)).take i ++ c :: (cels m (bt m 2)).drop i := by
  have hro : roomI m = 220 - (tot (cels m (bt m 2)) : Int) := rfl
  have h3 : 3 ≤ need c := by unfold need; omega
  unfold putM
  rw [if_pos hroom]
  by_cases h7 : 224 < bt m 3 + bt m 2 + need c
  · rw [if_pos h7]
    have b0 := bt_lt m 0
    have b1 := bt_lt m 1
    have ht : tot (cels m (bt m 2)) ≤ 220 := by omega
    have e0 : bt (packM m) 0 = bt m 0 := packedB_0 _ _ _ b0
    have e1 : bt (packM m) 1 = bt m 1 := packedB_1 _ _ _ b1
    have e2 : bt (packM m) 2 = bt m 2 := by unfold packM; rw [packedB_2 ht, cels_len]
    have e3 : bt (packM m) 3 = 4 + (heapB (cels m (bt m 2))).length := packedB_3 ht
    have e4 := heapB_len (cels m (bt m 2))
    rw [cels_len] at e4
    have hpw := packed_wf (k := bt m 0) (lv := bt m 1) ht (cel_ok hw (Nat.le_refl _)) b0 b1
    have hwP : wf (packM m) := hpw.1
    have hcP : cels (packM m) (bt m 2) = cels m (bt m 2) := by have := hpw.2; rwa [cels_len] at this
    have hf : fit (packM m) i c := ⟨by omega, by omega⟩
    have hcl := cels_lay hwP hf
    rw [e2, hcP] at hcl
    exact ⟨wf_lay hwP hf hc.1 hc.2, by rw [lay_lo hwP hf 0 (by omega), e0], by rw [lay_lo hwP hf 1 (by omega), e1], by rw [lay_2 hwP hf, e2], hcl⟩
  · rw [if_neg h7]
    have hf : fit m i c := ⟨hi, by omega⟩
    exact ⟨wf_lay hw hf hc.1 hc.2, lay_lo hw hf 0 (by omega), lay_lo hw hf 1 (by omega), lay_2 hw hf, cels_lay hw hf⟩
/-- From its parts a page. -/
theorem isPg_of (hw : wf m) (h0 : bt m 0 ≤ 2) (h0' : bt m 0 ≠ 0) (h1 : bt m 0 ≠ 2 → bt m 1 = 0) (hr : rise (cels m (bt m 2))) (ht : tot (cels m (bt m 2)) ≤ 220) : isPg m = true :=
  isPg_t (preB_iff.2 ⟨hw.1, h0⟩) ((fits_iff hw.1).2 ⟨hw, fun h => absurd h h0', h1, hr, ht⟩)
theorem pg_put (ho : opn m = true) (hc : okC c) (hn : isAt (pcs m) c.Key = false) (hroom : (need c : Int) ≤ roomI m) :
    opn (putM m (plc (pcs m) c.Key) c) = true ∧ pcs (putM m (plc (pcs m) c.Key) c) = (pcs m).take (plc (pcs m) c.Key) ++ c :: (pcs m).drop (plc (pcs m) c.Key) := by
  obtain ⟨hpg, h0⟩ := opn_pg ho
  have hw := pg_wf hpg
  have e := pcs_t hpg
  have hle : plc (pcs m) c.Key ≤ bt m 2 := by have := plc_le c.Key (pcs m); rw [e, cels_len] at this; rw [e]; exact this
  obtain ⟨p1, p2, p3, p4, p5⟩ := put_core hw.1 hle hc hroom
  rw [e] at hn p1 p2 p3 p4 p5 ⊢
  have hr := rise_ins hw.2.2.2.2.1 hn
  have ht := tot_ins (cels m (bt m 2)) (plc (cels m (bt m 2)) c.Key) c
  have hro : roomI m = 220 - (tot (cels m (bt m 2)) : Int) := rfl
  have hq : isPg (putM m (plc (cels m (bt m 2)) c.Key) c) = true := isPg_of p1 (by have := hw.2.1; omega) (by omega) (by rw [p2, p3]; exact hw.2.2.2.1) (by rw [p4, p5]; exact hr) (by rw [p4, p5, ht]; omega)
  exact ⟨by unfold opn; rw [hq, p2]; simpa using h0, by rw [pcs_t hq, p4, p5]⟩
theorem pg_drop (ho : opn m = true) (hi : i < (pcs m).length) : opn (dropB m i) = true ∧ pcs (dropB m i) = (pcs m).take i ++ (pcs m).drop (i + 1) := by
  obtain ⟨hpg, h0⟩ := opn_pg ho
  have hw := pg_wf hpg
  have e := pcs_t hpg
  rw [e, cels_len] at hi
  have h220 := hw.1.inn.2.1
  have p1 := wf_drop hw.1 hi
  have p2 := drop_same hw.1 hi 0 (by omega) (by omega)
  have p3 := drop_same hw.1 hi 1 (by omega) (by omega)
  have p4 := drop_2 hw.1 hi
  have p5 := cels_drop hw.1 hi
  have ht := tot_del (l := cels m (bt m 2)) (i := i) (by rw [cels_len]; exact hi)
  have htt := hw.2.2.2.2.2
  rw [e]
  have hq : isPg (dropB m i) = true := isPg_of p1 (by have := hw.2.1; omega) (by omega) (by rw [p2, p3]; exact hw.2.2.2.1) (by rw [p4, p5]; exact rise_del hw.2.2.2.2.1 i) (by rw [p4, p5]; omega)
  exact ⟨by unfold opn; rw [hq, p2]; simpa using h0, by rw [pcs_t hq, p4, p5]⟩
end
end Go.Sp
