/- Texts of a proof, one behind the other: Y14 Y13. No condition. -/
import Derived.Test.YtdaochacbbaihaaM30228819
namespace Go.Sp
open Go Go.Proofs
set_option linter.unusedSimpArgs false
set_option linter.unusedVariables false
theorem lkp_some {M : List Gn} {k : List UInt8} : ∀ {ids : List Int}, (lkp M k ids).isSome = true ↔ ∃ i ∈ ids, ((fg M i).bind fun g => gk g.ks k).isSome = true
  | [] => by simp [lkp]
  | i :: r => by
    unfold lkp
    cases h : (fg M i).bind fun g => gk g.ks k with
    | some w => simp [h]
    | none => simp [h, lkp_some (ids := r)]
theorem gk_isSome {κ ε : Enc} [DecidableEq κ.α] {es : Ents κ ε} {k : κ.α} : (gk es k).isSome = true ↔ k ∈ es.map (·.1) := by
  constructor
  · intro h
    obtain ⟨v, hv⟩ := Option.isSome_iff_exists.1 h
    obtain ⟨b, hb⟩ := gk_some hv
    exact List.mem_map_of_mem (f := (·.1)) hb
  · intro h
    cases hg : gk es k with
    | some v => rfl
    | none =>
      obtain ⟨x, hx, rfl⟩ := List.mem_map.1 h
      exact absurd rfl (gk_none.1 hg x hx)
theorem getp_iff {M : List Gn} (hid : (M.map (·.id)).Nodup) {k : List UInt8} : (getp M k).isSome = true ↔ ∃ g ∈ M, k ∈ g.ks.map (·.1) := by
  unfold getp
  rw [lkp_some]
  have hp : ∀ i, i ∈ srt (M.map (·.id)) ↔ i ∈ M.map (·.id) := fun i => (List.mergeSort_perm _ _).mem_iff
  constructor
  · rintro ⟨i, hi, h⟩
    cases hf : fg M i with
    | none => rw [hf] at h; cases h
    | some g =>
      rw [hf] at h
      exact ⟨g, (fg_mem hf).1, (gk_isSome (κ := eS) (ε := eWs)).1 h⟩
  · rintro ⟨g, hg, hk⟩
    refine ⟨g.id, (hp _).2 (List.mem_map_of_mem (f := (·.id)) hg), ?_⟩
    rw [fg_of hid hg]
    exact (gk_isSome (κ := eS) (ε := eWs)).2 hk
theorem less_asymm {a b : List UInt8} (h : Op.bytesLess a b = true) : Op.bytesLess b a = false := by
  cases h2 : Op.bytesLess b a with
  | false => rfl
  | true => have := less_trans h h2; rw [less_irrefl] at this; cases this
theorem sorted_unique : ∀ {a b : List (List UInt8)}, a.Pairwise (fun a b => Op.bytesLess a b = true) → b.Pairwise (fun a b => Op.bytesLess a b = true) → (∀ k, k ∈ a ↔ k ∈ b) → a = b
  | [], [], _, _, _ => rfl
  | [], y :: b, _, _, h => absurd ((h y).2 List.mem_cons_self) (by simp)
  | x :: a, [], _, _, h => absurd ((h x).1 List.mem_cons_self) (by simp)
  | x :: a, y :: b, ha, hb, h => by
    rw [List.pairwise_cons] at ha hb
    have e : x = y := by
      rcases List.mem_cons.1 ((h x).1 List.mem_cons_self) with e | e
      · exact e
      · rcases List.mem_cons.1 ((h y).2 List.mem_cons_self) with e2 | e2
        · exact e2.symm
        · have h1 := hb.1 x e
          have h2 := ha.1 y e2
          rw [less_asymm h1] at h2
          cases h2
    subst e
    congr 1
    refine sorted_unique ha.2 hb.2 fun k => ?_
    constructor
    · intro hk
      rcases List.mem_cons.1 ((h k).1 (List.mem_cons_of_mem _ hk)) with e | e
      · subst e
        have := ha.1 k hk
        rw [less_irrefl] at this; cases this
      · exact e
    · intro hk
      rcases List.mem_cons.1 ((h k).2 (List.mem_cons_of_mem _ hk)) with e | e
      · subst e
        have := hb.1 k hk
        rw [less_irrefl] at this; cases this
      · exact e
theorem Kset_unique {M : List Gn} {a b : List (List UInt8)} (ha : Kset M a) (hb : Kset M b) : a = b := sorted_unique ha.1 hb.1 fun k => (ha.2 k).trans (hb.2 k).symm
theorem rsb_iff : ∀ l : List api_Cell, rsb l = true ↔ l.Pairwise fun a b => Op.bytesLess a.Key b.Key = true
  | [] => by simp [rsb]
  | [x] => by simp [rsb]
  | x :: y :: r => by
    rw [rsb, Bool.and_eq_true, rsb_iff (y :: r), List.pairwise_cons (a := x)]
    constructor
    · rintro ⟨h1, h2⟩
      refine ⟨fun z hz => ?_, h2⟩
      rcases List.mem_cons.1 hz with rfl | hz
      · exact h1
      · exact less_trans h1 ((List.pairwise_cons.1 h2).1 z hz)
    · rintro ⟨h1, h2⟩
      exact ⟨h1 y List.mem_cons_self, h2⟩
abbrev rM (M : List Gn) (k : List UInt8) : past_Was × Bool := ((getp M k).getD ⟨[], false⟩, (getp M k).isSome)
theorem view_ok {M : List Gn} (hid : (M.map (·.id)).Nodup) {cs : List api_Cell} (hcs : rsb cs = true) {ks : List (List UInt8)} (hK : Kset M ks) (lo hi : List UInt8) :
    rsb (vall (rM M) lo hi cs ks) = true ∧ (cs.filter fun x => !(rM M x.Key).2).length + (ks.filter fun k => (rM M k).1.Is && ins k lo hi).length = (vall (rM M) lo hi cs ks).length ∧
    (∀ x ∈ cs, (rM M x.Key).2 = false → x ∈ vall (rM M) lo hi cs ks) ∧ ∀ k ∈ ks, ((rM M k).1.Is && ins k lo hi) = true → (⟨k, (rM M k).1.Val⟩ : api_Cell) ∈ vall (rM M) lo hi cs ks := by
  obtain ⟨hp, hs⟩ := psrt_ok ((cs.filter fun x => !(rM M x.Key).2) ++ kc (rM M) lo hi ks)
  have hk2 : ∀ k ∈ ks, (rM M k).2 = true := fun k hk => (getp_iff hid).2 ((hK.2 k).1 hk)
  refine ⟨?_, ?_, ?_, ?_⟩
  · rw [rsb_iff]
    have hnd : ((vall (rM M) lo hi cs ks).map (·.Key)).Nodup := by
      refine (hp.map (·.Key)).nodup_iff.2 ?_
      rw [List.map_append, List.nodup_append]
      refine ⟨?_, ?_, ?_⟩
      · refine List.Nodup.sublist ((List.filter_sublist (p := fun x : api_Cell => !(rM M x.Key).2) (l := cs)).map (·.Key)) ?_
        have := (rsb_iff cs).1 hcs
        rw [List.nodup_iff_pairwise_ne, List.pairwise_map]
        exact this.imp fun h e => by rw [e, less_irrefl] at h; cases h
      · have e : (kc (rM M) lo hi ks).map (·.Key) = ks.filter fun k => (rM M k).1.Is && ins k lo hi := by
          unfold kc
          rw [List.map_map]
          exact List.map_id _
        rw [e]
        refine List.Nodup.sublist List.filter_sublist ?_
        exact List.nodup_iff_pairwise_ne.2 (hK.1.imp fun h e => by rw [e, less_irrefl] at h; cases h)
      · intro a ha b hb e
        subst e
        obtain ⟨x, hx, rfl⟩ := List.mem_map.1 ha
        obtain ⟨y, hy, e⟩ := List.mem_map.1 hb
        obtain ⟨k, hk, rfl⟩ := List.mem_map.1 hy
        have h1 := (List.mem_filter.1 hx).2
        have h2 := hk2 k (List.mem_filter.1 hk).1
        rw [show (⟨k, (rM M k).1.Val⟩ : api_Cell).Key = k from rfl] at e
        rw [← e, h2] at h1
        cases h1
    rw [List.nodup_iff_pairwise_ne, List.pairwise_map] at hnd
    refine (hs.and hnd).imp fun {a b} ⟨h1, h2⟩ => ?_
    rcases less_total a.Key b.Key with h | h | h
    · exact h
    · exact absurd h h2
    · rw [h1] at h; cases h
  · have := hp.length_eq
    rw [List.length_append] at this
    unfold vall
    rw [this]
    congr 1
    unfold kc
    rw [List.length_map]
  · intro x hx h
    refine hp.mem_iff.2 (List.mem_append_left _ (List.mem_filter.2 ⟨hx, ?_⟩))
    rw [h]; rfl
  · intro k hk h
    refine hp.mem_iff.2 (List.mem_append_right _ ?_)
    exact List.mem_map.2 ⟨k, List.mem_filter.2 ⟨hk, h⟩, rfl⟩
end Go.Sp
namespace Go.Sp
open Go Go.Proofs
set_option linter.unusedSimpArgs false
set_option linter.unusedVariables false
set_option maxRecDepth 10000
variable {L : List HP}
abbrev rest3 : Sk := (.seq (.seq (.reg 11) (.cond (.tmp 56) (.seq (.reg 12) (.ret)) (.skip))) (.seq (.reg 13) (.seq (.reg 14) (.seq (.reg 15) (.seq (.seq (.reg 16) (.cond (.tmp 73) (.reg 17) (.skip))) (.seq (.seq (.reg 18) (.cond (.tmp 76) (.reg 19) (.skip))) (.seq (.seq (.reg 20) (.cond (.tmp 85) (.seq (.reg 21) (.ret)) (.skip))) (.seq (.seq (.reg 22) (.block 2 (.loop (.seq (.seq (.reg 23) (.cond (.tmp 89) (.skip) (.exit 2))) (.seq (.block 3 (.seq (.reg 25) (.cond (.tmp 100) (.seq (.reg 26) (.ret)) (.skip)))) (.reg 24)))))) (.seq (.reg 27) (.ret))))))))))
theorem nn_fold {e : Enc} {f : FuncId} {args : Array Value} {x : e.α} {A : List HP} (h : Fp e Try.prog f args A x) : Fp e Try.prog f args [HS A] x := Fq.foldp (C := []) (by rw [List.append_nil]; exact h)
def KSn (s : Ps) (n : Nat) (ks : List (List UInt8)) : Prop := Kset s.M ks ∧ ks.length ≤ n
theorem f13f (p : Nat) (s : Ps) {n : Nat} (h : s.ok n) (hn : n ≤ 1000000) : Fn eSl Try.prog 13 #[.pointer (some ⟨p, 0, none⟩)] [HS (ppt 45 p s)] (fun t X => ∃ ks, KSn s n ks ∧ X = [ow 9 1 t (ks.map fun k => str k), HS (ppt 45 p s)]) := fun L w hw => by
  have h0 : Holds w (ppt 45 p s ++ L) := Holds.open (by simpa using hw)
  refine (f13 p s h hn L w h0).mono ?_
  rintro en w' ⟨x, hx, X, ⟨ks, h1, h2, rfl⟩, hX⟩
  refine ⟨x, hx, _, ⟨ks, ⟨h1, h2⟩, rfl⟩, ?_⟩
  exact HS.cong (fun _ y => E.pull.HSclose y) hX
set_option maxHeartbeats 400000 in
theorem f3t {A PP : HP} {pp : Option Addr} {s : Ps} {n : Nat} (hid : (s.M.map (·.id)).Nodup) (hn : n ≤ 40) (hg : ∀ k, Fp (eT2 eWs eB) Try.prog 6 #[.pointer pp, str k] [PP] (rM s.M k)) (hk : Fn eSl Try.prog 13 #[.pointer pp] [PP] (fun t X => ∃ ks, KSn s n ks ∧ X = [ow 9 1 t (ks.map fun k => str k), PP]))
    (hKn : ∀ ks, KSn s n ks → ks.length ≤ 1000000) {tp : Option Addr} {tc : Nat} {cs : List api_Cell} (hR : Rs A (tp, cs.length, tc) 2 (cs.flatMap cC)) (h60 : cs.length ≤ 60) (lo hi : List UInt8) (most : Int) :
    E (PP :: A :: L) (D c3 rest3 (fnQ c3 eB fun x w => ∃ X, (X = [A] ∧ x = true) ∧ Holds w (X ++ L)) [(1, .slice tp cs.length tc), (2, str lo), (3, str hi), (4, .int .i64 most), (11, .pointer pp)]) := by
  unfold rest3
  have h7 : cs.length ≤ 4000000 := Nat.le_trans h60 (by decide)
  have h6 : cs.length ≤ 1000000 := Nat.le_trans h60 (by decide)
  have h8 := f8 hR h7
  repeat' (first | (with_reducible first | refine d_seq fun K hK => ?_ | (refine hK _ _ ?_; clear hK K) | (refine SG.p ?_; try intro b)) | refine i_c ?_ ?_ <;> intro hc <;> try simp only [push_cast, seval] at hc | refine i_x ?_ | clear hK K)
  refine i_clp h8 ?_
  repeat' (first | (with_reducible first | refine d_seq fun K hK => ?_ | (refine hK _ _ ?_; clear hK K) | (refine SG.p ?_; try intro b)) | refine i_c ?_ ?_ <;> intro hc <;> try simp only [push_cast, seval] at hc | refine i_x ?_ | clear hK K)
  · refine i_clp f9 ?_
    repeat' (first | (with_reducible first | refine d_seq fun K hK => ?_ | (refine hK _ _ ?_; clear hK K) | (refine SG.p ?_; try intro b)) | refine i_c ?_ ?_ <;> intro hc <;> try simp only [push_cast, seval] at hc | refine i_x ?_ | clear hK K)
    exact i_ret (e := eB) rfl rfl
  · have hcs : rsb cs = true := by simpa using hc
    refine i_cal (f10 hg hKn hk hR h6 lo hi most) ?_
    rintro ⟨vp, vn, vc⟩ _ ⟨ks, hks, rfl⟩
    simp only [List.cons_append, List.nil_append]
    repeat' (first | (with_reducible first | refine d_seq fun K hK => ?_ | (refine hK _ _ ?_; clear hK K) | (refine SG.p ?_; try intro b)) | refine i_c ?_ ?_ <;> intro hc <;> try simp only [push_cast, seval] at hc | refine i_x ?_ | clear hK K)
    refine i_cal (f10 hg hKn hk hR h6 lo hi 1000) ?_
    rintro ⟨ap, an, ac⟩ _ ⟨ks2, hks2, rfl⟩
    obtain rfl := Kset_unique hks.1 hks2.1
    simp only [List.cons_append, List.nil_append]
    obtain ⟨q1, q2, q3, q4⟩ := view_ok hid hcs hks.1 lo hi
    have hlv : (vall (rM s.M) lo hi cs ks).length ≤ 100 := by
      rw [← q2]
      have h1 := List.length_filter_le (fun x : api_Cell => !(rM s.M x.Key).2) cs
      have h2 := List.length_filter_le (fun k => (rM s.M k).1.Is && ins k lo hi) ks
      have h3 := hks.2
      omega
    rw [List.take_of_length_le (i := (1000 : Int).toNat) (by simpa using Nat.le_trans hlv (by decide))]
    have hall : ∀ ks', KSn s n ks' → (∀ k ∈ ks', ((rM s.M k).1.Is && ins k lo hi) = true → hdb ⟨k, (rM s.M k).1.Val⟩ (vall (rM s.M) lo hi cs ks) = true) ∧ (cs.filter fun x => !(rM s.M x.Key).2).length + (ks'.filter fun k => (rM s.M k).1.Is && ins k lo hi).length = (vall (rM s.M) lo hi cs ks).length := fun ks' h => by
      obtain rfl := Kset_unique hks.1 h.1
      exact ⟨fun k hk h => (hdb_iff _ _).2 (q4 k hk h), q2⟩
    have h1all : ∀ x ∈ cs, (rM s.M x.Key).2 = false → hdb x (vall (rM s.M) lo hi cs ks) = true := fun x hx h => (hdb_iff _ _).2 (q3 x hx h)
    generalize hV : vall (rM s.M) lo hi cs ks = V at *
    refine i_ow (t := 39) (sz := 2) (vp, vn, vc) fun hRv => ?_
    obtain rfl : vn = (V.take most.toNat).length := hRv.len cC_len (by decide)
    refine i_ow (t := 39) (sz := 2) (ap, an, ac) fun hRa => ?_
    obtain rfl : an = V.length := hRa.len cC_len (by decide)
    have hv4 : V.length ≤ 4000000 := Nat.le_trans hlv (by decide)
    have h8a := f8 hRa hv4
    have h11 := f11 hg hKn hk hR h6 hRa hv4 lo hi h1all hall
    have htl : (V.take most.toNat).length = min most.toNat V.length := List.length_take
    have hti : ∀ i, i < (V.take most.toNat).length → ∃ x, (V.take most.toNat)[i]? = some x ∧ V[i]? = some x := fun i hi' => by
      have h := List.getElem?_eq_getElem hi'
      refine ⟨_, h, ?_⟩
      rw [List.getElem?_take] at h
      split at h
      · exact h
      · cases h
    have hmx : (V.take most.toNat).length ≤ 1000000 := by omega
    generalize V.take most.toNat = V2 at *
    clear hlv hv4 h6 h7 h8 hall h1all hks2
    rw [q1] at h8a
    repeat' (first | (with_reducible first | refine d_seq fun K hK => ?_ | (refine hK _ _ ?_; clear hK K) | (refine SG.p ?_; try intro b)) | refine i_c ?_ ?_ <;> intro hc <;> try simp only [push_cast, seval] at hc | refine i_x ?_ | clear hK K)
    all_goals (try (exfalso; omega))
    iterate 3
      · refine i_clp h8a ?_
        repeat' (first | (with_reducible first | refine d_seq fun K hK => ?_ | (refine hK _ _ ?_; clear hK K) | (refine SG.p ?_; try intro b)) | refine i_c ?_ ?_ <;> intro hc <;> try simp only [push_cast, seval] at hc | refine i_x ?_ | clear hK K)
        all_goals (try (exfalso; simp at hc; done))
        refine d_lp [1, 2, 3, 11, 16, 17, 19] (fun i : Nat => [(1, .slice tp cs.length tc), (2, str lo), (3, str hi), (11, .pointer pp), (16, .slice vp V2.length vc), (17, .slice ap V.length ac), (19, .int .i64 (i : Int))])
          (fun _ => ow 39 2 (ap, V.length, ac) (V.flatMap cC) :: A :: PP :: ow 39 2 (vp, V2.length, vc) (V2.flatMap cC) :: L) (fun i => i ≤ V2.length) (fun i => V2.length - i) 0 rfl SX.p (Nat.zero_le _) ?_
        intro i hi'
        by_cases hlt : i < V2.length
        · obtain ⟨x, hx, hy⟩ := hti i hlt
          have hiV : i < V.length := (List.getElem?_eq_some_iff.1 hy).1
          obtain ⟨ad, rfl⟩ := hRv.ptr (by omega)
          obtain ⟨bd, rfl⟩ := hRa.ptr (by omega)
          have ei : IntKind.wrap .i64 ((i : Int) + 1) = ((i + 1 : Nat) : Int) := by rw [w64 (by omega) (by omega)]; omega
          repeat' (first | (with_reducible first | refine d_seq fun K hK => ?_ | (refine hK _ _ ?_; clear hK K) | (refine SG.p ?_; try intro b) | refine SP.p ?_) | refine i_c ?_ ?_ <;> intro hc <;> try simp only [push_cast, seval] at hc | refine i_x ?_ | clear hK K)
          all_goals try (exfalso; omega)
          all_goals (refine i_snq (e := e_api_Cell) (y := x) hRv cC_len hx rfl ?_)
          all_goals (repeat' (first | (with_reducible first | refine d_seq fun K hK => ?_ | (refine hK _ _ ?_; clear hK K) | (refine SG.p ?_; try intro b) | refine SP.p ?_) | refine i_c ?_ ?_ <;> intro hc <;> try simp only [push_cast, seval] at hc | refine i_x ?_ | clear hK K))
          all_goals try (exfalso; omega)
          all_goals (refine i_snq (e := e_api_Cell) (y := x) hRa cC_len hy rfl ?_)
          all_goals (refine r_valq (e := eB) (eqCn x x _ _) ?_)
          all_goals (repeat' (first | (with_reducible first | refine d_seq fun K hK => ?_ | (refine hK _ _ ?_; clear hK K) | (refine SG.p ?_; try intro b)) | refine i_c ?_ ?_ <;> intro hc <;> try simp only [push_cast, seval] at hc | refine i_x ?_ | clear hK K))
          all_goals (try (exfalso; simp at hc; done))
          all_goals (rw [ei]; exact i_bk (i + 1) rfl (by omega) (by omega))
        · repeat' (first | (with_reducible first | refine d_seq fun K hK => ?_ | (refine hK _ _ ?_; clear hK K) | (refine SG.p ?_; try intro b)) | refine i_c ?_ ?_ <;> intro hc <;> try simp only [push_cast, seval] at hc | refine i_x ?_ | clear hK K)
          all_goals try (exfalso; omega)
          refine i_clp h11 ?_
          repeat' (first | (with_reducible first | refine d_seq fun K hK => ?_ | (refine hK _ _ ?_; clear hK K) | (refine SG.p ?_; try intro b)) | refine i_c ?_ ?_ <;> intro hc <;> try simp only [push_cast, seval] at hc | refine i_x ?_ | clear hK K)
          all_goals (try (exfalso; simp at hc; done))
          refine i_clp f9 ?_
          repeat' (first | (with_reducible first | refine d_seq fun K hK => ?_ | (refine hK _ _ ?_; clear hK K) | (refine SG.p ?_; try intro b)) | refine i_c ?_ ?_ <;> intro hc <;> try simp only [push_cast, seval] at hc | refine i_x ?_ | clear hK K)
          exact i_ret (e := eB) rfl rfl
set_option maxHeartbeats 2000000 in
theorem f3 {A : HP} {s1 s2 : SlV} {rs : List api_Rec} {cs : List api_Cell} (hR1 : Rs A s1 13 (rs.flatMap rcl)) (hQ : ∀ r ∈ rs, RecA r) (hl1 : rs.length ≤ maxLen) (hR2 : Rs A s2 2 (cs.flatMap cC)) (hcap : s2.2.1 ≤ s2.2.2) (hl2 : cs.length ≤ maxLen) (lo hi : List UInt8) (most : Int) :
    Fp eB Try.prog 3 #[.slice s1.1 s1.2.1 s1.2.2, .slice s2.1 s2.2.1 s2.2.2, str lo, str hi, .int .i64 most] [A] true := fun L => by
  simp only [maxLen] at hl1 hl2
  obtain ⟨sp, sn, sc⟩ := s1
  obtain rfl : sn = rs.length := hR1.len rcl_len (by decide)
  obtain ⟨tp, tn, tc⟩ := s2
  obtain rfl : tn = cs.length := hR2.len cC_len (by decide)
  refine c3_fn rfl rfl ?_
  repeat' (first | (with_reducible first | refine d_seq fun K hK => ?_ | (refine hK _ _ ?_; clear hK K) | (refine SG.p ?_; try intro b)) | refine i_c ?_ ?_ <;> intro hc <;> try simp only [push_cast, seval] at hc | refine i_x ?_ | clear hK K)
  refine i_cal f5 ?_
  rintro _ _ ⟨p, mb, ml, rfl, rfl⟩
  repeat' (first | (with_reducible first | refine d_seq fun K hK => ?_ | (refine hK _ _ ?_; clear hK K) | (refine SG.p ?_; try intro b)) | refine i_c ?_ ?_ <;> intro hc <;> try simp only [push_cast, seval] at hc | refine i_x ?_ | clear hK K)
  refine d_lp [0, 1, 2, 3, 4, 11, 12] (fun t : Nat × Ps => [(0, .slice sp rs.length sc), (1, .slice tp cs.length tc), (2, str lo), (3, str hi), (4, .int .i64 most), (11, .pointer (some ⟨p, 0, none⟩)), (12, .int .i64 (t.1 : Int))])
    (fun t => ppt 45 p t.2 ++ A :: L) (fun t => t.1 ≤ 40 ∧ t.1 ≤ rs.length ∧ t.2.ok t.1) (fun t => 40 - t.1) (0, ⟨mb, ml, [], 0, [], 0⟩) rfl SX.p ⟨Nat.zero_le _, Nat.zero_le _, ok0 _ _⟩ ?_
  rintro ⟨i, s⟩ ⟨h40, hi', hs⟩
  dsimp only at h40 hi' hs ⊢
  by_cases hlt : i < rs.length ∧ i < 40
  · obtain ⟨hlt, hlt2⟩ := hlt
    have hx : rs[i]? = some rs[i] := List.getElem?_eq_getElem hlt
    have hq := hQ rs[i] (List.getElem_mem hlt)
    obtain ⟨ad, rfl⟩ := hR1.ptr (by omega)
    have ei : IntKind.wrap .i64 ((i : Int) + 1) = ((i + 1 : Nat) : Int) := by rw [w64 (by omega) (by omega)]; omega
    generalize rs[i] = r at *
    repeat' (first | (with_reducible first | refine d_seq fun K hK => ?_ | (refine hK _ _ ?_; clear hK K) | (refine SG.p ?_; try intro b)) | refine i_c ?_ ?_ <;> intro hc <;> try simp only [push_cast, seval] at hc | refine i_x ?_ | clear hK K)
    all_goals try (exfalso; omega)
    refine i_sn (y := r) hR1 rcl_len hx rfl ?_
    repeat' (first | (with_reducible first | refine d_seq fun K hK => ?_ | (refine hK _ _ ?_; clear hK K) | (refine SG.p ?_; try intro b)) | refine i_c ?_ ?_ <;> intro hc <;> try simp only [push_cast, seval] at hc | refine i_x ?_ | clear hK K)
    refine i_clp (f6 p s r.Key hs (by omega)) ?_
    repeat' (first | (with_reducible first | refine d_seq fun K hK => ?_ | (refine hK _ _ ?_; clear hK K) | (refine SG.p ?_; try intro b)) | refine i_c ?_ ?_ <;> intro hc <;> try simp only [push_cast, seval] at hc | refine i_x ?_ | clear hK K)
    · refine i_cal (f7 p s r _) ?_
      rintro _ _ ⟨nb, rfl⟩
      repeat' (first | (with_reducible first | refine d_seq fun K hK => ?_ | (refine hK _ _ ?_; clear hK K) | (refine SG.p ?_; try intro b)) | refine i_c ?_ ?_ <;> intro hc <;> try simp only [push_cast, seval] at hc | refine i_x ?_ | clear hK K)
      rw [ei]
      exact i_bk (i + 1, nt s r ((i + 1 : Nat) : Int) nb) rfl ⟨by dsimp only; omega, by dsimp only; omega, nt_ok hs hq.1 hq.2 _ _⟩ (by dsimp only; omega)
    · rw [ei]
      exact i_bk (i + 1, s) rfl ⟨by dsimp only; omega, by dsimp only; omega, hs.mono (by omega)⟩ (by dsimp only; omega)
  · have hid : (s.M.map (·.id)).Nodup := by have := hs.o.1; rwa [oe_ids] at this
    have hg : ∀ k, Fp (eT2 eWs eB) Try.prog 6 #[.pointer (some ⟨p, 0, none⟩), str k] [HS (ppt 45 p s)] (rM s.M k) := fun k => nn_fold (f6 p s k hs (by omega))
    have hk := f13f p s hs (by omega)
    have hKn : ∀ ks, KSn s i ks → ks.length ≤ 1000000 := fun ks h => by have := h.2; omega
    have tail : ∀ {tp : Option Addr} {tc : Nat} {cs : List api_Cell}, Rs A (tp, cs.length, tc) 2 (cs.flatMap cC) → cs.length ≤ 60 → E (ppt 45 p s ++ A :: L) (D c3 rest3 (fnQ c3 eB fun x w => ∃ X, (X = [A] ∧ x = true) ∧ Holds w (X ++ L)) [(1, .slice tp cs.length tc), (2, str lo), (3, str hi), (4, .int .i64 most), (11, .pointer (some ⟨p, 0, none⟩))]) :=
      fun hR h60 => E.close (A := ppt 45 p s) (f3t hid h40 hg hk hKn hR h60 lo hi most)
    have tail1 : cs.length ≤ 60 → _ := fun h => tail hR2 h
    have tail2 : 60 < cs.length → E (ppt 45 p s ++ A :: L) (D c3 rest3 (fnQ c3 eB fun x w => ∃ X, (X = [A] ∧ x = true) ∧ Holds w (X ++ L)) [(1, .slice tp 60 (tc - 0)), (2, str lo), (3, str hi), (4, .int .i64 most), (11, .pointer (some ⟨p, 0, none⟩))]) := fun h => by
      have e60 : (cs.take 60).length = 60 := by rw [List.length_take]; omega
      have h1 : Rs A (slp tp 0 (tc : Int) 2, 60, tc - 0) 2 ((cs.take 60).flatMap cC) := hR2.pre (c' := tc - 0) cC_len rfl (by omega) hcap
      rw [slp0] at h1
      have h2 := tail (tp := tp) (tc := tc - 0) (cs := cs.take 60) (by rw [e60]; exact h1) (by omega)
      rw [e60] at h2
      exact h2
    have hcap' : cs.length ≤ tc := hcap
    clear tail hg hk hKn hid
    repeat' ((fail_if_success with_reducible refine (id : E _ (D _ rest3 _ _) → E _ (D _ rest3 _ _)) ?_); first | (first | (with_reducible first | refine d_seq fun K hK => ?_ | (refine hK _ _ ?_; clear hK K) | (refine SG.p ?_; try intro b)) | refine i_c ?_ ?_ <;> intro hc <;> try simp only [push_cast, seval] at hc | refine i_x ?_ | clear hK K))
    all_goals try (exfalso; omega)
    · rw [slp0]
      exact tail2 (by omega)
    · exact tail1 (by omega)
    · rw [slp0]
      exact tail2 (by omega)
    · exact tail1 (by omega)
theorem cel_of {cs : List Value} (h : lfs [.s, .s] cs) : ∃ x : api_Cell, cs = cC x ∧ True := by
  rcases cs with _ | ⟨v1, _ | ⟨v2, _ | ⟨v3, cs⟩⟩⟩ <;> simp only [lfs, and_false, false_and, and_true] at h
  obtain ⟨⟨k, rfl, _⟩, ⟨t, rfl, _⟩⟩ := h
  exact ⟨⟨k, t⟩, rfl, trivial⟩
end Go.Sp
